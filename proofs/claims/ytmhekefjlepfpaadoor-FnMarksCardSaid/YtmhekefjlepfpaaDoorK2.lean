/- Words for memory, second part: an own slice said by its cells alone (a row that a conversion froze behind its end is one, too), and append to it. -/
import Derived.Test.YtmhekefjlepfpaaDoorK
import Derived.ArgAppend
import Derived.OwnWalk
import Derived.Deep.Draws
import Derived.Deep.OwnRows
namespace Go.Proofs.YtmhekefjlepfpaaDoor
open Go.RowKit
set_option linter.unusedVariables false
set_option linter.unusedSimpArgs false

/-- the slice v of n elements (size cells each) lies in a row of its own from block B on, its cells are xs, all its places up to the capacity can be written -/
def Obs (w : World) (B size : Nat) (v : Value) (n : Nat) (xs : List Value) : Prop :=
  xs.length = n * size ∧ ((v = .slice none 0 0 ∧ n = 0) ∨ ∃ g cap, v = .slice (some ⟨g, 0, none⟩) n cap ∧ B ≤ g ∧ g < w.heap.size ∧ n ≤ cap ∧ cap ≤ maxLen ∧
    (∀ j, j < cap * size → (w.cell? ⟨g, j, none⟩).isSome = true ∧ w.frozen? ⟨g, j, none⟩ = false) ∧ ∀ j u, xs[j]? = some u → w.cell? ⟨g, j, none⟩ = some u)

theorem Obs.of_own {w : World} {B size n : Nat} {e : TypeId} {v : Value} {xs : List Value} (h : w.ownsRow B e size v n xs) : Obs w B size v n xs := by
  refine ⟨h.1, ?_⟩
  have hl := h.lt
  have hce : ∀ g, v.ownBlock = some g → ∀ (j : Nat) (u : Value), xs[j]? = some u → w.cell? ((⟨g, 0, none⟩ : Addr).add j) = some u := fun g hg => h.cells hg
  rcases h.2 with h2 | ⟨g, cap, cur, rfl, hB, hg, hnc, hm, hcs, htk⟩
  · exact .inl h2
  · refine .inr ⟨g, cap, rfl, hB, (hl g rfl).2, hnc, hm, fun j hj => ?_, fun j u hu => ?_⟩
    · have hc := cell_of_row w g j cur e (0, 0) hg
      refine ⟨?_, h.frozenAt j⟩
      rw [hc]
      simp
      omega
    · have := hce g rfl j u hu
      unfold Addr.add at this
      split at this <;> simp_all

theorem Obs.nil (w : World) (B size : Nat) : Obs w B size (.slice none 0 0) 0 [] := ⟨by simp, .inl ⟨rfl, rfl⟩⟩
theorem Obs.same {w w' : World} {B size n : Nat} {v : Value} {xs : List Value} (h : Obs w B size v n xs) (hs : w.heap.size ≤ w'.heap.size)
    (hk : ∀ g, v.ownBlock = some g → w'.heap[g]? = w.heap[g]?) : Obs w' B size v n xs := by
  refine ⟨h.1, ?_⟩
  rcases h.2 with h2 | ⟨g, cap, rfl, hB, hg, hnc, hm, hc, hx⟩
  · exact .inl h2
  · have hb := hk g rfl
    have e1 : ∀ j, w'.cell? ⟨g, j, none⟩ = w.cell? ⟨g, j, none⟩ := fun j => World.cell?_of_block (w := w) (a := ⟨g, j, none⟩) hb
    have e2 : ∀ j, w'.frozen? ⟨g, j, none⟩ = w.frozen? ⟨g, j, none⟩ := fun j => World.frozen?_of_block (w := w) (a := ⟨g, j, none⟩) hb
    exact .inr ⟨g, cap, rfl, hB, by omega, hnc, hm, fun j hj => by rw [e1, e2]; exact hc j hj, fun j u hu => by rw [e1]; exact hx j u hu⟩
theorem Obs.lt {w : World} {B size n : Nat} {v : Value} {xs : List Value} (h : Obs w B size v n xs) : ∀ g, v.ownBlock = some g → B ≤ g ∧ g < w.heap.size := by
  intro g hg
  rcases h.2 with ⟨rfl, _⟩ | ⟨g', cap, rfl, hB, hlt, _⟩
  · simp [Value.ownBlock] at hg
  · simp [Value.ownBlock] at hg
    subst hg
    exact ⟨hB, hlt⟩
theorem Obs.drew {w : World} {B size n : Nat} {v : Value} {xs : List Value} (h : Obs w B size v n xs) : Obs w.drew B size v n xs := h
theorem Obs.drewN {w : World} {B size n : Nat} {v : Value} {xs : List Value} (h : Obs w B size v n xs) (k : Nat) : Obs (w.drewN k) B size v n xs := h
theorem Obs.alloc {w : World} {B size n : Nat} {v : Value} {xs : List Value} (h : Obs w B size v n xs) (o : Obj) : Obs (w.alloc o) B size v n xs :=
  h.same (by simp) (fun g hg => Below.heap_alloc w o g (h.lt g hg).2)
theorem Obs.below {w w' : World} {B size n : Nat} {v : Value} {xs : List Value} (h : Obs w B size v n xs) (hb : Below w.heap.size w w') : Obs w' B size v n xs :=
  h.same hb.size (fun g hg => hb.block g (h.lt g hg).2)
theorem Obs.mono {w : World} {B B' size n : Nat} {v : Value} {xs : List Value} (h : Obs w B size v n xs) (hB : B' ≤ B) : Obs w B' size v n xs := by
  refine ⟨h.1, ?_⟩
  rcases h.2 with h2 | ⟨g, cap, rfl, h3, h4⟩
  · exact .inl h2
  · exact .inr ⟨g, cap, rfl, by omega, h4⟩

theorem setCells_heap (b : Nat) : ∀ (vs : List Value) (o : Nat) (w : World) (k : Nat), k ≠ b → (w.setCells b o vs).heap[k]? = w.heap[k]?
  | [], _, _, _, _ => rfl
  | v :: vs, o, w, k, h => by
    show ((w.setCell ⟨b, o, none⟩ v).setCells b (o + 1) vs).heap[k]? = _
    rw [setCells_heap b vs (o + 1) _ k h]
    exact Below.heap_setCell w ⟨b, o, none⟩ v k h
theorem setCells_size (b : Nat) : ∀ (vs : List Value) (o : Nat) (w : World), (w.setCells b o vs).heap.size = w.heap.size
  | [], _, _ => rfl
  | v :: vs, o, w => by
    show ((w.setCell ⟨b, o, none⟩ v).setCells b (o + 1) vs).heap.size = _
    rw [setCells_size b vs (o + 1) _]
    simp [World.setCell]
theorem setCells_rest (b : Nat) : ∀ (vs : List Value) (o : Nat) (w : World), (w.setCells b o vs).os = w.os ∧ (w.setCells b o vs).tape = w.tape ∧ (w.setCells b o vs).output = w.output
  | [], _, _ => ⟨rfl, rfl, rfl⟩
  | v :: vs, o, w => setCells_rest b vs (o + 1) (w.setCell ⟨b, o, none⟩ v)

/-- append to an own slice -/
theorem run_append_obs {P : Program} (w : World) (B : Nat) (t ty e : TypeId) (i : TypeInfo) (z : Value) (size bytes : Nat) (ht : P.underlying t = some (.slice e)) (hi : P.info? e = some i) (hz : i.zero = some z)
    (hsize : i.size = size) (hby : i.bytes = bytes) (hzs : z.cells.size = size) (hsz : 0 < size) (v : Value) (n : Nat) (xs : List Value) (h : Obs w B size v n xs) (a : Addr) (m c : Nat) (news : List Value)
    (hl : news.length = m * size) (hnews : ∀ (j : Nat) (u : Value), news[j]? = some u → w.cell? (a.add j) = some u) (h1 : ∀ (u : Value), u ∈ news → u.oneCell' = true) (h63 : n + m ≤ maxLen)
    (hbytes : (n + m) * bytes ≤ 140737488355328) (hbase : B ≤ w.heap.size) :
    ∃ v' w', Sem.run P (Builtin.append_ #[t, t] ty #[v, .slice (some a) m c]) w = .ok v' w' ∧ Obs w' B size v' (n + m) (xs ++ news) ∧ Below B w w' ∧ w.grownBy w' v.ownBlock := by
  have hx := h.1
  rcases h.2 with ⟨rfl, rfl⟩ | ⟨g, cap, rfl, hB, hg, hnc, hm, hc, hcx⟩
  · have hxs : xs = [] := List.eq_nil_of_length_eq_zero (by simpa using hx)
    subst hxs
    obtain ⟨v', w', hr, ho, hgr, _⟩ := run_append_own (P := P) w B t ty e i z size bytes ht hi hz hsize hby hzs hsz (.slice none 0 0) 0 [] (World.ownsRow_nil _ _ _ _) a m c news hl hnews h1 h63 hbytes hbase
    exact ⟨v', w', hr, .of_own ho, (Below.refl _ _).grown hgr hbase (by simp [Value.ownBlock]), hgr⟩
  · by_cases hroom : n + m ≤ cap
    · subst hsize
      have hmul : n * i.size + m * i.size ≤ cap * i.size := by rw [← Nat.add_mul]; exact Nat.mul_le_mul_right _ hroom
      have hr := run_append_room_cells (P := P) w t ty e i ht hi g 0 n cap a m c news hl hnews h1 hroom (fun j hj => (hc _ (by omega)).1) (fun j hj => (hc _ (by omega)).2)
      have hin := World.cell?_setCells_in g news (0 + n * i.size) w (fun j hj => (hc _ (by omega)).1)
      refine ⟨_, _, hr, ⟨by simp [hx, hl, Nat.add_mul], .inr ⟨g, cap, rfl, hB, by rw [setCells_size]; exact hg, hroom, hm, fun j hj => ?_, fun j u hu => ?_⟩⟩, ?_, ?_⟩
      · rw [World.frozen?_setCells]
        refine ⟨?_, (hc j hj).2⟩
        by_cases hjn : n * i.size ≤ j ∧ j < n * i.size + news.length
        · have := hin (j - n * i.size) (by omega)
          rw [show 0 + n * i.size + (j - n * i.size) = j by omega] at this
          rw [this]; rfl
        · rw [World.cell?_setCells_out g news _ w ⟨g, j, none⟩ (fun _ _ => by simp only; omega)]
          exact (hc j hj).1
      · by_cases hjn : j < n * i.size
        · rw [World.cell?_setCells_out g news _ w ⟨g, j, none⟩ (fun _ _ => by simp only; omega)]
          rw [List.getElem?_append_left (by omega)] at hu
          exact hcx j u hu
        · rw [List.getElem?_append_right (by omega)] at hu
          have hj2 : j - xs.length < news.length := (List.getElem?_eq_some_iff.1 hu).1
          have := hin (j - xs.length) hj2
          rw [show 0 + n * i.size + (j - xs.length) = j by omega] at this
          rw [this, ← hu, List.getElem?_eq_getElem hj2]
      · exact (Below.refl B w).trans ⟨(setCells_rest g news _ w).1, (setCells_rest g news _ w).2.1, (setCells_rest g news _ w).2.2, by rw [setCells_size]; exact Nat.le_refl _, fun k hk => setCells_heap g news _ w k (by omega)⟩
      · exact ⟨(setCells_rest g news _ w).1, (setCells_rest g news _ w).2.1, (setCells_rest g news _ w).2.2, by rw [setCells_size]; exact Nat.le_refl _, fun k hk hne => setCells_heap g news _ w k (fun e => hne (by subst e; rfl))⟩
    · obtain ⟨v', w', hr, ho, hgr⟩ := run_append_arg_grows (P := P) w t ty e i z size bytes ht hi hz hsize hby hzs hsz ⟨g, 0, none⟩ n cap xs hx (fun j u hu => by
          have := hcx j u hu
          unfold Addr.add
          split <;> simp_all) a m c news hl hnews (by omega) h63 hbytes
      exact ⟨v', w', hr, (Obs.of_own ho).mono hbase, ⟨hgr.os, hgr.tape, hgr.output, hgr.size, fun k hk => hgr.block k (by omega) (by simp)⟩, ⟨hgr.os, hgr.tape, hgr.output, hgr.size, fun k hk hne => hgr.block k (by omega) (by simp)⟩⟩

theorem wp_append_obs {P : Program} (w : World) {o : Oper} {a : Act} {K : Act → World → Prop} {Q : Exit → Act → World → Prop} (s x : Operand) (t : TypeId)
    (ho : o.op = Op.call { callee := Callee.builtin Builtin.append, args := #[s, x], argTypes := #[t, t] }) (B : Nat) (e : TypeId) (i : TypeInfo) (z : Value) (size bytes : Nat)
    (ht : P.underlying t = some (.slice e)) (hi : P.info? e = some i) (hz : i.zero = some z) (hsize : i.size = size) (hby : i.bytes = bytes) (hzs : z.cells.size = size) (hsz : 0 < size)
    (v : Value) (n : Nat) (xs : List Value) (hs : a.eval s = v) (h : Obs w B size v n xs) (ad : Addr) (m c : Nat) (news : List Value) (hx : a.eval x = .slice (some ad) m c) (hl : news.length = m * size)
    (hnews : ∀ (j : Nat) (u : Value), news[j]? = some u → w.cell? (ad.add j) = some u) (h1 : ∀ (u : Value), u ∈ news → u.oneCell' = true) (h63 : n + m ≤ maxLen) (hbytes : (n + m) * bytes ≤ 140737488355328) (hbase : B ≤ w.heap.size)
    (hK : ∀ (v' : Value) (w' : World), Obs w' B size v' (n + m) (xs ++ news) → Below B w w' → w.grownBy w' v.ownBlock → K (a.put o.dst v') w') : Oper.wp P o a w K Q := by
  obtain ⟨v', w', hr, h2, h3, h4⟩ := run_append_obs (P := P) w B t o.type e i z size bytes ht hi hz hsize hby hzs hsz v n xs h ad m c news hl hnews h1 h63 hbytes hbase
  unfold Oper.wp execOp
  simp only [ho, resolve, invoke, builtin, Sem.run_bind, Sem.run_pure, Result.andThen_ok, List.map_toArray, List.map_cons, List.map_nil, hs, hx, hr]
  exact hK v' w' h2 h3 h4
theorem wpList_append_obs {P : Program} (w : World) {ops : Array Oper} {rest : List Oper} {o : Oper} {a : Act} {Q : Exit → Act → World → Prop} (hgd : o.guard = none) (s x : Operand) (t : TypeId)
    (ho : o.op = Op.call { callee := Callee.builtin Builtin.append, args := #[s, x], argTypes := #[t, t] }) (B : Nat) (e : TypeId) (i : TypeInfo) (z : Value) (size bytes : Nat)
    (ht : P.underlying t = some (.slice e)) (hi : P.info? e = some i) (hz : i.zero = some z) (hsize : i.size = size) (hby : i.bytes = bytes) (hzs : z.cells.size = size) (hsz : 0 < size)
    (v : Value) (n : Nat) (xs : List Value) (hs : a.eval s = v) (h : Obs w B size v n xs) (ad : Addr) (m c : Nat) (news : List Value) (hx : a.eval x = .slice (some ad) m c) (hl : news.length = m * size)
    (hnews : ∀ (j : Nat) (u : Value), news[j]? = some u → w.cell? (ad.add j) = some u) (h1 : ∀ (u : Value), u ∈ news → u.oneCell' = true) (h63 : n + m ≤ maxLen) (hbytes : (n + m) * bytes ≤ 140737488355328) (hbase : B ≤ w.heap.size)
    (hK : ∀ (v' : Value) (w' : World), Obs w' B size v' (n + m) (xs ++ news) → Below B w w' → w.grownBy w' v.ownBlock → wpList P ops Q rest (a.put o.dst v') w') : wpList P ops Q (o :: rest) a w :=
  wpList_plain hgd fun _ hK2 => wp_append_obs w s x t ho B e i z size bytes ht hi hz hsize hby hzs hsz v n xs hs h ad m c news hx hl hnews h1 h63 hbytes hbase fun v' w' h2 h3 h4 => hK2 _ _ (hK v' w' h2 h3 h4)

/-- string(b) of an own slice of bytes -/
theorem obs_string {P : Program} (w : World) (src dst e : TypeId) (hs : P.underlying src = some (.slice e)) (he : P.underlying e = some (.int .u8)) (hd : P.underlying dst = some .string)
    {B n : Nat} {v : Value} {l : List UInt8} (h : Obs w B 1 v n (l.map vb)) : Sem.run P (convert src dst v) w = .ok (.string (str l)) w := by
  have hlen := h.1
  rcases h.2 with ⟨rfl, rfl⟩ | ⟨g, cap, rfl, hB, hg, hnc, hm, hc, hx⟩
  · have : l = [] := List.eq_nil_of_length_eq_zero (by simpa using hlen)
    subst this
    exact Lib.run_convert_nil_bytes w src dst e 0 hs he hd
  · have hn : n = l.length := by simpa using hlen.symm
    subst hn
    refine run_convert_bytes_back w src dst e ⟨g, 0, none⟩ cap l hs he hd (fun j hj => ?_)
    have := hx j (vb l[j]) (by simp [hj])
    unfold Addr.add
    split <;> simp_all [vb]

/-- []byte(s) is an own slice -/
theorem obs_bytes (w : World) (B : Nat) (e : TypeId) (s : ByteArray) (cap : Nat) (hc : s.size ≤ cap) (hcm : cap ≤ maxLen) (hB : B ≤ w.heap.size) :
    Obs (w.alloc (.cells (bytesRow s cap) e ((bytesRow s cap).size, (bytesRow s cap).size + 1))) B 1 (.slice (some ⟨w.heap.size, 0, none⟩) s.size cap) s.size (s.data.toList.map vb) := by
  have hsz : (bytesRow s cap).size = cap := by unfold bytesRow; simp; omega
  refine ⟨by simp, .inr ⟨w.heap.size, cap, rfl, hB, by simp, hc, hcm, fun j hj => ?_, fun j u hu => ?_⟩⟩
  · rw [World.cell?_alloc_mark, World.frozen?_alloc_mark]
    simp [hsz]
    omega
  · rw [World.cell?_alloc_mark, ← hu]
    have hj : j < s.size := by
      have := (List.getElem?_eq_some_iff.1 hu).1
      simpa using this
    unfold bytesRow
    simp [Array.getElem?_append, hj, vb]
/-- make([]T, n), as one step of a region that draws -/
theorem step_make_full {P : Program} {ops : Array Oper} {o : Oper} {a : Act} {w : World} {K : Act → World → Prop} {Q : Exit → Act → World → Prop} {E : Prop}
    (hgd : o.guard = none) (l c : Operand) (t : TypeId) (hop : o.op = Op.makeSlice t l c) (base : Nat) (e : TypeId) (i : TypeInfo) (z : Value) (size : Nat) (h1 : P.underlying t = some (.slice e)) (h2 : P.info? e = some i) (h3 : i.zero = some z) (h4 : i.size = size)
    (kl kc : IntKind) (n : Nat) (hl : a.eval l = .int kl (n : Int)) (hc : a.eval c = .int kc (n : Int)) (b2 : i.bytes * n ≤ 281474976710656) (b3 : n ≤ maxLen) (b4 : base ≤ w.heap.size)
    (hK : ∀ w', w'.ownsRow base e size (.slice (some ⟨w.heap.size, 0, none⟩) n n) n (madeCells z.cells (n * size)).toList → w.grownBy w' none → K (a.put o.dst (.slice (some ⟨w.heap.size, 0, none⟩) n n)) w') :
    if Region.wanted o (yielded ops a.tmps) = true then Oper.wp P o a w K Q else E := by
  have hw : Region.wanted o (yielded ops a.tmps) = true := by simp [Region.wanted, hgd]
  rw [if_pos hw]
  obtain ⟨w', hrun, r1, r2⟩ := run_make_full (P := P) w base t e i z size h1 h2 h3 h4 kl kc n b2 b3 b4
  unfold Oper.wp
  simp [execOp, hop, hl, hc, hrun, Result.andThen]
  exact hK w' r1 r2

theorem make_eq {P : Program} (t e : TypeId) (i : TypeInfo) (z : Value) (ht : P.underlying t = some (.slice e)) (hi : P.info? e = some i) (hz : i.zero = some z) (n : Nat) (hb : i.bytes * n ≤ 281474976710656) (h63 : n ≤ maxLen) (w : World) :
    Sem.run P (Instr.makeSlice t (.int .i64 (n : Int)) (.int .i64 (n : Int))) w = .ok (.slice (some ⟨w.heap.size, 0, none⟩) n n) (w.alloc (.cells (madeCells z.cells (n * i.size)) e)) := by
  have hb' : (i.bytes : Int) * (n : Int) ≤ 281474976710656 := by
    have : ((i.bytes * n : Nat) : Int) ≤ 281474976710656 := by omega
    rwa [Int.natCast_mul] at this
  unfold maxLen at h63
  have hr := run_make (P := P) w t e i z ht hi hz .i64 .i64 n n (by omega) (by omega) hb' (by omega)
  simpa using hr
theorem zeros_eq (z : Nat) : (madeCells (Value.int IntKind.u8 0).cells (z * 1)).toList = (List.replicate z (0 : UInt8)).map vb := by
  rw [show (Value.int IntKind.u8 0).cells = #[.int .u8 0] from rfl, toList_madeCells_one]
  simp [vb]

/-- how many zeros pad a text of n bytes -/
def padN (n : Nat) : Nat := (119 - n % 64) % 64
def padL (l : List UInt8) : List UInt8 := l ++ 128 :: (List.replicate (padN l.length) 0 ++ be (8 * l.length) 8)
theorem padL_len (l : List UInt8) : (padL l).length = l.length + 9 + padN l.length := by simp [padL, be_len]; omega
theorem padL_mod (l : List UInt8) : (padL l).length % 64 = 0 := by rw [padL_len]; unfold padN; omega
theorem padN_lt {n m : Nat} (h : m < padN n) : ¬ (n + 1 + m) % 64 = 56 := by unfold padN at h; omega
theorem padN_eq (n : Nat) : (n + 1 + padN n) % 64 = 56 := by unfold padN; omega
/-- how many elements a slice has -/
def lenV : Value → Nat
  | .slice _ n _ => n
  | _ => 0
theorem Obs.lenV {w : World} {B size n : Nat} {v : Value} {xs : List Value} (h : Obs w B size v n xs) : lenV v = n := by
  rcases h.2 with ⟨rfl, rfl⟩ | ⟨g, cap, rfl, _⟩ <;> rfl
theorem Obs.shape {w : World} {B size n : Nat} {v : Value} {xs : List Value} (h : Obs w B size v n xs) : ∃ A cap, v = .slice A n cap := by
  rcases h.2 with ⟨rfl, rfl⟩ | ⟨g, cap, rfl, _⟩
  · exact ⟨_, _, rfl⟩
  · exact ⟨_, _, rfl⟩
/-- the digits of a number above 0, f of them at most -/
def decG : Nat → Nat → List UInt8
  | 0, _ => []
  | f + 1, m => if m = 0 then [] else decG f (m / 10) ++ [UInt8.ofNat (48 + m % 10)]
def decH (f m : Nat) : List UInt8 := if m = 0 then [48] else decG f m
def decD (n : Nat) : List UInt8 := decH 20 n
def decL (n : Int) : List UInt8 := (if n < 0 then [45] else []) ++ decD n.natAbs
theorem decG_step {f m : Nat} (h0 : m ≠ 0) (h : m < 10 ^ f) : ∃ f', f = f' + 1 ∧ decG f m = decG f' (m / 10) ++ [UInt8.ofNat (48 + m % 10)] ∧ m / 10 < 10 ^ f' := by
  cases f with
  | zero => simp at h; omega
  | succ f =>
    refine ⟨f, rfl, by simp [decG, h0], ?_⟩
    rw [Nat.pow_succ] at h
    omega
theorem decG_zero (f : Nat) : decG f 0 = [] := by cases f <;> simp [decG]
theorem decH_last {f m : Nat} (h : m < 10 ^ f) (h1 : m / 10 = 0) : decH f m = [UInt8.ofNat (48 + m % 10)] := by
  unfold decH
  split
  · rename_i h0; subst h0; rfl
  · rename_i h0
    obtain ⟨f', rfl, h2, h3⟩ := decG_step h0 h
    rw [h2, h1, decG_zero]; rfl
theorem decH_more {f m : Nat} (h : m < 10 ^ f) (h1 : m / 10 ≠ 0) : ∃ f', f = f' + 1 ∧ decH f m = decH f' (m / 10) ++ [UInt8.ofNat (48 + m % 10)] ∧ m / 10 < 10 ^ f' := by
  have h0 : m ≠ 0 := by omega
  obtain ⟨f', rfl, h2, h3⟩ := decG_step h0 h
  exact ⟨f', rfl, by unfold decH; rw [if_neg h0, if_neg h1, h2], h3⟩
theorem decG_len : ∀ (f m : Nat), (decG f m).length ≤ f
  | 0, _ => by simp [decG]
  | f + 1, m => by
    simp only [decG]
    split
    · simp
    · simp only [List.length_append, List.length_cons, List.length_nil]
      have := decG_len f (m / 10)
      omega
theorem decD_len (n : Nat) : (decD n).length ≤ 20 := by
  unfold decD decH
  split
  · simp
  · exact decG_len _ _
theorem Obs.full {w : World} {B size n : Nat} {v : Value} {xs : List Value} (h : Obs w B size v n xs) (h0 : 0 < n) : ∃ g cap, v = .slice (some ⟨g, 0, none⟩) n cap := by
  rcases h.2 with ⟨rfl, rfl⟩ | ⟨g, cap, rfl, _⟩
  · omega
  · exact ⟨_, _, rfl⟩
theorem Obs.cells {w : World} {B size n g cap : Nat} {xs : List Value} (h : Obs w B size (.slice (some ⟨g, 0, none⟩) n cap) n xs) : ∀ j u, xs[j]? = some u → w.cell? ((⟨g, 0, none⟩ : Addr).add j) = some u := by
  intro j u hu
  rcases h.2 with ⟨e, _⟩ | ⟨g', cap', e, _, _, _, _, _, hx⟩
  · simp at e
  · obtain ⟨rfl, _⟩ : g = g' ∧ cap = cap' := by simpa using e
    unfold Addr.add
    have := hx j u hu
    split <;> simp_all
theorem one_byte (n : Nat) (h : n < 208) : Value.int .u8 (48 + (n : Int)) = vb (UInt8.ofNat (48 + n)) := by
  have := vb_small (48 + (n : Int)) (by omega) (by omega)
  rw [this]; congr 2
theorem obs_one (w : World) (e : TypeId) (x : Value) (B : Nat) (hB : B ≤ w.heap.size) : Obs (w.alloc (.cells #[x] e)) B 1 (.slice (some ⟨w.heap.size, 0, none⟩) 1 1) 1 [x] :=
  Obs.of_own (World.ownsRow_lit (base := B) (e := e) (size := 1) w #[x] 1 hB (by simp [maxLen]) rfl)
/-- append of an own slice (nil, too) to an own slice -/
theorem run_append_obs2 {P : Program} (w : World) (B : Nat) (t ty e : TypeId) (i : TypeInfo) (z : Value) (size bytes : Nat) (ht : P.underlying t = some (.slice e)) (hi : P.info? e = some i) (hz : i.zero = some z)
    (hsize : i.size = size) (hby : i.bytes = bytes) (hzs : z.cells.size = size) (hsz : 0 < size) (v : Value) (n : Nat) (xs : List Value) (h : Obs w B size v n xs) (B2 : Nat) (v2 : Value) (m : Nat) (ys : List Value) (h2 : Obs w B2 size v2 m ys)
    (h1 : ∀ (u : Value), u ∈ ys → u.oneCell' = true) (h63 : n + m ≤ maxLen) (hbytes : (n + m) * bytes ≤ 140737488355328) (hbase : B ≤ w.heap.size) :
    ∃ v' w', Sem.run P (Builtin.append_ #[t, t] ty #[v, v2]) w = .ok v' w' ∧ Obs w' B size v' (n + m) (xs ++ ys) ∧ Below B w w' ∧ w.grownBy w' v.ownBlock := by
  have h2' := h2
  rcases h2'.2 with ⟨rfl, rfl⟩ | ⟨g, cap, rfl, _⟩
  · have hys : ys = [] := List.eq_nil_of_length_eq_zero (by simpa using h2.1)
    subst hys
    refine ⟨v, w, ?_, by simpa using h, Below.refl _ _, World.grownBy.refl w _⟩
    rcases h.2 with ⟨rfl, rfl⟩ | ⟨g, cap, rfl, _, _, hnc, _⟩
    · simp [Builtin.append_, run_underlying ht, sizeOf, typeInfo, hi, Builtin.lenOf, Builtin.firstCells]
    · simp [Builtin.append_, run_underlying ht, sizeOf, typeInfo, hi, Builtin.lenOf, Builtin.firstCells, hnc, storeCells]
  · exact run_append_obs (P := P) w B t ty e i z size bytes ht hi hz hsize hby hzs hsz v n xs h ⟨g, 0, none⟩ m cap ys h2.1 h2.cells h1 h63 hbytes hbase
theorem wp_append_obs2 {P : Program} (w : World) {o : Oper} {a : Act} {K : Act → World → Prop} {Q : Exit → Act → World → Prop} (s x : Operand) (t : TypeId)
    (ho : o.op = Op.call { callee := Callee.builtin Builtin.append, args := #[s, x], argTypes := #[t, t] }) (B : Nat) (e : TypeId) (i : TypeInfo) (z : Value) (size bytes : Nat)
    (ht : P.underlying t = some (.slice e)) (hi : P.info? e = some i) (hz : i.zero = some z) (hsize : i.size = size) (hby : i.bytes = bytes) (hzs : z.cells.size = size) (hsz : 0 < size)
    (v : Value) (n : Nat) (xs : List Value) (hs : a.eval s = v) (h : Obs w B size v n xs) (B2 : Nat) (v2 : Value) (m : Nat) (ys : List Value) (hx : a.eval x = v2) (h2 : Obs w B2 size v2 m ys)
    (h1 : ∀ (u : Value), u ∈ ys → u.oneCell' = true) (h63 : n + m ≤ maxLen) (hbytes : (n + m) * bytes ≤ 140737488355328) (hbase : B ≤ w.heap.size)
    (hK : ∀ (v' : Value) (w' : World), Obs w' B size v' (n + m) (xs ++ ys) → Below B w w' → w.grownBy w' v.ownBlock → K (a.put o.dst v') w') : Oper.wp P o a w K Q := by
  obtain ⟨v', w', hr, h3, h4, h5⟩ := run_append_obs2 (P := P) w B t o.type e i z size bytes ht hi hz hsize hby hzs hsz v n xs h B2 v2 m ys h2 h1 h63 hbytes hbase
  unfold Oper.wp execOp
  simp only [ho, resolve, invoke, builtin, Sem.run_bind, Sem.run_pure, Result.andThen_ok, List.map_toArray, List.map_cons, List.map_nil, hs, hx, hr]
  exact hK v' w' h3 h4 h5
theorem wpList_append_obs2 {P : Program} (w : World) {ops : Array Oper} {rest : List Oper} {o : Oper} {a : Act} {Q : Exit → Act → World → Prop} (hgd : o.guard = none) (s x : Operand) (t : TypeId)
    (ho : o.op = Op.call { callee := Callee.builtin Builtin.append, args := #[s, x], argTypes := #[t, t] }) (B : Nat) (e : TypeId) (i : TypeInfo) (z : Value) (size bytes : Nat)
    (ht : P.underlying t = some (.slice e)) (hi : P.info? e = some i) (hz : i.zero = some z) (hsize : i.size = size) (hby : i.bytes = bytes) (hzs : z.cells.size = size) (hsz : 0 < size)
    (v : Value) (n : Nat) (xs : List Value) (hs : a.eval s = v) (h : Obs w B size v n xs) (B2 : Nat) (v2 : Value) (m : Nat) (ys : List Value) (hx : a.eval x = v2) (h2 : Obs w B2 size v2 m ys)
    (h1 : ∀ (u : Value), u ∈ ys → u.oneCell' = true) (h63 : n + m ≤ maxLen) (hbytes : (n + m) * bytes ≤ 140737488355328) (hbase : B ≤ w.heap.size)
    (hK : ∀ (v' : Value) (w' : World), Obs w' B size v' (n + m) (xs ++ ys) → Below B w w' → w.grownBy w' v.ownBlock → wpList P ops Q rest (a.put o.dst v') w') : wpList P ops Q (o :: rest) a w :=
  wpList_plain hgd fun _ hK2 => wp_append_obs2 w s x t ho B e i z size bytes ht hi hz hsize hby hzs hsz v n xs hs h B2 v2 m ys hx h2 h1 h63 hbytes hbase fun v' w' h3 h4 h5 => hK2 _ _ (hK v' w' h3 h4 h5)
theorem vb_one (l : List UInt8) : ∀ u, u ∈ l.map vb → u.oneCell' = true := by
  intro u hu
  obtain ⟨b, _, rfl⟩ := List.mem_map.1 hu
  rfl
def isDig (c : UInt8) : Bool := decide (48 ≤ c.toNat) && decide (c.toNat ≤ 57)
def valD (l : List UInt8) : Nat := l.foldl (fun n c => 10 * n + (c.toNat - 48)) 0
theorem valD_snoc (l : List UInt8) (c : UInt8) : valD (l ++ [c]) = 10 * valD l + (c.toNat - 48) := by simp [valD]
theorem valD_lt {l : List UInt8} (h : l.all isDig = true) : valD l < 10 ^ l.length := by
  have g : ∀ (l : List UInt8), l.all isDig = true → ∀ n, l.foldl (fun n c => 10 * n + (c.toNat - 48)) n < (n + 1) * 10 ^ l.length := by
    intro l
    induction l with
    | nil => intro _ n; simp
    | cons c l ih =>
      intro hl n
      simp only [List.all_cons, Bool.and_eq_true] at hl
      have hc := hl.1
      unfold isDig at hc
      simp only [Bool.and_eq_true, decide_eq_true_eq] at hc
      refine Nat.lt_of_lt_of_le (ih hl.2 _) ?_
      have h2 : 10 * n + (c.toNat - 48) + 1 ≤ (n + 1) * 10 := by omega
      rw [List.length_cons, Nat.pow_succ, Nat.mul_comm (10 ^ l.length) 10, ← Nat.mul_assoc]
      exact Nat.mul_le_mul_right _ h2
  simpa [valD] using g l h 0
theorem valD_small {l : List UInt8} (h : l.all isDig = true) (hl : l.length ≤ 10) : valD l < 10000000000 :=
  Nat.lt_of_lt_of_le (valD_lt h) (Nat.pow_le_pow_right (by omega) hl)
def rdB (s : ByteArray) : Bool := decide (s.size ≤ 10) && s.data.toList.all isDig && decide (valD s.data.toList ≤ 1000000000) && (decD (valD s.data.toList) == s.data.toList)
def rdN (s : ByteArray) : Nat := if rdB s then valD s.data.toList else 0
theorem rdN_no {s : ByteArray} (h : rdB s = false) : rdN s = 0 := by unfold rdN; rw [h]; rfl
theorem all_take {s : ByteArray} (h : s.data.toList.all isDig = true) (k : Nat) : (s.data.toList.take k).all isDig = true := by
  rw [List.all_eq_true] at h ⊢
  exact fun x hx => h x (List.mem_of_mem_take hx)
theorem rdB_dig {s : ByteArray} (h : rdB s = true) (k : Nat) (hk : k < s.size) : isDig s[k] = true := by
  unfold rdB at h
  simp only [Bool.and_eq_true] at h
  exact List.all_eq_true.1 h.1.1.2 _ (by
    have : s[k] = s.data.toList[k]'(by simpa using hk) := rfl
    rw [this]; exact List.getElem_mem _)
theorem notEmpty {s : ByteArray} (h : 1 ≤ s.size) : s.data.toList.isEmpty = false := by
  cases he : s.data.toList with
  | nil =>
    have e := congrArg List.length he
    rw [Array.length_toList, List.length_nil] at e
    have : s.size = 0 := e
    omega
  | cons a b => rfl
theorem decD_pos (n : Nat) : decD n ≠ [] := by
  unfold decD decH
  split
  · simp
  · simp [decG, *]
end Go.Proofs.YtmhekefjlepfpaaDoor
