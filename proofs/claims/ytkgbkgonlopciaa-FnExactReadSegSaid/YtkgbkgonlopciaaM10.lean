/- The walks of the laws' helpers: rows of options marked, looked at again. -/
import Derived.Test.YtkgbkgonlopciaaM9
import Derived.Test.YtkgbkgonlopciaaM8
import Derived.Test.YtkgbkgonlopciaaM3
import Derived.Deep.Cut
import Derived.Deep.RegionHeld
namespace Go.Proofs.Ytkgbkgonlopciaa
open Go.RowKit
set_option linter.unusedVariables false
set_option linter.unusedSimpArgs false
/-- nothing has changed but new blocks and what lies from B on, below B2 -/
structure Wth (B B2 : Nat) (w w' : World) : Prop where
  os : w'.os = w.os
  tape : w'.tape = w.tape
  output : w'.output = w.output
  size : w.heap.size ≤ w'.heap.size
  block : ∀ k, k < w.heap.size → (k < B ∨ B2 ≤ k) → w'.heap[k]? = w.heap[k]?
theorem Wth.refl (B B2 : Nat) (w : World) : Wth B B2 w w := ⟨rfl, rfl, rfl, Nat.le_refl _, fun _ _ _ => rfl⟩
theorem Wth.trans {B B2 : Nat} {w w1 w2 : World} (h : Wth B B2 w w1) (k : Wth B B2 w1 w2) : Wth B B2 w w2 :=
  ⟨k.os.trans h.os, k.tape.trans h.tape, k.output.trans h.output, Nat.le_trans h.size k.size, fun b hb hr => (k.block b (Nat.lt_of_lt_of_le hb h.size) hr).trans (h.block b hb hr)⟩
theorem Wth.set_ {B B2 g : Nat} {w w' : World} (h : Wth B B2 w w') (hg : B ≤ g) (hg2 : g < B2) (j : Nat) (u : Value) : Wth B B2 w (w'.setCell ⟨g, j, none⟩ u) :=
  ⟨h.os, h.tape, h.output, by have := h.size; simpa [World.setCell] using this, fun k hk hr => (Below.heap_setCell w' ⟨g, j, none⟩ u k (by dsimp only; omega)).trans (h.block k hk hr)⟩
theorem Wth.only {B B2 : Nat} {w w1 w2 : World} {v : Value} (h : Wth B B2 w w1) (ho : Only w1 w2 v) (hv : ∀ g, v.ownBlock = some g → B ≤ g ∧ g < B2) : Wth B B2 w w2 :=
  h.trans ⟨ho.os, ho.tape, ho.output, ho.size, fun k hk hr => ho.block k hk (by intro e; have := hv k e.symm; omega)⟩
theorem Wth.of_below {B B2 : Nat} {w w' : World} (h : Below w.heap.size w w') : Wth B B2 w w' := ⟨h.os, h.tape, h.output, h.size, fun k hk _ => h.block k hk⟩
theorem Wth.below {B B2 : Nat} {w w' : World} (h : Wth B B2 w w') (hB : B ≤ w.heap.size) : Below B w w' := ⟨h.os, h.tape, h.output, h.size, fun k hk => h.block k (Nat.lt_of_lt_of_le hk hB) (.inl hk)⟩
theorem Obs.wth {B B' B2 size n : Nat} {w w' : World} {v : Value} {xs : List Value} (h : Obs w B' size v n xs) (hd : ∀ g, v.ownBlock = some g → g < B ∨ B2 ≤ g) (hw : Wth B B2 w w') : Obs w' B' size v n xs :=
  h.same hw.size (fun g hg => hw.block g (h.lt g hg).2 (hd g hg))
theorem Bx.wth {B B2 b : Nat} {w w' : World} {cs : List Value} (h : Bx w b cs) (hd : b < B ∨ B2 ≤ b) (hw : Wth B B2 w w') : Bx w' b cs :=
  ⟨Nat.lt_of_lt_of_le h.1 hw.size, fun j u hj => (World.cell?_of_block (w := w) (a := ⟨b, j, none⟩) (hw.block b h.1 hd)).trans (h.2 j u hj)⟩
/-- a cell of the row is written: the option's field -/
theorem flatO_set {os : List OD} {ivs : List Value} {k j : Nat} {o o' : OD} {iv u : Value} (hl : os.length = ivs.length) (ho : os[k]? = some o) (hi : ivs[k]? = some iv) (hj : j < 14) (h : voC o' iv = (voC o iv).set j u) :
    (flatO os ivs).set (k * 14 + j) u = flatO (os.set k o') ivs := by
  apply List.ext_getElem?
  intro i
  have hk : k < os.length := (List.getElem?_eq_some_iff.1 ho).1
  have hlen : (flatO os ivs).length = os.length * 14 := flatO_len os ivs hl
  have hlen2 : (flatO (os.set k o') ivs).length = os.length * 14 := by rw [flatO_len _ _ (by rw [List.length_set]; exact hl), List.length_set]
  by_cases hi2 : i < os.length * 14
  · obtain ⟨q, hq⟩ : ∃ q, q = os[i / 14]'(by omega) := ⟨_, rfl⟩
    obtain ⟨qv, hqv⟩ : ∃ q, q = ivs[i / 14]'(by omega) := ⟨_, rfl⟩
    have e1 : os[i / 14]? = some q := by rw [hq]; exact List.getElem?_eq_getElem _
    have e2 : ivs[i / 14]? = some qv := by rw [hqv]; exact List.getElem?_eq_getElem _
    have hm : i % 14 < 14 := Nat.mod_lt _ (by omega)
    by_cases hik : i / 14 = k
    · have e3 : (os.set k o')[i / 14]? = some o' := by rw [hik, List.getElem?_set_self hk]
      have e4 := flatO_get (os.set k o') ivs (i / 14) o' qv e3 e2 (i % 14) hm
      rw [show i / 14 * 14 + i % 14 = i by omega] at e4
      rw [hik, hi] at e2
      obtain rfl := Option.some.inj e2
      rw [e4, h]
      by_cases hij : i = k * 14 + j
      · have : i % 14 = j := by omega
        rw [this, hij, List.getElem?_set_self (by omega), List.getElem?_set_self (by rw [voC_len]; exact hj)]
      · rw [List.getElem?_set_ne (by omega), List.getElem?_set_ne (by omega)]
        have e5 := flatO_get os ivs (i / 14) o iv (by rw [hik]; exact ho) (by rw [hik]; exact hi) (i % 14) hm
        rw [show i / 14 * 14 + i % 14 = i by omega] at e5
        exact e5
    · have e3 : (os.set k o')[i / 14]? = some q := by rw [List.getElem?_set_ne (by omega)]; exact e1
      have e4 := flatO_get (os.set k o') ivs (i / 14) q qv e3 e2 (i % 14) hm
      have e5 := flatO_get os ivs (i / 14) q qv e1 e2 (i % 14) hm
      rw [show i / 14 * 14 + i % 14 = i by omega] at e4 e5
      rw [e4, List.getElem?_set_ne (by omega), e5]
  · rw [List.getElem?_eq_none (by rw [List.length_set]; omega), List.getElem?_eq_none (by omega)]
theorem wrapK {K q : Nat} {z z' : Int} (hz : z = ((K + q : Nat) : Int)) (hz' : z' = ((K + (q + 1) : Nat) : Int)) (hb : K ≤ 4294967296) (hq : q ≤ 13) : IntKind.i64.wrap (z + 1) = z' := by
  have h1 : z' = z + 1 := by rw [hz, hz']; omega
  rw [← h1]
  exact IntWalk.i64_in _ (by omega)
theorem bndK {K q : Nat} {z : Int} (hz : z = ((K + q : Nat) : Int)) (hb : K ≤ 4294967296) (hq : q ≤ 13) : (0 : Int) ≤ z ∧ z ≤ 4294967309 := by omega
theorem remK {K : Nat} {z : Int} (hz : z = ((K + 10 : Nat) : Int)) : (z % 3 == 0) = decide ((K + 10) % 3 = 0) := by
  rw [hz, Bool.eq_iff_iff]
  simp
  omega
/-- an option marked from k on -/
def omO (k : Nat) (o : OD) : OD := ⟨(k : Nat), (k + 1 : Nat), (k + 2 : Nat), (k + 3 : Nat), (k + 4 : Nat), (k + 5 : Nat), (k + 6 : Nat), (k + 7 : Nat), (k + 8 : Nat), (k + 9 : Nat), decide ((k + 10) % 3 = 0), markT (k + 11), markT (k + 12), marks (k + 13 : Nat) o.ids.length⟩
def omK (k : Nat) (o : OD) : Nat := k + 13 + o.ids.length
def omL : Nat → List OD → List OD
  | _, [] => []
  | k, o :: os => omO k o :: omL (omK k o) os
def omE : Nat → List OD → Nat
  | k, [] => k
  | k, o :: os => omE (omK k o) os
theorem omE_append : ∀ (a b : List OD) (k : Nat), omE k (a ++ b) = omE (omE k a) b
  | [], b, k => rfl
  | o :: a, b, k => omE_append a b (omK k o)
theorem omL_append : ∀ (a b : List OD) (k : Nat), omL k (a ++ b) = omL k a ++ omL (omE k a) b
  | [], b, k => rfl
  | o :: a, b, k => by
    show omO k o :: omL (omK k o) (a ++ b) = omO k o :: (omL (omK k o) a ++ omL (omE (omK k o) a) b)
    rw [omL_append a b (omK k o)]
theorem omL_len : ∀ (a : List OD) (k : Nat), (omL k a).length = a.length
  | [], _ => rfl
  | o :: a, k => by show (omL (omK k o) a).length + 1 = a.length + 1; rw [omL_len a]
theorem omE_le : ∀ (a : List OD) (k : Nat), k ≤ omE k a ∧ omE k a ≤ k + 13 * a.length + sumO a
  | [], k => by unfold omE sumO; simp
  | o :: a, k => by
    have h := omE_le a (omK k o)
    have h2 : o.ids.length ≤ szO o := by unfold szO; omega
    show k ≤ omE (omK k o) a ∧ omE (omK k o) a ≤ k + 13 * (a.length + 1) + (szO o + sumO a)
    unfold omK at h ⊢
    omega
theorem omE_step {os : List OD} {j k : Nat} {o : OD} (h : os[j]? = some o) : omE k (os.take (j + 1)) = omK (omE k (os.take j)) o := by
  obtain ⟨hj, rfl⟩ := List.getElem?_eq_some_iff.1 h
  rw [List.take_succ_eq_append_getElem hj, omE_append]
  rfl
/-- the first j of them are marked -/
def omJ (k : Nat) (os : List OD) (j : Nat) : List OD := omL k (os.take j) ++ os.drop j
theorem omJ_len {k : Nat} {os : List OD} {j : Nat} (h : j ≤ os.length) : (omJ k os j).length = os.length := by unfold omJ; rw [List.length_append, omL_len, List.length_take, List.length_drop]; omega
theorem omJ_at {k : Nat} {os : List OD} {j : Nat} {o : OD} (h : os[j]? = some o) : (omJ k os j)[j]? = some o := by
  obtain ⟨hj, rfl⟩ := List.getElem?_eq_some_iff.1 h
  unfold omJ
  rw [List.getElem?_append_right (by rw [omL_len, List.length_take]; omega), omL_len, List.length_take, Nat.min_eq_left (by omega), Nat.sub_self, List.getElem?_drop]
  exact h
theorem omJ_step {k : Nat} {os : List OD} {j : Nat} {o : OD} (h : os[j]? = some o) : (omJ k os j).set j (omO (omE k (os.take j)) o) = omJ k os (j + 1) := by
  obtain ⟨hj, rfl⟩ := List.getElem?_eq_some_iff.1 h
  unfold omJ
  rw [List.set_append_right _ _ (by rw [omL_len, List.length_take]; omega), omL_len, List.length_take, Nat.min_eq_left (by omega), Nat.sub_self, List.drop_eq_getElem_cons hj, List.set_cons_zero, List.take_succ_eq_append_getElem hj, omL_append, List.append_assoc]
  rfl
theorem omJ_ids {k : Nat} {os : List OD} {j i : Nat} {q : OD} (h : (omJ k os j)[i]? = some q) (hi : j ≤ i) : os[i]? = some q := by
  by_cases hj : j ≤ os.length
  · unfold omJ at h
    rw [List.getElem?_append_right (by rw [omL_len, List.length_take]; omega), omL_len, List.length_take, Nat.min_eq_left hj, List.getElem?_drop] at h
    rwa [show j + (i - j) = i by omega] at h
  · have h2 : (omJ k os j).length ≤ os.length := by
      unfold omJ
      rw [List.length_append, omL_len, List.length_take, List.length_drop]; omega
    have h3 := (List.getElem?_eq_some_iff.1 h).1
    omega
set_option maxRecDepth 100000 in
set_option maxHeartbeats 6400000 in
theorem markOptS_l (v : Value) (n : Nat) (os : List OD) (ivs : List Value) (k0 B B2 : Nat) (w : World) (h : ObO w B v n os ivs) (hap : Apt v ivs) (hB : B ≤ w.heap.size) (hB2 : B2 ≤ w.heap.size) (hv : ∀ g, v.ownBlock = some g → g < B2) (hvs : ∀ a ∈ ivs, ∀ g, a.ownBlock = some g → g < B2)
    (hk1 : 1 ≤ k0) (hk : k0 + 13 * n + sumO os ≤ 4294967296) :
    Calls Try.prog 66 #[v, .int .i64 (k0 : Int)] w fun e w' => e = .returned (.int .i64 ((omE k0 os : Nat) : Int)) ∧ ObO w' B v n (omL k0 os) ivs ∧ Wth B B2 w w' := by
  have HL := Lib.hid h.lo
  have HLI := Lib.hid h.li
  have HAP := Lib.hid hap
  have HV := Lib.hid hv
  have HVS := Lib.hid hvs
  have HBW := Lib.hid hB
  have HKB := Lib.hid hk
  by_cases h0 : n = 0
  · obtain ⟨A, ca, rfl, _⟩ := h.rd.shape
    subst h0
    have hx : os = [] := List.eq_nil_of_length_eq_zero h.lo
    subst hx
    have H := Lib.hid h
    clear h hap hB hB2 hv hvs
    go_enter Try.func66, Try.ntmps66
    go_wp2
    go_loop [1, 5] (fun m i => i = .int .i64 0 ∧ m = .int .i64 (k0 : Int)) (fun m i => 0)
    case atStart => exact ⟨rfl, rfl⟩
    case round =>
      obtain ⟨rfl, rfl⟩ := hrel
      go_wp2
      go_ret
      exact ⟨rfl, H.out, Wth.refl _ _ _⟩
  obtain ⟨g, cap, rfl⟩ := h.row.full (by omega)
  have hgB := (h.row.lt g rfl).1
  have hgB2 := HV.out g rfl
  have hn63 := h.row.le
  unfold maxLen at hn63
  have HG := Lib.hid (And.intro hgB hgB2)
  have H0 := Lib.hid h
  clear h hap hB hv hvs hgB hgB2 hB2
  go_enter Try.func66, Try.ntmps66
  go_wp2
  go_loopw [1, 5] (fun m i wr => ∃ j : Nat, j ≤ n ∧ i = .int .i64 (j : Int) ∧ m = .int .i64 ((omE k0 (os.take j) : Nat) : Int) ∧ Hid (ObO wr B (.slice (some ⟨g, 0, none⟩) n cap) n (omJ k0 os j) ivs) ∧ Hid (Wth B B2 w wr)) (fun _ i _ => n - (intOf i).toNat)
  case atStart => exact ⟨0, Nat.zero_le _, rfl, rfl, H0, Lib.hid (Wth.refl _ _ _)⟩
  case round =>
    clear H0
    obtain ⟨j, hj, rfl, rfl, H, HW⟩ := hrel
    by_cases hlt : j < n
    · obtain ⟨K, hK⟩ : ∃ K, K = omE k0 (os.take j) := ⟨_, rfl⟩
      obtain ⟨o, ho⟩ : ∃ o, os[j]? = some o := ⟨_, List.getElem?_eq_getElem (by have := HL.out; omega)⟩
      obtain ⟨iv, hiv⟩ : ∃ o, ivs[j]? = some o := ⟨_, List.getElem?_eq_getElem (by have := HLI.out; omega)⟩
      have hKb : 1 ≤ K ∧ K + 13 + o.ids.length ≤ 4294967296 := by
        have h1 := omE_le (os.take j) k0
        have h2 := sumO_le ho
        have h3 : o.ids.length ≤ szO o := by unfold szO; omega
        have h4 := HKB.out
        rw [List.length_take] at h1
        omega
      obtain ⟨hK1, hKb2⟩ := hKb
      have hidb : o.ids.length ≤ 4294967296 := by omega
      have hKle : K ≤ 4294967296 := by omega
      have hK13b : K + 13 ≤ 4294967296 := by omega
      have HO := Lib.hid ho
      have HI := Lib.hid hiv
      have HK := Lib.hid hK
      have HE : Hid (omE k0 (os.take (j + 1)) = K + 13 + o.ids.length) := Lib.hid (by rw [omE_step ho, ← hK]; rfl)
      have R0 := Lib.hid H.out.row
      have I0 : Hid (∀ (i : Nat) (q : OD) (iv : Value), (omJ k0 os j)[i]? = some q → ivs[i]? = some iv → Obs wr B 1 iv q.ids.length (q.ids.map vn)) := Lib.hid H.out.ids
      have J0 : Hid ((omJ k0 os j)[j]? = some o) := Lib.hid (omJ_at ho)
      have JL : Hid ((omJ k0 os j).length = ivs.length) := Lib.hid (by rw [omJ_len (by have := HL.out; omega), HL.out, HLI.out])
      rw [← hK]
      clear ho hiv hK H
      obtain ⟨o0, ho0⟩ : ∃ o0, o0 = o := ⟨_, rfl⟩
      rw [← ho0] at J0
      have HO0 := Lib.hid ho0
      clear ho0
      obtain ⟨L0, hL0⟩ : ∃ L0, L0 = omJ k0 os j := ⟨_, rfl⟩
      rw [← hL0] at R0 J0 JL I0
      have HL0 := Lib.hid hL0
      clear hL0
      obtain ⟨W0, hW0⟩ : ∃ W0, W0 = wr := ⟨_, rfl⟩
      rw [← hW0] at R0 I0 HW ⊢
      clear hW0
      have HW0 := HW
      clear HW
      obtain ⟨K0, hK0⟩ : ∃ z : Int, z = ((K + 0 : Nat) : Int) := ⟨_, rfl⟩
      obtain ⟨K1, hK1⟩ : ∃ z : Int, z = ((K + 1 : Nat) : Int) := ⟨_, rfl⟩
      obtain ⟨K2, hK2⟩ : ∃ z : Int, z = ((K + 2 : Nat) : Int) := ⟨_, rfl⟩
      obtain ⟨K3, hK3⟩ : ∃ z : Int, z = ((K + 3 : Nat) : Int) := ⟨_, rfl⟩
      obtain ⟨K4, hK4⟩ : ∃ z : Int, z = ((K + 4 : Nat) : Int) := ⟨_, rfl⟩
      obtain ⟨K5, hK5⟩ : ∃ z : Int, z = ((K + 5 : Nat) : Int) := ⟨_, rfl⟩
      obtain ⟨K6, hK6⟩ : ∃ z : Int, z = ((K + 6 : Nat) : Int) := ⟨_, rfl⟩
      obtain ⟨K7, hK7⟩ : ∃ z : Int, z = ((K + 7 : Nat) : Int) := ⟨_, rfl⟩
      obtain ⟨K8, hK8⟩ : ∃ z : Int, z = ((K + 8 : Nat) : Int) := ⟨_, rfl⟩
      obtain ⟨K9, hK9⟩ : ∃ z : Int, z = ((K + 9 : Nat) : Int) := ⟨_, rfl⟩
      obtain ⟨K10, hK10⟩ : ∃ z : Int, z = ((K + 10 : Nat) : Int) := ⟨_, rfl⟩
      obtain ⟨K11, hK11⟩ : ∃ z : Int, z = ((K + 11 : Nat) : Int) := ⟨_, rfl⟩
      obtain ⟨K12, hK12⟩ : ∃ z : Int, z = ((K + 12 : Nat) : Int) := ⟨_, rfl⟩
      obtain ⟨K13, hK13⟩ : ∃ z : Int, z = ((K + 13 : Nat) : Int) := ⟨_, rfl⟩
      rw [show ((K : Nat) : Int) = K0 from hK0.symm]
      have w1 : IntKind.i64.wrap (K0 + 1) = K1 := wrapK hK0 hK1 hKle (by decide)
      have w2 : IntKind.i64.wrap (K1 + 1) = K2 := wrapK hK1 hK2 hKle (by decide)
      have w3 : IntKind.i64.wrap (K2 + 1) = K3 := wrapK hK2 hK3 hKle (by decide)
      have w4 : IntKind.i64.wrap (K3 + 1) = K4 := wrapK hK3 hK4 hKle (by decide)
      have w5 : IntKind.i64.wrap (K4 + 1) = K5 := wrapK hK4 hK5 hKle (by decide)
      have w6 : IntKind.i64.wrap (K5 + 1) = K6 := wrapK hK5 hK6 hKle (by decide)
      have w7 : IntKind.i64.wrap (K6 + 1) = K7 := wrapK hK6 hK7 hKle (by decide)
      have w8 : IntKind.i64.wrap (K7 + 1) = K8 := wrapK hK7 hK8 hKle (by decide)
      have w9 : IntKind.i64.wrap (K8 + 1) = K9 := wrapK hK8 hK9 hKle (by decide)
      have w10 : IntKind.i64.wrap (K9 + 1) = K10 := wrapK hK9 hK10 hKle (by decide)
      have w11 : IntKind.i64.wrap (K10 + 1) = K11 := wrapK hK10 hK11 hKle (by decide)
      have w12 : IntKind.i64.wrap (K11 + 1) = K12 := wrapK hK11 hK12 hKle (by decide)
      have w13 : IntKind.i64.wrap (K12 + 1) = K13 := wrapK hK12 hK13 hKle (by decide)
      have HK0 := Lib.hid hK0
      have HK1 := Lib.hid hK1
      have HK2 := Lib.hid hK2
      have HK3 := Lib.hid hK3
      have HK4 := Lib.hid hK4
      have HK5 := Lib.hid hK5
      have HK6 := Lib.hid hK6
      have HK7 := Lib.hid hK7
      have HK8 := Lib.hid hK8
      have HK9 := Lib.hid hK9
      have HK10 := Lib.hid hK10
      have HK11 := Lib.hid hK11
      have HK12 := Lib.hid hK12
      have HK13 := Lib.hid hK13
      have b10 := bndK hK10 hKle (by decide)
      obtain ⟨b10a, b10b⟩ := b10
      clear hK0 hK1 hK2 hK3 hK4 hK5 hK6 hK7 hK8 hK9 hK11 hK12 hK13
      obtain ⟨FL, hFL⟩ : ∃ b, b = decide ((K + 10) % 3 = 0) := ⟨_, rfl⟩
      have hrem : (K10 % 3 == 0) = FL := by rw [hFL]; exact remK hK10
      have HFL := Lib.hid hFL
      clear hFL hK10
      have hgr := HG.out
      obtain ⟨hgB, hgB2⟩ := hgr
      obtain ⟨u, hu⟩ : ∃ u, (flatO L0 ivs)[j * 14 + 0]? = some u := ⟨_, List.getElem?_eq_getElem (by have h1 := R0.out.1; rw [h1]; omega)⟩
      obtain ⟨hc, hf⟩ := R0.out.cellAt hu
      rw [Nat.add_zero] at hc hf
      go_upto_region 6 with (fail)
      clear hu hc hf
      obtain ⟨W1, hW⟩ : ∃ W, W = W0.setCell ⟨g, j * 14 + 0, none⟩ (.int .i64 K0) := ⟨_, rfl⟩
      rw [Nat.add_zero] at hW
      rw [← hW]
      have R1 : Hid (Obs W1 B 14 (.slice (some ⟨g, 0, none⟩) n cap) n (flatO (L0.set j { o0 with k := K0 }) ivs)) := Lib.hid (by
        have h1 := R0.out.set_ (j * 14 + 0) (by omega) (.int .i64 K0)
        rw [flatO_set (o' := { o0 with k := K0 }) JL.out J0.out HI.out (by omega) rfl, Nat.add_zero, ← hW] at h1
        exact h1)
      obtain ⟨o1, ho⟩ : ∃ q : OD, q = { o0 with k := K0 } := ⟨_, rfl⟩
      obtain ⟨L1, hL⟩ : ∃ L, L = L0.set j o1 := ⟨_, rfl⟩
      rw [← ho, ← hL] at R1
      have HO1 := Lib.hid ho
      have HL1 := Lib.hid hL
      have JL1 : Hid (L1.length = ivs.length) := Lib.hid (by rw [hL, List.length_set]; exact JL.out)
      have J1 : Hid (L1[j]? = some o1) := Lib.hid (by rw [hL, List.getElem?_set_self (by rw [JL.out, HLI.out]; exact hlt)])
      have I1 : Hid (∀ (i : Nat) (q : OD) (iv : Value), L0[i]? = some q → ivs[i]? = some iv → Obs W1 B 1 iv q.ids.length (q.ids.map vn)) := Lib.hid (fun i q iv h1 h2 => by
        rw [hW]
        refine (I0.out i q iv h1 h2).same (by simp [World.setCell]) (fun g' hg' => Below.heap_setCell W0 _ _ g' ?_)
        have h3 := (List.pairwise_cons.1 HAP.out).1 iv (List.mem_of_getElem? h2) g rfl
        intro e
        exact h3 (by rw [hg', e]))
      have HW1 : Hid (Wth B B2 w W1) := Lib.hid (by rw [hW]; exact HW0.out.set_ hgB hgB2 _ _)
      clear hW ho hL R0 I0 HW0
      obtain ⟨u, hu⟩ : ∃ u, (flatO L1 ivs)[j * 14 + 1]? = some u := ⟨_, List.getElem?_eq_getElem (by have h1 := R1.out.1; rw [h1]; omega)⟩
      obtain ⟨hc, hf⟩ := R1.out.cellAt hu
      skip
      go_upto_region 8 with (fail)
      clear hu hc hf
      obtain ⟨W2, hW⟩ : ∃ W, W = W1.setCell ⟨g, j * 14 + 1, none⟩ (.int .i64 K1) := ⟨_, rfl⟩
      skip
      rw [← hW]
      have R2 : Hid (Obs W2 B 14 (.slice (some ⟨g, 0, none⟩) n cap) n (flatO (L1.set j { o1 with id := K1 }) ivs)) := Lib.hid (by
        have h1 := R1.out.set_ (j * 14 + 1) (by omega) (.int .i64 K1)
        rw [flatO_set (o' := { o1 with id := K1 }) JL1.out J1.out HI.out (by omega) rfl, ← hW] at h1
        exact h1)
      obtain ⟨o2, ho⟩ : ∃ q : OD, q = { o1 with id := K1 } := ⟨_, rfl⟩
      obtain ⟨L2, hL⟩ : ∃ L, L = L1.set j o2 := ⟨_, rfl⟩
      rw [← ho, ← hL] at R2
      have HO2 := Lib.hid ho
      have HL2 := Lib.hid hL
      have JL2 : Hid (L2.length = ivs.length) := Lib.hid (by rw [hL, List.length_set]; exact JL1.out)
      have J2 : Hid (L2[j]? = some o2) := Lib.hid (by rw [hL, List.getElem?_set_self (by rw [JL1.out, HLI.out]; exact hlt)])
      have I2 : Hid (∀ (i : Nat) (q : OD) (iv : Value), L0[i]? = some q → ivs[i]? = some iv → Obs W2 B 1 iv q.ids.length (q.ids.map vn)) := Lib.hid (fun i q iv h1 h2 => by
        rw [hW]
        refine (I1.out i q iv h1 h2).same (by simp [World.setCell]) (fun g' hg' => Below.heap_setCell W1 _ _ g' ?_)
        have h3 := (List.pairwise_cons.1 HAP.out).1 iv (List.mem_of_getElem? h2) g rfl
        intro e
        exact h3 (by rw [hg', e]))
      have HW2 : Hid (Wth B B2 w W2) := Lib.hid (by rw [hW]; exact HW1.out.set_ hgB hgB2 _ _)
      clear hW ho hL R1 I1 HW1
      obtain ⟨u, hu⟩ : ∃ u, (flatO L2 ivs)[j * 14 + 2]? = some u := ⟨_, List.getElem?_eq_getElem (by have h1 := R2.out.1; rw [h1]; omega)⟩
      obtain ⟨hc, hf⟩ := R2.out.cellAt hu
      skip
      go_upto_region 10 with (fail)
      clear hu hc hf
      obtain ⟨W3, hW⟩ : ∃ W, W = W2.setCell ⟨g, j * 14 + 2, none⟩ (.int .i64 K2) := ⟨_, rfl⟩
      skip
      rw [← hW]
      have R3 : Hid (Obs W3 B 14 (.slice (some ⟨g, 0, none⟩) n cap) n (flatO (L2.set j { o2 with ad := K2 }) ivs)) := Lib.hid (by
        have h1 := R2.out.set_ (j * 14 + 2) (by omega) (.int .i64 K2)
        rw [flatO_set (o' := { o2 with ad := K2 }) JL2.out J2.out HI.out (by omega) rfl, ← hW] at h1
        exact h1)
      obtain ⟨o3, ho⟩ : ∃ q : OD, q = { o2 with ad := K2 } := ⟨_, rfl⟩
      obtain ⟨L3, hL⟩ : ∃ L, L = L2.set j o3 := ⟨_, rfl⟩
      rw [← ho, ← hL] at R3
      have HO3 := Lib.hid ho
      have HL3 := Lib.hid hL
      have JL3 : Hid (L3.length = ivs.length) := Lib.hid (by rw [hL, List.length_set]; exact JL2.out)
      have J3 : Hid (L3[j]? = some o3) := Lib.hid (by rw [hL, List.getElem?_set_self (by rw [JL2.out, HLI.out]; exact hlt)])
      have I3 : Hid (∀ (i : Nat) (q : OD) (iv : Value), L0[i]? = some q → ivs[i]? = some iv → Obs W3 B 1 iv q.ids.length (q.ids.map vn)) := Lib.hid (fun i q iv h1 h2 => by
        rw [hW]
        refine (I2.out i q iv h1 h2).same (by simp [World.setCell]) (fun g' hg' => Below.heap_setCell W2 _ _ g' ?_)
        have h3 := (List.pairwise_cons.1 HAP.out).1 iv (List.mem_of_getElem? h2) g rfl
        intro e
        exact h3 (by rw [hg', e]))
      have HW3 : Hid (Wth B B2 w W3) := Lib.hid (by rw [hW]; exact HW2.out.set_ hgB hgB2 _ _)
      clear hW ho hL R2 I2 HW2
      obtain ⟨u, hu⟩ : ∃ u, (flatO L3 ivs)[j * 14 + 3]? = some u := ⟨_, List.getElem?_eq_getElem (by have h1 := R3.out.1; rw [h1]; omega)⟩
      obtain ⟨hc, hf⟩ := R3.out.cellAt hu
      skip
      go_upto_region 12 with (fail)
      clear hu hc hf
      obtain ⟨W4, hW⟩ : ∃ W, W = W3.setCell ⟨g, j * 14 + 3, none⟩ (.int .i64 K3) := ⟨_, rfl⟩
      skip
      rw [← hW]
      have R4 : Hid (Obs W4 B 14 (.slice (some ⟨g, 0, none⟩) n cap) n (flatO (L3.set j { o3 with po := K3 }) ivs)) := Lib.hid (by
        have h1 := R3.out.set_ (j * 14 + 3) (by omega) (.int .i64 K3)
        rw [flatO_set (o' := { o3 with po := K3 }) JL3.out J3.out HI.out (by omega) rfl, ← hW] at h1
        exact h1)
      obtain ⟨o4, ho⟩ : ∃ q : OD, q = { o3 with po := K3 } := ⟨_, rfl⟩
      obtain ⟨L4, hL⟩ : ∃ L, L = L3.set j o4 := ⟨_, rfl⟩
      rw [← ho, ← hL] at R4
      have HO4 := Lib.hid ho
      have HL4 := Lib.hid hL
      have JL4 : Hid (L4.length = ivs.length) := Lib.hid (by rw [hL, List.length_set]; exact JL3.out)
      have J4 : Hid (L4[j]? = some o4) := Lib.hid (by rw [hL, List.getElem?_set_self (by rw [JL3.out, HLI.out]; exact hlt)])
      have I4 : Hid (∀ (i : Nat) (q : OD) (iv : Value), L0[i]? = some q → ivs[i]? = some iv → Obs W4 B 1 iv q.ids.length (q.ids.map vn)) := Lib.hid (fun i q iv h1 h2 => by
        rw [hW]
        refine (I3.out i q iv h1 h2).same (by simp [World.setCell]) (fun g' hg' => Below.heap_setCell W3 _ _ g' ?_)
        have h3 := (List.pairwise_cons.1 HAP.out).1 iv (List.mem_of_getElem? h2) g rfl
        intro e
        exact h3 (by rw [hg', e]))
      have HW4 : Hid (Wth B B2 w W4) := Lib.hid (by rw [hW]; exact HW3.out.set_ hgB hgB2 _ _)
      clear hW ho hL R3 I3 HW3
      obtain ⟨u, hu⟩ : ∃ u, (flatO L4 ivs)[j * 14 + 4]? = some u := ⟨_, List.getElem?_eq_getElem (by have h1 := R4.out.1; rw [h1]; omega)⟩
      obtain ⟨hc, hf⟩ := R4.out.cellAt hu
      skip
      go_upto_region 14 with (fail)
      clear hu hc hf
      obtain ⟨W5, hW⟩ : ∃ W, W = W4.setCell ⟨g, j * 14 + 4, none⟩ (.int .i64 K4) := ⟨_, rfl⟩
      skip
      rw [← hW]
      have R5 : Hid (Obs W5 B 14 (.slice (some ⟨g, 0, none⟩) n cap) n (flatO (L4.set j { o4 with to := K4 }) ivs)) := Lib.hid (by
        have h1 := R4.out.set_ (j * 14 + 4) (by omega) (.int .i64 K4)
        rw [flatO_set (o' := { o4 with to := K4 }) JL4.out J4.out HI.out (by omega) rfl, ← hW] at h1
        exact h1)
      obtain ⟨o5, ho⟩ : ∃ q : OD, q = { o4 with to := K4 } := ⟨_, rfl⟩
      obtain ⟨L5, hL⟩ : ∃ L, L = L4.set j o5 := ⟨_, rfl⟩
      rw [← ho, ← hL] at R5
      have HO5 := Lib.hid ho
      have HL5 := Lib.hid hL
      have JL5 : Hid (L5.length = ivs.length) := Lib.hid (by rw [hL, List.length_set]; exact JL4.out)
      have J5 : Hid (L5[j]? = some o5) := Lib.hid (by rw [hL, List.getElem?_set_self (by rw [JL4.out, HLI.out]; exact hlt)])
      have I5 : Hid (∀ (i : Nat) (q : OD) (iv : Value), L0[i]? = some q → ivs[i]? = some iv → Obs W5 B 1 iv q.ids.length (q.ids.map vn)) := Lib.hid (fun i q iv h1 h2 => by
        rw [hW]
        refine (I4.out i q iv h1 h2).same (by simp [World.setCell]) (fun g' hg' => Below.heap_setCell W4 _ _ g' ?_)
        have h3 := (List.pairwise_cons.1 HAP.out).1 iv (List.mem_of_getElem? h2) g rfl
        intro e
        exact h3 (by rw [hg', e]))
      have HW5 : Hid (Wth B B2 w W5) := Lib.hid (by rw [hW]; exact HW4.out.set_ hgB hgB2 _ _)
      clear hW ho hL R4 I4 HW4
      obtain ⟨u, hu⟩ : ∃ u, (flatO L5 ivs)[j * 14 + 5]? = some u := ⟨_, List.getElem?_eq_getElem (by have h1 := R5.out.1; rw [h1]; omega)⟩
      obtain ⟨hc, hf⟩ := R5.out.cellAt hu
      skip
      go_upto_region 16 with (fail)
      clear hu hc hf
      obtain ⟨W6, hW⟩ : ∃ W, W = W5.setCell ⟨g, j * 14 + 5, none⟩ (.int .i64 K5) := ⟨_, rfl⟩
      skip
      rw [← hW]
      have R6 : Hid (Obs W6 B 14 (.slice (some ⟨g, 0, none⟩) n cap) n (flatO (L5.set j { o5 with no := K5 }) ivs)) := Lib.hid (by
        have h1 := R5.out.set_ (j * 14 + 5) (by omega) (.int .i64 K5)
        rw [flatO_set (o' := { o5 with no := K5 }) JL5.out J5.out HI.out (by omega) rfl, ← hW] at h1
        exact h1)
      obtain ⟨o6, ho⟩ : ∃ q : OD, q = { o5 with no := K5 } := ⟨_, rfl⟩
      obtain ⟨L6, hL⟩ : ∃ L, L = L5.set j o6 := ⟨_, rfl⟩
      rw [← ho, ← hL] at R6
      have HO6 := Lib.hid ho
      have HL6 := Lib.hid hL
      have JL6 : Hid (L6.length = ivs.length) := Lib.hid (by rw [hL, List.length_set]; exact JL5.out)
      have J6 : Hid (L6[j]? = some o6) := Lib.hid (by rw [hL, List.getElem?_set_self (by rw [JL5.out, HLI.out]; exact hlt)])
      have I6 : Hid (∀ (i : Nat) (q : OD) (iv : Value), L0[i]? = some q → ivs[i]? = some iv → Obs W6 B 1 iv q.ids.length (q.ids.map vn)) := Lib.hid (fun i q iv h1 h2 => by
        rw [hW]
        refine (I5.out i q iv h1 h2).same (by simp [World.setCell]) (fun g' hg' => Below.heap_setCell W5 _ _ g' ?_)
        have h3 := (List.pairwise_cons.1 HAP.out).1 iv (List.mem_of_getElem? h2) g rfl
        intro e
        exact h3 (by rw [hg', e]))
      have HW6 : Hid (Wth B B2 w W6) := Lib.hid (by rw [hW]; exact HW5.out.set_ hgB hgB2 _ _)
      clear hW ho hL R5 I5 HW5
      obtain ⟨u, hu⟩ : ∃ u, (flatO L6 ivs)[j * 14 + 6]? = some u := ⟨_, List.getElem?_eq_getElem (by have h1 := R6.out.1; rw [h1]; omega)⟩
      obtain ⟨hc, hf⟩ := R6.out.cellAt hu
      skip
      go_upto_region 18 with (fail)
      clear hu hc hf
      obtain ⟨W7, hW⟩ : ∃ W, W = W6.setCell ⟨g, j * 14 + 6, none⟩ (.int .i64 K6) := ⟨_, rfl⟩
      skip
      rw [← hW]
      have R7 : Hid (Obs W7 B 14 (.slice (some ⟨g, 0, none⟩) n cap) n (flatO (L6.set j { o6 with se := K6 }) ivs)) := Lib.hid (by
        have h1 := R6.out.set_ (j * 14 + 6) (by omega) (.int .i64 K6)
        rw [flatO_set (o' := { o6 with se := K6 }) JL6.out J6.out HI.out (by omega) rfl, ← hW] at h1
        exact h1)
      obtain ⟨o7, ho⟩ : ∃ q : OD, q = { o6 with se := K6 } := ⟨_, rfl⟩
      obtain ⟨L7, hL⟩ : ∃ L, L = L6.set j o7 := ⟨_, rfl⟩
      rw [← ho, ← hL] at R7
      have HO7 := Lib.hid ho
      have HL7 := Lib.hid hL
      have JL7 : Hid (L7.length = ivs.length) := Lib.hid (by rw [hL, List.length_set]; exact JL6.out)
      have J7 : Hid (L7[j]? = some o7) := Lib.hid (by rw [hL, List.getElem?_set_self (by rw [JL6.out, HLI.out]; exact hlt)])
      have I7 : Hid (∀ (i : Nat) (q : OD) (iv : Value), L0[i]? = some q → ivs[i]? = some iv → Obs W7 B 1 iv q.ids.length (q.ids.map vn)) := Lib.hid (fun i q iv h1 h2 => by
        rw [hW]
        refine (I6.out i q iv h1 h2).same (by simp [World.setCell]) (fun g' hg' => Below.heap_setCell W6 _ _ g' ?_)
        have h3 := (List.pairwise_cons.1 HAP.out).1 iv (List.mem_of_getElem? h2) g rfl
        intro e
        exact h3 (by rw [hg', e]))
      have HW7 : Hid (Wth B B2 w W7) := Lib.hid (by rw [hW]; exact HW6.out.set_ hgB hgB2 _ _)
      clear hW ho hL R6 I6 HW6
      obtain ⟨u, hu⟩ : ∃ u, (flatO L7 ivs)[j * 14 + 7]? = some u := ⟨_, List.getElem?_eq_getElem (by have h1 := R7.out.1; rw [h1]; omega)⟩
      obtain ⟨hc, hf⟩ := R7.out.cellAt hu
      skip
      go_upto_region 20 with (fail)
      clear hu hc hf
      obtain ⟨W8, hW⟩ : ∃ W, W = W7.setCell ⟨g, j * 14 + 7, none⟩ (.int .i64 K7) := ⟨_, rfl⟩
      skip
      rw [← hW]
      have R8 : Hid (Obs W8 B 14 (.slice (some ⟨g, 0, none⟩) n cap) n (flatO (L7.set j { o7 with su := K7 }) ivs)) := Lib.hid (by
        have h1 := R7.out.set_ (j * 14 + 7) (by omega) (.int .i64 K7)
        rw [flatO_set (o' := { o7 with su := K7 }) JL7.out J7.out HI.out (by omega) rfl, ← hW] at h1
        exact h1)
      obtain ⟨o8, ho⟩ : ∃ q : OD, q = { o7 with su := K7 } := ⟨_, rfl⟩
      obtain ⟨L8, hL⟩ : ∃ L, L = L7.set j o8 := ⟨_, rfl⟩
      rw [← ho, ← hL] at R8
      have HO8 := Lib.hid ho
      have HL8 := Lib.hid hL
      have JL8 : Hid (L8.length = ivs.length) := Lib.hid (by rw [hL, List.length_set]; exact JL7.out)
      have J8 : Hid (L8[j]? = some o8) := Lib.hid (by rw [hL, List.getElem?_set_self (by rw [JL7.out, HLI.out]; exact hlt)])
      have I8 : Hid (∀ (i : Nat) (q : OD) (iv : Value), L0[i]? = some q → ivs[i]? = some iv → Obs W8 B 1 iv q.ids.length (q.ids.map vn)) := Lib.hid (fun i q iv h1 h2 => by
        rw [hW]
        refine (I7.out i q iv h1 h2).same (by simp [World.setCell]) (fun g' hg' => Below.heap_setCell W7 _ _ g' ?_)
        have h3 := (List.pairwise_cons.1 HAP.out).1 iv (List.mem_of_getElem? h2) g rfl
        intro e
        exact h3 (by rw [hg', e]))
      have HW8 : Hid (Wth B B2 w W8) := Lib.hid (by rw [hW]; exact HW7.out.set_ hgB hgB2 _ _)
      clear hW ho hL R7 I7 HW7
      obtain ⟨u, hu⟩ : ∃ u, (flatO L8 ivs)[j * 14 + 8]? = some u := ⟨_, List.getElem?_eq_getElem (by have h1 := R8.out.1; rw [h1]; omega)⟩
      obtain ⟨hc, hf⟩ := R8.out.cellAt hu
      skip
      go_upto_region 22 with (fail)
      clear hu hc hf
      obtain ⟨W9, hW⟩ : ∃ W, W = W8.setCell ⟨g, j * 14 + 8, none⟩ (.int .i64 K8) := ⟨_, rfl⟩
      skip
      rw [← hW]
      have R9 : Hid (Obs W9 B 14 (.slice (some ⟨g, 0, none⟩) n cap) n (flatO (L8.set j { o8 with le := K8 }) ivs)) := Lib.hid (by
        have h1 := R8.out.set_ (j * 14 + 8) (by omega) (.int .i64 K8)
        rw [flatO_set (o' := { o8 with le := K8 }) JL8.out J8.out HI.out (by omega) rfl, ← hW] at h1
        exact h1)
      obtain ⟨o9, ho⟩ : ∃ q : OD, q = { o8 with le := K8 } := ⟨_, rfl⟩
      obtain ⟨L9, hL⟩ : ∃ L, L = L8.set j o9 := ⟨_, rfl⟩
      rw [← ho, ← hL] at R9
      have HO9 := Lib.hid ho
      have HL9 := Lib.hid hL
      have JL9 : Hid (L9.length = ivs.length) := Lib.hid (by rw [hL, List.length_set]; exact JL8.out)
      have J9 : Hid (L9[j]? = some o9) := Lib.hid (by rw [hL, List.getElem?_set_self (by rw [JL8.out, HLI.out]; exact hlt)])
      have I9 : Hid (∀ (i : Nat) (q : OD) (iv : Value), L0[i]? = some q → ivs[i]? = some iv → Obs W9 B 1 iv q.ids.length (q.ids.map vn)) := Lib.hid (fun i q iv h1 h2 => by
        rw [hW]
        refine (I8.out i q iv h1 h2).same (by simp [World.setCell]) (fun g' hg' => Below.heap_setCell W8 _ _ g' ?_)
        have h3 := (List.pairwise_cons.1 HAP.out).1 iv (List.mem_of_getElem? h2) g rfl
        intro e
        exact h3 (by rw [hg', e]))
      have HW9 : Hid (Wth B B2 w W9) := Lib.hid (by rw [hW]; exact HW8.out.set_ hgB hgB2 _ _)
      clear hW ho hL R8 I8 HW8
      obtain ⟨u, hu⟩ : ∃ u, (flatO L9 ivs)[j * 14 + 9]? = some u := ⟨_, List.getElem?_eq_getElem (by have h1 := R9.out.1; rw [h1]; omega)⟩
      obtain ⟨hc, hf⟩ := R9.out.cellAt hu
      skip
      go_upto_region 24 with (fail)
      clear hu hc hf
      obtain ⟨W10, hW⟩ : ∃ W, W = W9.setCell ⟨g, j * 14 + 9, none⟩ (.int .i64 K9) := ⟨_, rfl⟩
      skip
      rw [← hW]
      have R10 : Hid (Obs W10 B 14 (.slice (some ⟨g, 0, none⟩) n cap) n (flatO (L9.set j { o9 with ac := K9 }) ivs)) := Lib.hid (by
        have h1 := R9.out.set_ (j * 14 + 9) (by omega) (.int .i64 K9)
        rw [flatO_set (o' := { o9 with ac := K9 }) JL9.out J9.out HI.out (by omega) rfl, ← hW] at h1
        exact h1)
      obtain ⟨o10, ho⟩ : ∃ q : OD, q = { o9 with ac := K9 } := ⟨_, rfl⟩
      obtain ⟨L10, hL⟩ : ∃ L, L = L9.set j o10 := ⟨_, rfl⟩
      rw [← ho, ← hL] at R10
      have HO10 := Lib.hid ho
      have HL10 := Lib.hid hL
      have JL10 : Hid (L10.length = ivs.length) := Lib.hid (by rw [hL, List.length_set]; exact JL9.out)
      have J10 : Hid (L10[j]? = some o10) := Lib.hid (by rw [hL, List.getElem?_set_self (by rw [JL9.out, HLI.out]; exact hlt)])
      have I10 : Hid (∀ (i : Nat) (q : OD) (iv : Value), L0[i]? = some q → ivs[i]? = some iv → Obs W10 B 1 iv q.ids.length (q.ids.map vn)) := Lib.hid (fun i q iv h1 h2 => by
        rw [hW]
        refine (I9.out i q iv h1 h2).same (by simp [World.setCell]) (fun g' hg' => Below.heap_setCell W9 _ _ g' ?_)
        have h3 := (List.pairwise_cons.1 HAP.out).1 iv (List.mem_of_getElem? h2) g rfl
        intro e
        exact h3 (by rw [hg', e]))
      have HW10 : Hid (Wth B B2 w W10) := Lib.hid (by rw [hW]; exact HW9.out.set_ hgB hgB2 _ _)
      clear hW ho hL R9 I9 HW9
      obtain ⟨u, hu⟩ : ∃ u, (flatO L10 ivs)[j * 14 + 10]? = some u := ⟨_, List.getElem?_eq_getElem (by have h1 := R10.out.1; rw [h1]; omega)⟩
      obtain ⟨hc, hf⟩ := R10.out.cellAt hu
      skip
      go_upto_region 26 with (fail)
      clear hu hc hf
      obtain ⟨W11, hW⟩ : ∃ W, W = W10.setCell ⟨g, j * 14 + 10, none⟩ (.bool FL) := ⟨_, rfl⟩
      skip
      rw [← hW]
      have R11 : Hid (Obs W11 B 14 (.slice (some ⟨g, 0, none⟩) n cap) n (flatO (L10.set j { o10 with fl := FL }) ivs)) := Lib.hid (by
        have h1 := R10.out.set_ (j * 14 + 10) (by omega) (.bool FL)
        rw [flatO_set (o' := { o10 with fl := FL }) JL10.out J10.out HI.out (by omega) rfl, ← hW] at h1
        exact h1)
      obtain ⟨o11, ho⟩ : ∃ q : OD, q = { o10 with fl := FL } := ⟨_, rfl⟩
      obtain ⟨L11, hL⟩ : ∃ L, L = L10.set j o11 := ⟨_, rfl⟩
      rw [← ho, ← hL] at R11
      have HO11 := Lib.hid ho
      have HL11 := Lib.hid hL
      have JL11 : Hid (L11.length = ivs.length) := Lib.hid (by rw [hL, List.length_set]; exact JL10.out)
      have J11 : Hid (L11[j]? = some o11) := Lib.hid (by rw [hL, List.getElem?_set_self (by rw [JL10.out, HLI.out]; exact hlt)])
      have I11 : Hid (∀ (i : Nat) (q : OD) (iv : Value), L0[i]? = some q → ivs[i]? = some iv → Obs W11 B 1 iv q.ids.length (q.ids.map vn)) := Lib.hid (fun i q iv h1 h2 => by
        rw [hW]
        refine (I10.out i q iv h1 h2).same (by simp [World.setCell]) (fun g' hg' => Below.heap_setCell W10 _ _ g' ?_)
        have h3 := (List.pairwise_cons.1 HAP.out).1 iv (List.mem_of_getElem? h2) g rfl
        intro e
        exact h3 (by rw [hg', e]))
      have HW11 : Hid (Wth B B2 w W11) := Lib.hid (by rw [hW]; exact HW10.out.set_ hgB hgB2 _ _)
      clear hW ho hL R10 I10 HW10
      obtain ⟨T11, hT11⟩ : ∃ T, T = markT (K + 11) := ⟨_, rfl⟩
      have HT11 := Lib.hid hT11
      clear hT11
      go_wp2_with fail
      rw [HK11.out]
      refine (markText_l (K + 11) W11 (by omega) (by omega)).mono ?_
      rw [← HK11.out, ← HT11.out]
      rintro e V ⟨rfl, hb⟩
      have R11 := Lib.hid (R11.out.below hb)
      have I11 : Hid (∀ (i : Nat) (q : OD) (iv : Value), L0[i]? = some q → ivs[i]? = some iv → Obs V B 1 iv q.ids.length (q.ids.map vn)) := Lib.hid (fun i q iv h1 h2 => (I11.out i q iv h1 h2).below hb)
      have HW11 := Lib.hid (HW11.out.trans (.of_below hb))
      clear hb
      obtain ⟨W11, rfl⟩ : ∃ W, W = V := ⟨_, rfl⟩
      obtain ⟨u, hu⟩ : ∃ u, (flatO L11 ivs)[j * 14 + 11]? = some u := ⟨_, List.getElem?_eq_getElem (by have h1 := R11.out.1; rw [h1]; omega)⟩
      obtain ⟨hc, hf⟩ := R11.out.cellAt hu
      skip
      go_upto_region 28 with (fail)
      clear hu hc hf
      obtain ⟨W12, hW⟩ : ∃ W, W = W11.setCell ⟨g, j * 14 + 11, none⟩ (.string T11) := ⟨_, rfl⟩
      skip
      rw [← hW]
      have R12 : Hid (Obs W12 B 14 (.slice (some ⟨g, 0, none⟩) n cap) n (flatO (L11.set j { o11 with ke := T11 }) ivs)) := Lib.hid (by
        have h1 := R11.out.set_ (j * 14 + 11) (by omega) (.string T11)
        rw [flatO_set (o' := { o11 with ke := T11 }) JL11.out J11.out HI.out (by omega) rfl, ← hW] at h1
        exact h1)
      obtain ⟨o12, ho⟩ : ∃ q : OD, q = { o11 with ke := T11 } := ⟨_, rfl⟩
      obtain ⟨L12, hL⟩ : ∃ L, L = L11.set j o12 := ⟨_, rfl⟩
      rw [← ho, ← hL] at R12
      have HO12 := Lib.hid ho
      have HL12 := Lib.hid hL
      have JL12 : Hid (L12.length = ivs.length) := Lib.hid (by rw [hL, List.length_set]; exact JL11.out)
      have J12 : Hid (L12[j]? = some o12) := Lib.hid (by rw [hL, List.getElem?_set_self (by rw [JL11.out, HLI.out]; exact hlt)])
      have I12 : Hid (∀ (i : Nat) (q : OD) (iv : Value), L0[i]? = some q → ivs[i]? = some iv → Obs W12 B 1 iv q.ids.length (q.ids.map vn)) := Lib.hid (fun i q iv h1 h2 => by
        rw [hW]
        refine (I11.out i q iv h1 h2).same (by simp [World.setCell]) (fun g' hg' => Below.heap_setCell W11 _ _ g' ?_)
        have h3 := (List.pairwise_cons.1 HAP.out).1 iv (List.mem_of_getElem? h2) g rfl
        intro e
        exact h3 (by rw [hg', e]))
      have HW12 : Hid (Wth B B2 w W12) := Lib.hid (by rw [hW]; exact HW11.out.set_ hgB hgB2 _ _)
      clear hW ho hL R11 I11 HW11
      obtain ⟨T12, hT12⟩ : ∃ T, T = markT (K + 12) := ⟨_, rfl⟩
      have HT12 := Lib.hid hT12
      clear hT12
      go_wp2_with fail
      rw [HK12.out]
      refine (markText_l (K + 12) W12 (by omega) (by omega)).mono ?_
      rw [← HK12.out, ← HT12.out]
      rintro e V ⟨rfl, hb⟩
      have R12 := Lib.hid (R12.out.below hb)
      have I12 : Hid (∀ (i : Nat) (q : OD) (iv : Value), L0[i]? = some q → ivs[i]? = some iv → Obs V B 1 iv q.ids.length (q.ids.map vn)) := Lib.hid (fun i q iv h1 h2 => (I12.out i q iv h1 h2).below hb)
      have HW12 := Lib.hid (HW12.out.trans (.of_below hb))
      clear hb
      obtain ⟨W12, rfl⟩ : ∃ W, W = V := ⟨_, rfl⟩
      obtain ⟨u, hu⟩ : ∃ u, (flatO L12 ivs)[j * 14 + 12]? = some u := ⟨_, List.getElem?_eq_getElem (by have h1 := R12.out.1; rw [h1]; omega)⟩
      obtain ⟨hc, hf⟩ := R12.out.cellAt hu
      skip
      go_upto_region 30 with (fail)
      clear hu hc hf
      obtain ⟨W13, hW⟩ : ∃ W, W = W12.setCell ⟨g, j * 14 + 12, none⟩ (.string T12) := ⟨_, rfl⟩
      skip
      rw [← hW]
      have R13 : Hid (Obs W13 B 14 (.slice (some ⟨g, 0, none⟩) n cap) n (flatO (L12.set j { o12 with ma := T12 }) ivs)) := Lib.hid (by
        have h1 := R12.out.set_ (j * 14 + 12) (by omega) (.string T12)
        rw [flatO_set (o' := { o12 with ma := T12 }) JL12.out J12.out HI.out (by omega) rfl, ← hW] at h1
        exact h1)
      obtain ⟨o13, ho⟩ : ∃ q : OD, q = { o12 with ma := T12 } := ⟨_, rfl⟩
      obtain ⟨L13, hL⟩ : ∃ L, L = L12.set j o13 := ⟨_, rfl⟩
      rw [← ho, ← hL] at R13
      have HO13 := Lib.hid ho
      have HL13 := Lib.hid hL
      have JL13 : Hid (L13.length = ivs.length) := Lib.hid (by rw [hL, List.length_set]; exact JL12.out)
      have J13 : Hid (L13[j]? = some o13) := Lib.hid (by rw [hL, List.getElem?_set_self (by rw [JL12.out, HLI.out]; exact hlt)])
      have I13 : Hid (∀ (i : Nat) (q : OD) (iv : Value), L0[i]? = some q → ivs[i]? = some iv → Obs W13 B 1 iv q.ids.length (q.ids.map vn)) := Lib.hid (fun i q iv h1 h2 => by
        rw [hW]
        refine (I12.out i q iv h1 h2).same (by simp [World.setCell]) (fun g' hg' => Below.heap_setCell W12 _ _ g' ?_)
        have h3 := (List.pairwise_cons.1 HAP.out).1 iv (List.mem_of_getElem? h2) g rfl
        intro e
        exact h3 (by rw [hg', e]))
      have HW13 : Hid (Wth B B2 w W13) := Lib.hid (by rw [hW]; exact HW12.out.set_ hgB hgB2 _ _)
      clear hW ho hL R12 I12 HW12
      have i13 : (flatO L13 ivs)[j * 14 + 13]? = some iv := (flatO_get L13 ivs j o13 iv J13.out HI.out 13 (by omega)).trans rfl
      obtain ⟨hc, hf⟩ := R13.out.cellAt i13
      have OI := Lib.hid (I13.out j o0 iv J0.out HI.out)
      have hown : ∀ g', iv.ownBlock = some g' → B ≤ g' ∧ g' < B2 := fun g' hg' => ⟨(OI.out.lt g' hg').1, HVS.out iv (List.mem_of_getElem? HI.out) g' hg'⟩
      have HOWN := Lib.hid hown
      have e0 : o0 = o := HO0.out
      subst e0
      obtain ⟨A1, cp1, rfl⟩ := OI.out.shape
      clear i13 hown
      go_wp2_with fail
      rw [HK13.out]
      refine (markIntS_l _ _ o0.ids (K + 13) B W13 (Nat.le_trans HBW.out HW13.out.size) OI.out hidb (by omega)).mono ?_
      rintro e V ⟨rfl, ho, hg⟩
      have HWV := Lib.hid (HW13.out.only hg HOWN.out)
      have hgne : ∀ (i : Nat) (a : Value), ivs[i]? = some a → i ≠ j → ∀ g', a.ownBlock = some g' → (Value.slice A1 o0.ids.length cp1).ownBlock ≠ some g' := fun i a hi hij g' hg' => by
        obtain ⟨hi1, hi2⟩ := List.getElem?_eq_some_iff.1 hi
        obtain ⟨hj1, hj2⟩ := List.getElem?_eq_some_iff.1 HI.out
        have hp := (List.pairwise_cons.1 HAP.out).2
        rw [List.pairwise_iff_getElem] at hp
        rcases Nat.lt_or_gt_of_ne hij with hlt2 | hlt2
        · have h3 := hp i j hi1 hj1 hlt2
          rw [hi2, hj2] at h3
          exact h3 g' hg'
        · have h3 := hp j i hj1 hi1 hlt2
          rw [hi2, hj2] at h3
          intro e
          exact h3 g' e hg'
      have HV2 : Hid (ObO V B (.slice (some ⟨g, 0, none⟩) n cap) n (omJ k0 os (j + 1)) ivs) := Lib.hid (by
        have hLL : omJ k0 os (j + 1) = L13.set j { o13 with ids := marks (K + 13 : Nat) o0.ids.length } := by
          rw [← omJ_step HO.out, ← HL0.out, ← HK.out]
          rw [HL13.out, HL12.out, HL11.out, HL10.out, HL9.out, HL8.out, HL7.out, HL6.out, HL5.out, HL4.out, HL3.out, HL2.out, HL1.out]
          simp only [List.set_set]
          congr 1
          rw [HO13.out, HO12.out, HO11.out, HO10.out, HO9.out, HO8.out, HO7.out, HO6.out, HO5.out, HO4.out, HO3.out, HO2.out, HO1.out]
          rw [HK0.out, HK1.out, HK2.out, HK3.out, HK4.out, HK5.out, HK6.out, HK7.out, HK8.out, HK9.out, HFL.out, HT11.out, HT12.out]
          rfl
        have hflat : flatO (omJ k0 os (j + 1)) ivs = flatO L13 ivs := by
          rw [hLL]
          have h1 := flatO_set (o' := { o13 with ids := marks (K + 13 : Nat) o0.ids.length }) (j := 13) (u := .slice A1 o0.ids.length cp1) JL13.out J13.out HI.out (by omega) rfl
          rw [← h1]
          apply List.ext_getElem?
          intro i
          by_cases hij : i = j * 14 + 13
          · rw [hij, List.getElem?_set_self (by rw [flatO_len _ _ JL13.out, JL13.out, HLI.out]; omega)]
            exact ((flatO_get L13 ivs j o13 _ J13.out HI.out 13 (by omega)).trans rfl).symm
          · rw [List.getElem?_set_ne (by omega)]
        refine ⟨by rw [omJ_len (by have := HL.out; omega), HL.out], HLI.out, ?_, fun i q a hq ha => ?_⟩
        · rw [hflat]
          exact R13.out.same hg.size (fun g' hg' => hg.block g' (R13.out.lt g' hg').2 (by
            have h3 := (List.pairwise_cons.1 HAP.out).1 _ (List.mem_of_getElem? HI.out) g rfl
            have : g = g' := by simpa [Value.ownBlock] using hg'
            subst this
            intro e
            exact h3 e.symm))
        · by_cases hij : i = j
          · subst hij
            rw [HI.out] at ha
            obtain rfl := Option.some.inj ha
            rw [hLL, List.getElem?_set_self (by rw [JL13.out, HLI.out]; exact hlt)] at hq
            obtain rfl := Option.some.inj hq
            dsimp only
            rw [marks_len]
            exact ho
          · rw [hLL, List.getElem?_set_ne (by omega), HL13.out, List.getElem?_set_ne (by omega), HL12.out, List.getElem?_set_ne (by omega), HL11.out, List.getElem?_set_ne (by omega), HL10.out, List.getElem?_set_ne (by omega), HL9.out, List.getElem?_set_ne (by omega), HL8.out, List.getElem?_set_ne (by omega), HL7.out, List.getElem?_set_ne (by omega), HL6.out, List.getElem?_set_ne (by omega), HL5.out, List.getElem?_set_ne (by omega), HL4.out, List.getElem?_set_ne (by omega), HL3.out, List.getElem?_set_ne (by omega), HL2.out, List.getElem?_set_ne (by omega), HL1.out, List.getElem?_set_ne (by omega)] at hq
            have h1 := I13.out i q a hq ha
            exact h1.same hg.size (fun g' hg' => hg.block g' (h1.lt g' hg').2 (by
              have h3 := hgne i a ha hij g' hg'
              intro e
              exact h3 e.symm)))
      clear ho hg hgne hc hf
      rw [show ((K + 13 + o0.ids.length : Nat) : Int) = ((omE k0 (os.take (j + 1)) : Nat) : Int) by rw [HE.out]]
      go_wp2
      go_roundw
      case rel => exact ⟨j + 1, by omega, by go_num, rfl, HV2, HWV⟩
      case measure => (simp [intOf]; try omega)
    · obtain rfl : j = n := by omega
      have HE : Hid (os.take j = os) := Lib.hid (List.take_of_length_le (by have := HL.out; omega))
      have H2 : Hid (ObO wr B (.slice (some ⟨g, 0, none⟩) j cap) j (omL k0 os) ivs) := Lib.hid (by
        have h1 := H.out
        unfold omJ at h1
        rwa [HE.out, List.drop_of_length_le (by have := HL.out; omega), List.append_nil] at h1)
      rw [HE.out]
      go_wp2
      go_ret
      exact ⟨rfl, H2.out, HW.out⟩
end Go.Proofs.Ytkgbkgonlopciaa
