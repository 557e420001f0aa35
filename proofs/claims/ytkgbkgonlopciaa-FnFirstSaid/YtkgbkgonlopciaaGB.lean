/- Words for memory, eleventh part: an option is appended to a row of options. Words for memory, thirteenth part: options appended to a row of options, as steps of a region that draws. -/
import Derived.Test.YtkgbkgonlopciaaK9
import Derived.Test.YtkgbkgonlopciaaK10
import Derived.Test.YtkgbkgonlopciaaM9
import Derived.ArgAppend
namespace Go.Proofs.Ytkgbkgonlopciaa
open Go.RowKit
set_option linter.unusedVariables false
set_option linter.unusedSimpArgs false
/-- an append hands back the old block or a new one -/
theorem append_own {P : Program} (w : World) (B : Nat) (t ty e : TypeId) (i : TypeInfo) (z : Value) (size bytes : Nat) (ht : P.underlying t = some (.slice e)) (hi : P.info? e = some i) (hz : i.zero = some z)
    (hsize : i.size = size) (hby : i.bytes = bytes) (hzs : z.cells.size = size) (hsz : 0 < size) (v : Value) (n : Nat) (xs : List Value) (h : Obs w B size v n xs) (a : Addr) (m c : Nat) (news : List Value)
    (hl : news.length = m * size) (hnews : ∀ (j : Nat) (u : Value), news[j]? = some u → w.cell? (a.add j) = some u) (h1 : ∀ (u : Value), u ∈ news → u.oneCell' = true) (h63 : n + m ≤ maxLen)
    (hbytes : (n + m) * bytes ≤ 140737488355328) (hbase : B ≤ w.heap.size) {v' : Value} {w' : World} (hr : Sem.run P (Builtin.append_ #[t, t] ty #[v, .slice (some a) m c]) w = .ok v' w') :
    v'.ownBlock = v.ownBlock ∨ ∀ g, v'.ownBlock = some g → w.heap.size ≤ g := by
  have hx := h.1
  rcases h.2 with ⟨rfl, rfl⟩ | ⟨g, cap, rfl, hB, hg, hnc, hm, hc, hcx⟩
  · have hxs : xs = [] := List.eq_nil_of_length_eq_zero (by simpa using hx)
    subst hxs
    obtain ⟨v2, w2, hr2, ho, _⟩ := run_append_obs (P := P) w w.heap.size t ty e i z size bytes ht hi hz hsize hby hzs hsz (.slice none 0 0) 0 [] (Obs.nil _ _ _) a m c news hl hnews h1 h63 hbytes (Nat.le_refl _)
    rw [hr] at hr2
    obtain ⟨rfl, rfl⟩ : v' = v2 ∧ w' = w2 := by injection hr2 with e1 e2; exact ⟨e1, e2⟩
    exact .inr (fun g hg => (ho.lt g hg).1)
  · by_cases hroom : n + m ≤ cap
    · subst hsize
      have hmul : n * i.size + m * i.size ≤ cap * i.size := by rw [← Nat.add_mul]; exact Nat.mul_le_mul_right _ hroom
      have hr2 := run_append_room_cells (P := P) w t ty e i ht hi g 0 n cap a m c news hl hnews h1 hroom (fun j hj => (hc _ (by omega)).1) (fun j hj => (hc _ (by omega)).2)
      have hr3 : Result.ok v' w' = Result.ok (.slice (some ⟨g, 0, none⟩) (n + m) cap) (w.setCells g (0 + n * i.size) news) := hr.symm.trans hr2
      obtain ⟨rfl, _⟩ : v' = .slice (some ⟨g, 0, none⟩) (n + m) cap ∧ w' = _ := by injection hr3 with e1 e2; exact ⟨e1, e2⟩
      exact .inl rfl
    · obtain ⟨v2, w2, hr2, ho, hgr⟩ := run_append_arg_grows (P := P) w t ty e i z size bytes ht hi hz hsize hby hzs hsz ⟨g, 0, none⟩ n cap xs hx (fun j u hu => by
          have := hcx j u hu
          unfold Addr.add
          split <;> simp_all) a m c news hl hnews (by omega) h63 hbytes
      have hr3 : Result.ok v' w' = Result.ok v2 w2 := hr.symm.trans hr2
      obtain ⟨rfl, rfl⟩ : v' = v2 ∧ w' = w2 := by injection hr3 with e1 e2; exact ⟨e1, e2⟩
      exact .inr (fun g hg => ((Obs.of_own ho).lt g hg).1)
theorem Apt.own {v v' : Value} {ivs : List Value} (h : Apt v ivs) (e : v'.ownBlock = v.ownBlock) : Apt v' ivs := by
  unfold Apt at *
  rw [List.pairwise_cons] at *
  exact ⟨fun b hb g hg => h.1 b hb g (by rw [← e]; exact hg), h.2⟩
theorem Apt.fresh {v v' : Value} {ivs : List Value} {M : Nat} (h : Apt v ivs) (hv : ∀ g, v'.ownBlock = some g → M ≤ g) (hi : ∀ a ∈ ivs, ∀ g, a.ownBlock = some g → g < M) : Apt v' ivs := by
  unfold Apt at *
  rw [List.pairwise_cons] at *
  exact ⟨fun b hb g hg e => by have := hv g hg; have := hi b hb g e; omega, h.2⟩
theorem ObO.lts {w : World} {B n : Nat} {v : Value} {os : List OD} {ivs : List Value} (h : ObO w B v n os ivs) : ∀ a ∈ ivs, ∀ g, a.ownBlock = some g → g < w.heap.size := fun a ha g hg => by
  obtain ⟨k, hk, rfl⟩ := List.getElem_of_mem ha
  have hk2 : k < os.length := by have := h.lo; have := h.li; omega
  exact ((h.ids k _ _ (List.getElem?_eq_getElem hk2) (List.getElem?_eq_getElem hk)).lt g hg).2
theorem wpl_append_opt {ops : Array Oper} {rest : List Oper} {o : Oper} {a : Act} {Q : Exit → Act → World → Prop} (w : World) (hgd : o.guard = none) (s x : Operand)
    (ho : o.op = Op.call { callee := Callee.builtin Builtin.append, args := #[s, x], argTypes := #[35, 35] }) (B : Nat) (v : Value) (n : Nat) (os : List OD) (ivs : List Value) (hs : a.eval s = v) (h : ObO w B v n os ivs) (ha : Apt v ivs)
    (q : OD) (A : Option Addr) (m cp b : Nat) (hx : a.eval x = .slice (some ⟨b, 0, none⟩) 1 1) (h2 : Bx w b (voC q (.slice A m cp))) (hiv : Obs w B 1 (.slice A m cp) q.ids.length (q.ids.map vn)) (M : Nat) (hM : ∀ g, (Value.slice A m cp).ownBlock = some g → M ≤ g)
    (hv : ∀ g, v.ownBlock = some g → g < M) (hvs : ∀ a ∈ ivs, ∀ g, a.ownBlock = some g → g < M) (hn : n ≤ 1048576) (hB : B ≤ w.heap.size)
    (hK : ∀ (v' : Value) (w' : World), ObO w' B v' (n + 1) (os ++ [q]) (ivs ++ [.slice A m cp]) → Apt v' (ivs ++ [.slice A m cp]) → Below B w w' → wpList Try.prog ops Q rest (a.put o.dst v') w') : wpList Try.prog ops Q (o :: rest) a w := by
  obtain ⟨i0, hi, hz0, hz1, hz2⟩ := info_parts opt_info
  refine wpList_plain hgd fun _ hK2 => ?_
  have hnews : ∀ (j : Nat) (u : Value), (voC q (.slice A m cp))[j]? = some u → w.cell? ((⟨b, 0, none⟩ : Addr).add j) = some u := fun j u hu => by
    have := h2.2 j u hu
    unfold Addr.add
    split <;> simp_all
  have h1 : ∀ (u : Value), u ∈ voC q (.slice A m cp) → u.oneCell' = true := fun u hu => by
    have := List.all_eq_true.1 (show (voC q (.slice A m cp)).all (·.oneCell') = true by simp [voC, Value.oneCell']) u hu
    exact this
  obtain ⟨v', w', hr, h3, h4, h5⟩ := run_append_obs (P := Try.prog) w B 35 o.type 27 i0 _ 14 144 Try.underlying35 hi hz0 hz1 hz2 rfl (by decide) v n (flatO os ivs) h.row ⟨b, 0, none⟩ 1 1 (voC q (.slice A m cp)) rfl hnews h1 (by unfold maxLen; omega) (by omega) hB
  have hown := append_own (P := Try.prog) w B 35 o.type 27 i0 _ 14 144 Try.underlying35 hi hz0 hz1 hz2 rfl (by decide) v n (flatO os ivs) h.row ⟨b, 0, none⟩ 1 1 (voC q (.slice A m cp)) rfl hnews h1 (by unfold maxLen; omega) (by omega) hB hr
  have hap := ha.snoc (m := M) (fun c hc g hg => by
    rcases List.mem_cons.1 hc with rfl | hc
    · exact hv g hg
    · exact hvs c hc g hg) hM
  have hap2 : Apt v' (ivs ++ [.slice A m cp]) := by
    rcases hown with e | e
    · exact hap.own e
    · refine hap.fresh e (fun c hc g hg => ?_)
      rcases List.mem_append.1 hc with hc | hc
      · exact h.lts c hc g hg
      · obtain rfl := List.mem_singleton.1 hc
        exact (hiv.lt g hg).2
  have hOb : ObO w' B v' (n + 1) (os ++ [q]) (ivs ++ [.slice A m cp]) := by
    refine ⟨by simp [h.lo], by simp [h.li], ?_, fun k p c hp hc => ?_⟩
    · rw [flatO_append _ _ _ _ (h.lo.trans h.li.symm), flatO_one]
      exact h3
    · have hne : ∀ c ∈ ivs ++ [.slice A m cp], ∀ g, c.ownBlock = some g → v.ownBlock ≠ some g := fun c hc g hg e => by
        exact (List.pairwise_cons.1 hap).1 c hc g e hg
      have hcm : c ∈ ivs ++ [.slice A m cp] := List.mem_of_getElem? hc
      have hob : Obs w B 1 c p.ids.length (p.ids.map vn) := by
        by_cases hk : k < os.length
        · rw [List.getElem?_append_left hk] at hp
          rw [List.getElem?_append_left (by rw [h.li, ← h.lo]; exact hk)] at hc
          exact h.ids k p c hp hc
        · rw [List.getElem?_append_right (by omega)] at hp
          rw [List.getElem?_append_right (by rw [h.li, ← h.lo]; omega)] at hc
          have hk0 : k - os.length = 0 := by
            obtain ⟨h1, _⟩ := List.getElem?_eq_some_iff.1 hp
            simpa using h1
          have hk1 : k - ivs.length = 0 := by rw [h.li, ← h.lo]; exact hk0
          rw [hk0] at hp
          rw [hk1] at hc
          simp only [List.getElem?_cons_zero, Option.some.injEq] at hp hc
          subst hp; subst hc
          exact hiv
      exact hob.same h5.size (fun g hg => h5.block g (hob.lt g hg).2 (fun e => hne c hcm g hg e.symm))
  unfold Oper.wp execOp
  simp only [ho, resolve, invoke, builtin, Sem.run_bind, Sem.run_pure, Result.andThen_ok, List.map_toArray, List.map_cons, List.map_nil, hs, hx, hr]
  exact hK2 _ _ (hK v' w' hOb hap2 h4)
theorem run_build1 (o : OD) (A : Option Addr) (n c : Nat) (w : World) : (Instr.buildSlice 35 1 #[(0, vo o (.slice A n c))]).run Try.prog w = .ok (.slice (some ⟨w.heap.size, 0, none⟩) 1 1) (w.alloc (.cells (voC o (.slice A n c)).toArray 27)) := by
  unfold vo voC
  go_simp
theorem wpl_build1 {ops : Array Oper} {rest : List Oper} {op : Oper} {a : Act} {w : World} {Q : Exit → Act → World → Prop} {x : Operand} {q : OD} {A : Option Addr} {n c : Nat} (hgd : op.guard = none) (ho : op.op = .buildSlice 35 1 #[(0, x)])
    (hx : a.eval x = vo q (.slice A n c)) (hK : wpList Try.prog ops Q rest (a.put op.dst (.slice (some ⟨w.heap.size, 0, none⟩) 1 1)) (w.alloc (.cells (voC q (.slice A n c)).toArray 27))) : wpList Try.prog ops Q (op :: rest) a w :=
  wpList_plain hgd fun _ hK2 => by
    unfold Oper.wp execOp
    simp only [ho, List.map_toArray, List.map_cons, List.map_nil, hx, Sem.run_bind, run_build1 q A n c w, Result.andThen_ok, Sem.run_pure]
    exact hK2 _ _ hK
end Go.Proofs.Ytkgbkgonlopciaa

namespace Go.Proofs.Ytkgbkgonlopciaa
open Go.RowKit
set_option linter.unusedVariables false
set_option linter.unusedSimpArgs false
theorem voC_cells (o : OD) (A : Option Addr) (n c : Nat) : ∀ (u : Value), u ∈ voC o (.slice A n c) → u.oneCell' = true := fun u hu =>
  List.all_eq_true.1 (show (voC o (.slice A n c)).all (·.oneCell') = true by simp [voC, Value.oneCell']) u hu
theorem step_append_opts {ops : Array Oper} {o : Oper} {a : Act} {w : World} {K : Act → World → Prop} {Q : Exit → Act → World → Prop} {E : Prop} (hgd : o.guard = none) (s x : Operand)
    (ho : o.op = Op.call { callee := Callee.builtin Builtin.append, args := #[s, x], argTypes := #[35, 35] }) (B : Nat) (v : Value) (n : Nat) (os : List OD) (ivs : List Value) (hs : a.eval s = v) (h : ObO w B v n os ivs)
    (m : Nat) (qs : List OD) (jvs : List Value) (hq : qs.length = m) (hj : jvs.length = m) (b : Nat) (hx : a.eval x = .slice (some ⟨b, 0, none⟩) m m) (h2 : Bx w b (flatO qs jvs)) (h1 : ∀ (u : Value), u ∈ flatO qs jvs → u.oneCell' = true)
    (hiv : ∀ (k : Nat) (q : OD) (iv : Value), qs[k]? = some q → jvs[k]? = some iv → Obs w B 1 iv q.ids.length (q.ids.map vn)) (ha : Apt v (ivs ++ jvs)) (hn : n + m ≤ 1048576) (hB : B ≤ w.heap.size)
    (hK : ∀ (v' : Value) (w' : World), ObO w' B v' (n + m) (os ++ qs) (ivs ++ jvs) → Apt v' (ivs ++ jvs) → Below B w w' → w.grownBy w' v.ownBlock → (v'.ownBlock = v.ownBlock ∨ ∀ g, v'.ownBlock = some g → w.heap.size ≤ g) → K (a.put o.dst v') w') :
    if Region.wanted o (yielded ops a.tmps) = true then Oper.wp Try.prog o a w K Q else E := by
  have hwd : Region.wanted o (yielded ops a.tmps) = true := by simp [Region.wanted, hgd]
  rw [if_pos hwd]
  obtain ⟨i0, hi, hz0, hz1, hz2⟩ := info_parts opt_info
  have hnews : ∀ (j : Nat) (u : Value), (flatO qs jvs)[j]? = some u → w.cell? ((⟨b, 0, none⟩ : Addr).add j) = some u := fun j u hu => by
    have := h2.2 j u hu
    unfold Addr.add
    split <;> simp_all
  have hlen : (flatO qs jvs).length = m * 14 := by rw [flatO_len _ _ (hq.trans hj.symm), hq]
  obtain ⟨v', w', hr, h3, h4, h5⟩ := run_append_obs (P := Try.prog) w B 35 o.type 27 i0 _ 14 144 Try.underlying35 hi hz0 hz1 hz2 rfl (by decide) v n (flatO os ivs) h.row ⟨b, 0, none⟩ m m (flatO qs jvs) hlen hnews h1 (by unfold maxLen; omega) (by omega) hB
  have hown := append_own (P := Try.prog) w B 35 o.type 27 i0 _ 14 144 Try.underlying35 hi hz0 hz1 hz2 rfl (by decide) v n (flatO os ivs) h.row ⟨b, 0, none⟩ m m (flatO qs jvs) hlen hnews h1 (by unfold maxLen; omega) (by omega) hB hr
  have hlts : ∀ c ∈ ivs ++ jvs, ∀ g, c.ownBlock = some g → g < w.heap.size := fun c hc g hg => by
    rcases List.mem_append.1 hc with hc | hc
    · exact h.lts c hc g hg
    · obtain ⟨k, hk, rfl⟩ := List.getElem_of_mem hc
      have hk2 : k < qs.length := by omega
      exact ((hiv k _ _ (List.getElem?_eq_getElem hk2) (List.getElem?_eq_getElem hk)).lt g hg).2
  have hap2 : Apt v' (ivs ++ jvs) := by
    rcases hown with e | e
    · exact ha.own e
    · exact ha.fresh e hlts
  have hOb : ObO w' B v' (n + m) (os ++ qs) (ivs ++ jvs) := by
    refine ⟨by simp [h.lo, hq], by simp [h.li, hj], ?_, fun k p c hp hc => ?_⟩
    · rw [flatO_append _ _ _ _ (h.lo.trans h.li.symm)]
      exact h3
    · have hcm : c ∈ ivs ++ jvs := List.mem_of_getElem? hc
      have hob : Obs w B 1 c p.ids.length (p.ids.map vn) := by
        by_cases hk : k < os.length
        · rw [List.getElem?_append_left hk] at hp
          rw [List.getElem?_append_left (by rw [h.li, ← h.lo]; exact hk)] at hc
          exact h.ids k p c hp hc
        · rw [List.getElem?_append_right (by omega)] at hp
          rw [List.getElem?_append_right (by rw [h.li, ← h.lo]; omega), h.li, ← h.lo] at hc
          exact hiv _ p c hp hc
      exact hob.same h5.size (fun g hg => h5.block g (hob.lt g hg).2 (fun e => (List.pairwise_cons.1 ha).1 c hcm g e.symm hg))
  unfold Oper.wp execOp
  simp only [ho, resolve, invoke, builtin, Sem.run_bind, Sem.run_pure, Result.andThen_ok, List.map_toArray, List.map_cons, List.map_nil, hs, hx, hr]
  exact hK v' w' hOb hap2 h4 h5 hown
theorem step_build1 {ops : Array Oper} {op : Oper} {a : Act} {w : World} {K : Act → World → Prop} {Q : Exit → Act → World → Prop} {E : Prop} {x : Operand} {q : OD} {A : Option Addr} {n c : Nat} (hgd : op.guard = none) (ho : op.op = .buildSlice 35 1 #[(0, x)])
    (hx : a.eval x = vo q (.slice A n c)) (hK : K (a.put op.dst (.slice (some ⟨w.heap.size, 0, none⟩) 1 1)) (w.alloc (.cells (voC q (.slice A n c)).toArray 27))) :
    if Region.wanted op (yielded ops a.tmps) = true then Oper.wp Try.prog op a w K Q else E := by
  have hwd : Region.wanted op (yielded ops a.tmps) = true := by simp [Region.wanted, hgd]
  rw [if_pos hwd]
  unfold Oper.wp execOp
  simp only [ho, List.map_toArray, List.map_cons, List.map_nil, hx, Sem.run_bind, run_build1 q A n c w, Result.andThen_ok, Sem.run_pure]
  exact hK
/-- the cells of three options -/
def three (q1 q2 q3 : OD) (v1 v2 v3 : Value) : List Value := voC q1 v1 ++ (voC q2 v2 ++ voC q3 v3)
theorem flatO_three (q1 q2 q3 : OD) (v1 v2 v3 : Value) : flatO [q1, q2, q3] [v1, v2, v3] = three q1 q2 q3 v1 v2 v3 := by
  show voC q1 v1 ++ (voC q2 v2 ++ (voC q3 v3 ++ [])) = _
  rw [List.append_nil]
  rfl
theorem run_build3 (q1 q2 q3 : OD) (A1 A2 A3 : Option Addr) (n1 n2 n3 c1 c2 c3 : Nat) (w : World) : (Instr.buildSlice 35 3 #[(0, vo q1 (.slice A1 n1 c1)), (1, vo q2 (.slice A2 n2 c2)), (2, vo q3 (.slice A3 n3 c3))]).run Try.prog w
    = .ok (.slice (some ⟨w.heap.size, 0, none⟩) 3 3) (w.alloc (.cells (three q1 q2 q3 (.slice A1 n1 c1) (.slice A2 n2 c2) (.slice A3 n3 c3)).toArray 27)) := by
  unfold vo three voC
  go_simp
theorem step_build3 {ops : Array Oper} {op : Oper} {a : Act} {w : World} {K : Act → World → Prop} {Q : Exit → Act → World → Prop} {E : Prop} {x1 x2 x3 : Operand} {q1 q2 q3 : OD} {A1 A2 A3 : Option Addr} {n1 n2 n3 c1 c2 c3 : Nat} (hgd : op.guard = none) (ho : op.op = .buildSlice 35 3 #[(0, x1), (1, x2), (2, x3)])
    (hx1 : a.eval x1 = vo q1 (.slice A1 n1 c1)) (hx2 : a.eval x2 = vo q2 (.slice A2 n2 c2)) (hx3 : a.eval x3 = vo q3 (.slice A3 n3 c3))
    (hK : K (a.put op.dst (.slice (some ⟨w.heap.size, 0, none⟩) 3 3)) (w.alloc (.cells (three q1 q2 q3 (.slice A1 n1 c1) (.slice A2 n2 c2) (.slice A3 n3 c3)).toArray 27))) :
    if Region.wanted op (yielded ops a.tmps) = true then Oper.wp Try.prog op a w K Q else E := by
  have hwd : Region.wanted op (yielded ops a.tmps) = true := by simp [Region.wanted, hgd]
  rw [if_pos hwd]
  unfold Oper.wp execOp
  simp only [ho, List.map_toArray, List.map_cons, List.map_nil, hx1, hx2, hx3, Sem.run_bind, run_build3, Result.andThen_ok, Sem.run_pure]
  exact hK
end Go.Proofs.Ytkgbkgonlopciaa
