/- The walks of the laws' helpers: rows of options copied, compared; segments copied, compared. -/
import Derived.Test.YtkgbkgonlopciaaM7
import Derived.Test.YtkgbkgonlopciaaA15
import Derived.Deep.Cut
import Derived.Deep.RegionHeld
namespace Go.Proofs.Ytkgbkgonlopciaa
open Go.RowKit
set_option linter.unusedVariables false
set_option linter.unusedSimpArgs false
/-- a row of cells laid over others -/
def ovL : List Value → Nat → List Value → List Value
  | cs, _, [] => cs
  | cs, o, v :: vs => ovL (cs.set o v) (o + 1) vs
theorem ovL_over : ∀ (vs p q r : List Value), vs.length = q.length → ovL (p ++ (q ++ r)) p.length vs = p ++ (vs ++ r)
  | [], p, q, r, h => by
    obtain rfl : q = [] := List.eq_nil_of_length_eq_zero h.symm
    rfl
  | v :: vs, p, [], r, h => by cases h
  | v :: vs, p, x :: q, r, h => by
    unfold ovL
    rw [List.set_append_right _ _ (Nat.le_refl _), Nat.sub_self, List.cons_append, List.set_cons_zero]
    have := ovL_over vs (p ++ [v]) q r (by simpa using h)
    simp only [List.append_assoc, List.singleton_append, List.length_append, List.length_cons, List.length_nil, Nat.zero_add] at this
    exact this
theorem Obs.ovL {B size n g cap : Nat} : ∀ (vs : List Value) (o : Nat) (w : World) (xs : List Value), Obs w B size (.slice (some ⟨g, 0, none⟩) n cap) n xs → o + vs.length ≤ n * size →
    Obs (w.setCells g o vs) B size (.slice (some ⟨g, 0, none⟩) n cap) n (ovL xs o vs)
  | [], o, w, xs, h, _ => h
  | v :: vs, o, w, xs, h, hl => Obs.ovL vs (o + 1) (w.setCell ⟨g, o, none⟩ v) (xs.set o v) (h.set_ o (by simp at hl; omega) v) (by simp at hl; omega)
theorem Obs.there_ {w : World} {B size n g cap : Nat} {xs : List Value} (h : Obs w B size (.slice (some ⟨g, 0, none⟩) n cap) n xs) {o m : Nat} (ho : o + m ≤ n * size) : w.there g o m := fun j hj => by
  obtain ⟨u, hu⟩ : ∃ u, xs[o + j]? = some u := ⟨_, List.getElem?_eq_getElem (by rw [h.1]; omega)⟩
  obtain ⟨h1, h2⟩ := h.cellAt hu
  rw [h1]
  exact ⟨rfl, h2⟩
/-- the blocks are apart -/
def Apt (v : Value) (ivs : List Value) : Prop := (v :: ivs).Pairwise fun a b => ∀ g, a.ownBlock = some g → b.ownBlock ≠ some g
theorem Apt.snoc {v iv : Value} {ivs : List Value} {m : Nat} (h : Apt v ivs) (hb : ∀ a, a ∈ v :: ivs → ∀ g, a.ownBlock = some g → g < m) (hn : ∀ g, iv.ownBlock = some g → m ≤ g) : Apt v (ivs ++ [iv]) := by
  unfold Apt
  rw [← List.cons_append, List.pairwise_append]
  refine ⟨h, List.pairwise_singleton _ _, fun a ha b hb' g hg e => ?_⟩
  obtain rfl := List.mem_singleton.1 hb'
  have := hb a ha g hg
  have := hn g e
  omega
/-- empty options -/
def zO (n : Nat) : List Value := flatO (List.replicate n (OD.new 0 [])) (List.replicate n (.slice none 0 0))
theorem zO_len (n : Nat) : (zO n).length = n * 14 := by unfold zO; rw [flatO_len _ _ (by simp)]; simp
theorem zO_succ (n : Nat) : zO (n + 1) = voC (OD.new 0 []) (.slice none 0 0) ++ zO n := by unfold zO; rw [List.replicate_succ, List.replicate_succ]; rfl
theorem made14 (n : Nat) : (madeCells (vo (OD.new 0 []) (.slice none 0 0)).cells (n * 14)).toList = zO n := by
  unfold madeCells
  apply List.ext_getElem?
  intro i
  by_cases hi : i < n * 14
  · have hk : i / 14 < n := by omega
    have e1 : (List.replicate n (OD.new 0 []))[i / 14]? = some (OD.new 0 []) := by simp [hk]
    have e2 : (List.replicate n (Value.slice none 0 0))[i / 14]? = some (.slice none 0 0) := by simp [hk]
    have e3 := flatO_get _ _ _ _ _ e1 e2 (i % 14) (Nat.mod_lt _ (by omega))
    rw [show i / 14 * 14 + i % 14 = i by omega] at e3
    unfold zO
    rw [e3]
    rw [vo_voC]
    simp only [Array.toList_map, Array.toList_range, List.getElem?_map, List.getElem?_range hi, Option.map_some]
    rw [show (Value.agg (voC (OD.new 0 []) (.slice none 0 0)).toArray).cells = (voC (OD.new 0 []) (.slice none 0 0)).toArray from rfl]
    have h14 : (voC (OD.new 0 []) (.slice none 0 0)).toArray.size = 14 := rfl
    rw [h14]
    have hm : i % 14 < (voC (OD.new 0 []) (.slice none 0 0)).length := by rw [voC_len]; exact Nat.mod_lt _ (by omega)
    rw [getElem!_pos _ _ (by rw [h14]; exact Nat.mod_lt _ (by omega)), List.getElem?_eq_getElem hm]
    rfl
  · rw [List.getElem?_eq_none (by simp; omega), List.getElem?_eq_none (by rw [zO_len]; omega)]
theorem flatO_step {os : List OD} {ivs : List Value} {j n : Nat} {o : OD} {iv : Value} (hl : ivs.length = j) (hos : os.length = n) (hj : os[j]? = some o) :
    ovL (flatO (os.take j) ivs ++ zO (n - j)) (j * 14) (voC o iv) = flatO (os.take (j + 1)) (ivs ++ [iv]) ++ zO (n - (j + 1)) := by
  obtain ⟨hlt, rfl⟩ := List.getElem?_eq_some_iff.1 hj
  have e0 : (os.take j).length = ivs.length := by rw [List.length_take]; omega
  have e1 : (flatO (os.take j) ivs).length = j * 14 := by rw [flatO_len _ _ e0, e0, hl]
  rw [show n - j = (n - (j + 1)) + 1 by omega, zO_succ, ← e1, ovL_over _ _ _ _ (by rw [voC_len, voC_len]), List.take_succ_eq_append_getElem hlt, flatO_append _ _ _ _ e0, flatO_one, List.append_assoc]
theorem wpl_store_optA {ops : Array Oper} {rest : List Oper} {op : Oper} {a : Act} {w : World} {Q : Exit → Act → World → Prop} {x y : Operand} {o : OD} {A : Option Addr} {n c b p : Nat} (hgd : op.guard = none) (ho : op.op = .store 27 x y)
    (hx : a.eval x = .pointer (some ⟨b, p, none⟩)) (hy : a.eval y = vo o (.slice A n c)) (hb : w.there b p 14) (hK : wpList Try.prog ops Q rest (a.put op.dst undef) (w.setCells b p (voC o (.slice A n c)))) :
    wpList Try.prog ops Q (op :: rest) a w :=
  wpList_store_mid hgd 27 x y ho b p (voC o (.slice A n c)).toArray hx hy hb (by kernel_rfl) (voC_one o A n c) hK
theorem opt_info : (Try.prog.info? 27).map (fun i => (i.zero, i.size, i.bytes)) = some (some (vo (OD.new 0 []) (.slice none 0 0)), 14, 144) := by kernel_rfl
/-- the call hands back the options in memory of its own, their blocks apart -/
def GivesOs (os : List OD) (w : World) (e : Ending) (w' : World) : Prop := ∃ v ivs, e = .returned v ∧ ObO w' w.heap.size v os.length os ivs ∧ Apt v ivs ∧ Below w.heap.size w w'
set_option maxRecDepth 100000 in
set_option maxHeartbeats 1600000 in
theorem toOptS_l (v : Value) (n : Nat) (os : List OD) (ivs : List Value) (w : World) (hv : RdO w v n os ivs) (hn : n ≤ 1048576) (hni : ∀ o ∈ os, o.ids.length ≤ 4294967296) :
    Calls Try.prog 57 #[v] w (GivesOs os w) := by
  obtain ⟨i0, hi, hz0, hz1, hz2⟩ := info_parts opt_info
  have hm : n ≤ maxLen := by unfold maxLen; omega
  have hmk := make_eq (P := Try.prog) 35 27 i0 _ Try.underlying35 hi hz0 n (by rw [hz2]; omega) hm
  rw [hz1] at hmk
  have own0 : Obs (w.alloc (.cells (madeCells (vo (OD.new 0 []) (.slice none 0 0)).cells (n * 14)) 27)) w.heap.size 14 (.slice (some ⟨w.heap.size, 0, none⟩) n n) n (zO n) := by
    rw [← made14]
    exact Obs.of_own (World.ownsRow_lit (base := w.heap.size) (e := 27) (size := 14) w _ n (Nat.le_refl _) hm (by rw [← Array.length_toList, made14, zO_len]))
  have HO := Lib.hid own0
  obtain ⟨C, hC⟩ : ∃ C, C = madeCells (vo (OD.new 0 []) (.slice none 0 0)).cells (n * 14) := ⟨_, rfl⟩
  rw [← hC] at hmk HO
  clear own0 hC
  have HN := Lib.hid ((Below.refl w.heap.size w).alloc (Nat.le_refl _) (.cells C 27))
  have HL := Lib.hid hv.lo
  obtain ⟨A0, c0, e0, hm'⟩ := hv.shape
  have H := Lib.hid hv
  have HNI := Lib.hid hni
  clear hv hni hm'
  subst e0
  obtain ⟨g, hg⟩ : ∃ g, g = w.heap.size := ⟨_, rfl⟩
  rw [← hg] at HO
  have HG := Lib.hid hg
  go_enter Try.func57, Try.ntmps57
  go_wp2
  rw [← hg]
  clear hg hmk
  go_loopw [4] (fun i wr => ∃ (j : Nat) (js : List Value), j ≤ n ∧ i = .int .i64 (j : Int) ∧ Hid (js.length = j) ∧ Hid (Obs wr g 14 (.slice (some ⟨g, 0, none⟩) n n) n (flatO (os.take j) js ++ zO (n - j))) ∧ Hid (∀ (k : Nat) (o : OD) (iv : Value), os[k]? = some o → js[k]? = some iv → Obs wr (g + 1) 1 iv o.ids.length (o.ids.map vn)) ∧ Hid (Apt (.slice (some ⟨g, 0, none⟩) n n) js) ∧ Hid (Below w.heap.size w wr)) (fun i _ => n - (intOf i).toNat)
  case atStart => exact ⟨0, [], Nat.zero_le _, rfl, Lib.hid rfl, Lib.hid (by simpa [flatO] using HO.out), Lib.hid (fun k o iv _ h => by cases h), Lib.hid (List.pairwise_singleton _ _), HN⟩
  case round =>
    clear HO HN
    obtain ⟨j, js, hj, rfl, HJ, HO, HI, HA, HN⟩ := hrel
    by_cases hlt : j < n
    · obtain ⟨b1, o1, c1, e0⟩ := H.out.full (by omega)
      simp only [Value.slice.injEq] at e0
      obtain ⟨rfl, _, rfl⟩ := e0
      obtain ⟨o, iv, ho, hiv, hB, hR⟩ := (H.out.below HN.out).at_ hlt
      have XB := Lib.hid hB
      have XR := Lib.hid hR
      have XO := Lib.hid ho
      have XN := Lib.hid (HNI.out o (od_in ho))
      obtain ⟨A1, cp1, rfl⟩ := RdO.shape1 hR
      clear hB hR ho hiv
      go_wp2_with (refine wpl_optLA rfl (by rfl) (by rfl) XB.out ?_)
      refine (toOpt_l o _ _ wr XR.out XN.out).mono ?_
      rintro e w2 ⟨iv2, rfl, ho2, hb2⟩
      obtain ⟨A2, cp2, rfl⟩ := ho2.shape
      have HO2 := Lib.hid (HO.out.below hb2)
      have HN2 := Lib.hid (HN.out.trans (hb2.mono HN.out.size))
      have hgl : g < wr.heap.size := (HO.out.lt g rfl).2
      have HI2 : Hid (∀ (k : Nat) (q : OD) (iv : Value), os[k]? = some q → (js ++ [.slice A2 o.ids.length cp2])[k]? = some iv → Obs w2 (g + 1) 1 iv q.ids.length (q.ids.map vn)) := Lib.hid (by
        intro k q iv hq hk
        by_cases hkj : k < js.length
        · rw [List.getElem?_append_left hkj] at hk
          exact (HI.out k q iv hq hk).below hb2
        · rw [List.getElem?_append_right (by omega)] at hk
          have hk0 : k - js.length = 0 := by
            obtain ⟨h1, _⟩ := List.getElem?_eq_some_iff.1 hk
            simpa using h1
          rw [hk0] at hk
          simp only [List.getElem?_cons_zero, Option.some.injEq] at hk
          subst hk
          have hkj' : k = j := by have := HJ.out; omega
          subst hkj'
          have := XO.out
          rw [hq] at this
          simp only [Option.some.injEq] at this
          subst this
          exact ho2.mono (by omega))
      have HA2 : Hid (Apt (.slice (some ⟨g, 0, none⟩) n n) (js ++ [.slice A2 o.ids.length cp2])) := Lib.hid (HA.out.snoc (m := wr.heap.size) (fun a ha g' hg' => by
        rcases List.mem_cons.1 ha with rfl | ha
        · exact (HO.out.lt g' hg').2
        · obtain ⟨k, hk, rfl⟩ := List.getElem_of_mem ha
          have hk2 : k < os.length := by have := HJ.out; have := HL.out; omega
          exact ((HI.out k _ _ (List.getElem?_eq_getElem hk2) (List.getElem?_eq_getElem hk)).lt g' hg').2) (fun g' hg' => (ho2.lt g' hg').1))
      have HT2 : Hid (w2.there g (j * 14) 14) := Lib.hid (HO2.out.there_ (by omega))
      clear hb2 ho2 HI HA HN HO hgl
      go_upto_region 4 with ((refine wpl_store_optA rfl (by rfl) (by rfl) (by rfl) HT2.out ?_))
      obtain ⟨w3, hw3⟩ : ∃ w3, w3 = w2.setCells g (j * 14) (voC o (.slice A2 o.ids.length cp2)) := ⟨_, rfl⟩
      rw [← hw3]
      have HO3 : Hid (Obs w3 g 14 (.slice (some ⟨g, 0, none⟩) n n) n (flatO (os.take (j + 1)) (js ++ [.slice A2 o.ids.length cp2]) ++ zO (n - (j + 1)))) := Lib.hid (by
        have h1 := Obs.ovL (voC o (.slice A2 o.ids.length cp2)) (j * 14) w2 _ HO2.out (by rw [voC_len]; omega)
        rw [flatO_step HJ.out HL.out XO.out, ← hw3] at h1
        exact h1)
      have HI3 : Hid (∀ (k : Nat) (q : OD) (iv : Value), os[k]? = some q → (js ++ [.slice A2 o.ids.length cp2])[k]? = some iv → Obs w3 (g + 1) 1 iv q.ids.length (q.ids.map vn)) := Lib.hid (fun k q iv hq hk => by
        rw [hw3]; exact (HI2.out k q iv hq hk).farS (by omega) _ _)
      have HN3 : Hid (Below w.heap.size w w3) := Lib.hid (by rw [hw3]; exact Below.setCells' HN2.out (by have := HG.out; omega) _ _)
      clear hw3 HO2 HI2 HN2 HT2
      go_wp2
      go_roundw
      case rel => exact ⟨j + 1, _, by omega, by go_num, Lib.hid (by rw [List.length_append, HJ.out]; rfl), HO3, HI3, HA2, HN3⟩
      case measure => (simp [intOf]; try omega)
    · obtain rfl : j = n := by omega
      have H2 : Hid (GivesOs os w (.returned (.slice (some ⟨g, 0, none⟩) j j)) wr) := Lib.hid ⟨_, js, rfl, by
        rw [HL.out]
        refine ⟨HL.out, HJ.out, ?_, fun k o iv h1 h2 => (HI.out k o iv h1 h2).mono (by have := HG.out; omega)⟩
        have h2 := HO.out
        rw [Nat.sub_self, List.take_of_length_le (by have := HL.out; omega), show zO 0 = [] from rfl, List.append_nil, HG.out] at h2
        rw [HG.out]
        exact h2, HA.out, HN.out⟩
      go_wp2
      go_ret
      exact H2.out
/-- the call hands back the segment, its options in memory of their own -/
def GivesX (x : SD) (w : World) (e : Ending) (w' : World) : Prop := ∃ v ivs, e = .returned (vx x v) ∧ ObO w' w.heap.size v x.ops.length x.ops ivs ∧ Apt v ivs ∧ Below w.heap.size w w'
set_option maxRecDepth 100000 in
set_option maxHeartbeats 1600000 in
theorem toSeg_l (x : SD) (v : Value) (n : Nat) (ivs : List Value) (w : World) (hv : RdO w v n x.ops ivs) (hn : n ≤ 1048576) (hni : ∀ o ∈ x.ops, o.ids.length ≤ 4294967296) :
    Calls Try.prog 23 #[vx x v] w (GivesX x w) := by
  obtain ⟨fr, tt, po, pe, sq, ak, fg, os, da⟩ := x
  unfold vx
  dsimp only at *
  have HV := Lib.hid hv
  have HI := Lib.hid hni
  clear hv hni
  go_enter Try.func23, Try.ntmps23
  have hB := Lib.hid ((((Below.refl w.heap.size w).alloc (Nat.le_refl _) (.cells #[.int .i64 fr, .int .i64 tt, .int .i64 po, .int .i64 pe, .int .i64 sq, .int .i64 ak, .int .i64 fg, v, .string da] 32)).alloc (by simp)
    (.cells #[.int .i64 0, .int .i64 0, .int .i64 0, .int .i64 0, .int .i64 0, .int .i64 0, .int .i64 0, .slice none 0 0, .string ⟨#[]⟩] 37)).alloc (by simp; omega)
    (.cells #[.int .i64 fr, .int .i64 tt, .int .i64 po, .int .i64 pe, .int .i64 sq, .int .i64 ak, .int .i64 fg, .slice none 0 0, .string ⟨#[]⟩] 37))
  go_wp2_with fail
  refine (toOptS_l v n os ivs _ (HV.out.below hB.out) hn HI.out).mono ?_
  rintro e w1 ⟨v2, js, rfl, ho, ha, hb⟩
  have HO := Lib.hid ho
  have HA := Lib.hid ha
  have HB := Lib.hid hb
  obtain ⟨hc, hf⟩ := Below.bcell hb
  obtain ⟨A, ca, rfl, _⟩ := ho.rd.shape
  clear ho ha hb
  go_wp2
  simp only [bodyPost, results, Try.results23]
  go_simp
  refine ⟨.slice A os.length ca, js, rfl, ?_, HA.out, ?_⟩
  · have h0 := HO.out
    simp only [World.size_alloc] at h0
    refine ObO.mono (B := w.heap.size + 1 + 1 + 1) ?_ (by omega)
    repeat refine ObO.far ?_ (by dsimp only; omega) _
    exact h0
  · repeat refine Below.setCell ?_ (by dsimp only; omega) _
    exact hB.out.trans (HB.out.mono (by simp; omega))
set_option maxRecDepth 100000 in
set_option maxHeartbeats 1600000 in
theorem eqOptS_l (u v : Value) (n : Nat) (os : List OD) (ivs jvs : List Value) (w : World) (hu : RdO w u n os ivs) (hv : RdO w v n os jvs) :
    Calls Try.prog 58 #[u, v] w fun e w' => e = .returned (.bool true) ∧ Below w.heap.size w w' := by
  obtain ⟨A0, c0, e0, hm⟩ := hu.shape
  obtain ⟨A1, c1, e1, _⟩ := hv.shape
  unfold maxLen at hm
  have HU := Lib.hid hu
  have HV := Lib.hid hv
  clear hu hv
  subst e0
  subst e1
  go_enter Try.func58, Try.ntmps58
  go_wp2
  go_loopw [5] (fun i wr => ∃ k : Nat, k ≤ n ∧ i = .int .i64 (k : Int) ∧ Hid (Below w.heap.size w wr)) (fun i _ => n - (intOf i).toNat)
  case atStart => exact ⟨0, Nat.zero_le _, rfl, Lib.hid (Below.refl _ _)⟩
  case round =>
    obtain ⟨k, hk, rfl, HN⟩ := hrel
    by_cases hlt : k < n
    · obtain ⟨b1, o1, c1, e0⟩ := HU.out.full (by omega)
      obtain ⟨b2, o2, c2, e1⟩ := HV.out.full (by omega)
      simp only [Value.slice.injEq] at e0 e1
      obtain ⟨rfl, _, rfl⟩ := e0
      obtain ⟨rfl, _, rfl⟩ := e1
      obtain ⟨o, iv, ho, hiv, hB, hR⟩ := (HU.out.below HN.out).at_ hlt
      obtain ⟨o', jv, ho', hjv, hB', hR'⟩ := (HV.out.below HN.out).at_ hlt
      rw [ho] at ho'
      obtain rfl := Option.some.inj ho'
      have XB := Lib.hid hB
      have XR := Lib.hid hR
      have YB := Lib.hid hB'
      have YR := Lib.hid hR'
      clear hB hR hB' hR' ho ho' hiv hjv
      go_wp2_with fail
      refine wp_region_held_drew (S := fun w' => Bo w' b1 (o1 + k * 14) (voC o iv) ∧ Bo w' b2 (o2 + k * 14) (voC o jv) ∧ Below wr.heap.size wr w') (by kernel_rfl) ⟨XB.out.drew, YB.out.drew, (Below.refl _ wr).drew⟩ (fun hHeld => ?_)
      refine wpAnyH_take (i := 0) (v := ?_) rfl (by kernel_rfl) (by kernel_rfl) (by kernel_rfl) (fun _ _ _ h => h) (Or.inl ⟨by rfl, ?_⟩) (by assumption) ?_
      rotate_left
      · (intro w hSw; (try dsimp only at hSw); go_simp; try (with_reducible rfl))
      try simp only [Act.put, List.setIfInBounds_toArray, List.set_cons_zero, List.set_cons_succ]
      refine wpAnyH_take (i := 1) (v := ?_) rfl (by kernel_rfl) (by kernel_rfl) (by kernel_rfl) (fun _ _ _ h => h) (Or.inl ⟨by rfl, ?_⟩) (by assumption) ?_
      rotate_left
      · (intro w hSw; (try dsimp only at hSw); go_simp; try (with_reducible rfl))
      try simp only [Act.put, List.setIfInBounds_toArray, List.set_cons_zero, List.set_cons_succ]
      refine wpAnyH_take (i := 2) (v := ?_) rfl (by kernel_rfl) (by kernel_rfl) (by kernel_rfl) (fun _ _ _ h => h) (Or.inl ⟨by rfl, ?_⟩) (by assumption) ?_
      rotate_left
      · (intro w hSw; (try dsimp only at hSw); go_simp; try (with_reducible rfl))
      try simp only [Act.put, List.setIfInBounds_toArray, List.set_cons_zero, List.set_cons_succ]
      refine wpAnyH_take (i := 3) (oi := ⟨some 20, _, _, _, _, _⟩) rfl (by kernel_rfl) (by kernel_rfl) (by kernel_rfl) (fun _ _ _ h => h) (yields_optA (by kernel_rfl) rfl (by rfl) (fun w h => h.1)) (by assumption) ?_
      try simp only [Act.put, List.setIfInBounds_toArray, List.set_cons_zero, List.set_cons_succ]
      refine wpAnyH_take (i := 4) (v := ?_) rfl (by kernel_rfl) (by kernel_rfl) (by kernel_rfl) (fun _ _ _ h => h) (Or.inl ⟨by rfl, ?_⟩) (by assumption) ?_
      rotate_left
      · (intro w hSw; (try dsimp only at hSw); go_simp; try (with_reducible rfl))
      try simp only [Act.put, List.setIfInBounds_toArray, List.set_cons_zero, List.set_cons_succ]
      refine wpAnyH_take (i := 5) (v := ?_) rfl (by kernel_rfl) (by kernel_rfl) (by kernel_rfl) (fun _ _ _ h => h) (Or.inl ⟨by rfl, ?_⟩) (by assumption) ?_
      rotate_left
      · (intro w hSw; (try dsimp only at hSw); go_simp; try (with_reducible rfl))
      try simp only [Act.put, List.setIfInBounds_toArray, List.set_cons_zero, List.set_cons_succ]
      refine wpAnyH_take (i := 6) (v := ?_) rfl (by kernel_rfl) (by kernel_rfl) (by kernel_rfl) (fun _ _ _ h => h) (Or.inl ⟨by rfl, ?_⟩) (by assumption) ?_
      rotate_left
      · (intro w hSw; (try dsimp only at hSw); go_simp; try (with_reducible rfl))
      try simp only [Act.put, List.setIfInBounds_toArray, List.set_cons_zero, List.set_cons_succ]
      refine wpAnyH_take (i := 7) (oi := ⟨some 24, _, _, _, _, _⟩) rfl (by kernel_rfl) (by kernel_rfl) (by kernel_rfl) (fun _ _ _ h => h) (yields_optA (by kernel_rfl) rfl (by rfl) (fun w h => h.2.1)) (by assumption) ?_
      try simp only [Act.put, List.setIfInBounds_toArray, List.set_cons_zero, List.set_cons_succ]
      refine wpAnyH_ready (rs := [8]) (by kernel_rfl) (by simp) ?_
      refine AllReadyH.cons (o := ⟨some 25, _, _, _, _, _⟩) rfl (fun K hK => ?_) AllReadyH.nil
      go_simp
      (go_at_call 20; refine (eqOpt_l o _ _ _ _ (XR.out.below (Below.refl _ wr).drew) (YR.out.below (Below.refl _ wr).drew)).mono ?_; rintro e w2 ⟨rfl, hb2⟩)
      try go_wp2_with fail
      refine hK.out _ _ ?_ (fun hHeld => ?_)
      · exact ⟨XB.out.drew.below hb2, YB.out.drew.below hb2, (Below.refl _ wr).drew.trans hb2⟩
      clear hK K
      try simp only [Act.put, List.setIfInBounds_toArray, List.set_cons_zero, List.set_cons_succ]
      have HN2 := Lib.hid (HN.out.trans (((Below.refl _ wr).drew.trans hb2).mono HN.out.size))
      clear hb2
      refine wpAnyH_take (i := 9) (v := ?_) rfl (by kernel_rfl) (by kernel_rfl) (by kernel_rfl) (fun _ _ _ h => h) (Or.inl ⟨by rfl, ?_⟩) (by assumption) ?_
      rotate_left
      · (intro w hSw; (try dsimp only at hSw); go_simp; try (with_reducible rfl))
      try simp only [Act.put, List.setIfInBounds_toArray, List.set_cons_zero, List.set_cons_succ]
      refine wpAnyH_done (by kernel_rfl) ?_ _
      repeat clear hHeld
      go_wp2
      go_roundw
      case rel => exact ⟨k + 1, by omega, by go_num, HN2⟩
      case measure => simp [intOf]; omega
    · obtain rfl : k = n := by omega
      go_wp2
      go_ret
      exact ⟨rfl, HN.out⟩
set_option maxRecDepth 100000 in
set_option maxHeartbeats 1600000 in
theorem eqSeg_l (x : SD) (u v : Value) (n : Nat) (ivs jvs : List Value) (w : World) (hu : RdO w u n x.ops ivs) (hv : RdO w v n x.ops jvs) :
    Calls Try.prog 25 #[vx x u, vx x v] w fun e w' => e = .returned (.bool true) ∧ Below w.heap.size w w' := by
  obtain ⟨fr, tt, po, pe, sq, ak, fg, os, da⟩ := x
  unfold vx
  dsimp only at *
  have HU := Lib.hid hu
  have HV := Lib.hid hv
  clear hu hv
  have hB := Lib.hid (((Below.refl w.heap.size w).alloc (Nat.le_refl _) (.cells #[.int .i64 fr, .int .i64 tt, .int .i64 po, .int .i64 pe, .int .i64 sq, .int .i64 ak, .int .i64 fg, u, .string da] 37)).alloc (by simp)
    (.cells #[.int .i64 fr, .int .i64 tt, .int .i64 po, .int .i64 pe, .int .i64 sq, .int .i64 ak, .int .i64 fg, v, .string da] 37))
  go_enter Try.func25, Try.ntmps25
  go_wp2_with fail
  refine (eqOptS_l u v n os ivs jvs _ (HU.out.below hB.out) (HV.out.below hB.out)).mono ?_
  rintro e w1 ⟨rfl, hb⟩
  have HB := Lib.hid hb
  obtain ⟨hc, hf⟩ := Below.bcell hb
  clear hb
  go_wp2
  go_ret
  exact ⟨rfl, hB.out.trans (HB.out.mono (by simp; omega))⟩
end Go.Proofs.Ytkgbkgonlopciaa
