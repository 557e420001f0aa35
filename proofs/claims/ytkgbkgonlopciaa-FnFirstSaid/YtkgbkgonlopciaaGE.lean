/- The walk of the law of the first option of a kind. The rows of the laws: each law returns true for every input, and each argument reads as before. -/
import Derived.Test.YtkgbkgonlopciaaGC
import Derived.Test.YtkgbkgonlopciaaK12
import Derived.Test.YtkgbkgonlopciaaA31
import Derived.Test.YtkgbkgonlopciaaA34
import Derived.Test.YtkgbkgonlopciaaM2
import Derived.Deep.Cut
import Derived.Deep.RegionHeld
import Derived.Test.YtkgbkgonlopciaaRows
import Derived.Test.YtkgbkgonlopciaaF
import Derived.Test.YtkgbkgonlopciaaF2
namespace Go.Proofs.Ytkgbkgonlopciaa
open Go.RowKit
set_option linter.unusedVariables false
set_option linter.unusedSimpArgs false
theorem flatO_cells : ∀ (os : List OD) (ivs : List Value), (∀ (k : Nat) (o : OD) (iv : Value), os[k]? = some o → ivs[k]? = some iv → ∃ A n c, iv = .slice A n c) → ∀ (u : Value), u ∈ flatO os ivs → u.oneCell' = true
  | [], _, _, u, hu => by cases hu
  | _ :: _, [], _, u, hu => by cases hu
  | o :: os, iv :: ivs, h, u, hu => by
    rcases List.mem_append.1 (show u ∈ voC o iv ++ flatO os ivs from hu) with hu | hu
    · obtain ⟨A, n, c, rfl⟩ := h 0 o iv rfl rfl
      exact voC_cells _ _ _ _ u hu
    · exact flatO_cells os ivs (fun k o iv ho hi => h (k + 1) o iv ho hi) u hu
theorem Bx.belowB {w w' : World} {b B : Nat} {cs : List Value} (h : Bx w b cs) (hb : Below B w w') (hlt : b < B) : Bx w' b cs :=
  ⟨Nat.lt_of_lt_of_le h.1 hb.size, fun j v hj => (hb.cell (p := ⟨b, j, none⟩) hlt).trans (h.2 j v hj)⟩
theorem obs_lit14 (w : World) (e : TypeId) (cs : Array Value) (B : Nat) (hB : B ≤ w.heap.size) (hn : cs.toList.length = 14) : Obs (w.alloc (.cells cs e)) B 14 (.slice (some ⟨w.heap.size, 0, none⟩) 1 1) 1 cs.toList :=
  Obs.of_own (World.ownsRow_lit (base := B) (e := e) (size := 14) w cs 1 hB (by unfold maxLen; omega) (by rw [← Array.length_toList, hn]))
def failO : OD := { OD.new 9 [] with se := 5 }
theorem firstO_fail (os : List OD) : firstO (failO :: os) 9 = some failO := by
  unfold firstO
  rw [List.find?_cons_of_pos (by rfl)]
theorem firstO_kind {os : List OD} {k : Int} {o : OD} (h : firstO os k = some o) : o.k = k := by
  have := List.find?_some h
  simpa using this
set_option maxRecDepth 100000 in
set_option maxHeartbeats 6400000 in
theorem first_no (x : SD) (kd : Nat) (v : Value) (n : Nat) (xs : List Int) (w : World) (hv : Rd w 1 v n (xs.map (Value.int .u8))) (hz : ∀ x ∈ xs, (Lit.int .u8 x).wf = true) (hn : n ≤ 1048576) (hR : x = (segA xs (newS xs n)).1) (hkd : kd = 1 + belowX xs 10 (segA xs (newS xs n)).2) (hf : firstO x.ops (kd : Int) = none) :
    Calls Try.prog 5 #[v] w fun e w' => e = .returned (.bool true) ∧ Below w.heap.size w w' := by
  have HV := Lib.hid hv
  have HZ := Lib.hid (u8_range hz)
  have HR := Lib.hid hR
  have HKD := Lib.hid hkd
  have HF := Lib.hid hf
  clear hv hz hR hkd hf
  go_enter Try.func5, Try.ntmps5
  have HB : Hid (decide (1048576 < (n : Int)) = false) := Lib.hid (by simp; omega)
  go_wp2_with fail
  refine (big_l v n _ _ HV.out).mono ?_
  rw [HB.out]
  rintro e w0 ⟨rfl, rfl⟩
  go_wp2_with fail
  refine (drawFirstOpt_u v n xs _ HV.out HZ.out hn).mono ?_
  rw [← HR.out, ← HKD.out]
  rintro e w1 ⟨ov, ivs, rfl, ho, hb, hwf, hid, hn6, hda⟩
  obtain ⟨k, hk⟩ : ∃ k, k = x.ops.length := ⟨_, rfl⟩
  rw [← hk] at ho hn6
  obtain ⟨A, cp, rfl, _⟩ := ho.rd.shape
  have O1 := Lib.hid ho
  have L1 := Lib.hid hb
  have HNI : Hid (∀ o ∈ x.ops, o.ids.length ≤ 4294967296) := Lib.hid (fun o ho => Nat.le_trans (hid o ho).2 (by omega))
  have HKN : Hid (x.ops.length = k) := Lib.hid hk.symm
  clear ho hb hwf hid hk hda
  have HO1 : Hid ((∀ q, (Value.slice A k cp).ownBlock = some q → q < w1.heap.size) ∧ ∀ a ∈ ivs, ∀ q, a.ownBlock = some q → q < w1.heap.size) := Lib.hid ⟨fun q hq => (O1.out.row.lt q hq).2, O1.out.lts⟩
  go_upto_region 4 with ((refine wpl_store_seg rfl (by rfl) (by rfl) (by rfl) ?_))
  obtain ⟨W2, hW⟩ : ∃ W, W = w1.alloc (.cells (vxC x (.slice A k cp)).toArray 37) := ⟨_, rfl⟩
  rw [← hW]
  obtain ⟨b2, hb⟩ : ∃ b, b = w1.heap.size := ⟨_, rfl⟩
  have X2 := Lib.hid (Bx.new w1 (vxC x (.slice A k cp)).toArray 37)
  have E := Lib.hid ((Below.refl w1.heap.size w1).alloc (Nat.le_refl _) (.cells (vxC x (.slice A k cp)).toArray 37))
  rw [← hW] at X2 E
  rw [← hb] at X2 ⊢
  have O2 := Lib.hid (O1.out.below E.out)
  have L2 := Lib.hid (L1.out.trans (E.out.mono L1.out.size))
  clear hW E O1 L1
  have HOV : Hid ((∀ q, (Value.slice A k cp).ownBlock = some q → q < b2) ∧ ∀ a ∈ ivs, ∀ q, a.ownBlock = some q → q < b2) := Lib.hid (by rw [hb]; exact ⟨fun q hq => HO1.out.1 q hq, HO1.out.2⟩)
  clear hb HO1
  go_wp2_with fail
  refine (drawFirstOpt_u v n xs _ (HV.out.below L2.out) HZ.out hn).mono ?_
  rw [← HR.out, ← HKD.out]
  rintro e w3 ⟨ov2, jvs, rfl, ho, hb, _, _, _, _⟩
  rw [HKN.out] at ho
  obtain ⟨A3, cp3, rfl, _⟩ := ho.rd.shape
  have P3 := Lib.hid ho
  clear ho
  have O3 := Lib.hid (O2.out.below hb)
  have X3 := Lib.hid (X2.out.below hb)
  have L3 := Lib.hid (L2.out.trans (hb.mono L2.out.size))
  clear hb O2 X2 L2
  go_upto_region 5 with ((refine wpl_store_seg rfl (by rfl) (by rfl) (by rfl) ?_))
  obtain ⟨W4, hW⟩ : ∃ W, W = w3.alloc (.cells (vxC x (.slice A3 k cp3)).toArray 37) := ⟨_, rfl⟩
  rw [← hW]
  obtain ⟨b4, hb⟩ : ∃ b, b = w3.heap.size := ⟨_, rfl⟩
  have Y4 := Lib.hid (Bx.new w3 (vxC x (.slice A3 k cp3)).toArray 37)
  have E := Lib.hid ((Below.refl w3.heap.size w3).alloc (Nat.le_refl _) (.cells (vxC x (.slice A3 k cp3)).toArray 37))
  rw [← hW] at Y4 E
  rw [← hb] at Y4 ⊢
  have O4 := Lib.hid (O3.out.below E.out)
  have X4 := Lib.hid (X3.out.below E.out)
  have P4 := Lib.hid (P3.out.below E.out)
  have L4 := Lib.hid (L3.out.trans (E.out.mono L3.out.size))
  clear hW E O3 X3 P3 L3
  clear hb
  go_wp2_with (refine wpl_segI (q := x) rfl (by rfl) (by rfl) X4.out ?_)
  refine (firstOpt_i x A k cp _ (kd : Int) _ O4.out.rd HNI.out).mono ?_
  rw [HF.out]
  rintro e w5 ⟨iv5, rfl, ho, hb⟩
  dsimp only [Option.getD, Option.isSome] at ho ⊢
  obtain ⟨A5, cp5, rfl⟩ := ho.shape
  have Q5 := Lib.hid ho
  clear ho
  have O5 := Lib.hid (O4.out.below hb)
  have X5 := Lib.hid (X4.out.below hb)
  have P5 := Lib.hid (P4.out.below hb)
  have Y5 := Lib.hid (Y4.out.below hb)
  have L5 := Lib.hid (L4.out.trans (hb.mono L4.out.size))
  clear hb O4 X4 P4 Y4 L4
  go_upto_region 6 with ((refine wpl_store_opt rfl (by rfl) (by rfl) (by rfl) ?_))
  obtain ⟨W6, hW⟩ : ∃ W, W = w5.alloc (.cells (voC (OD.new 0 []) (.slice A5 ((OD.new 0 [])).ids.length cp5)).toArray 27) := ⟨_, rfl⟩
  rw [← hW]
  obtain ⟨b6, hb⟩ : ∃ b, b = w5.heap.size := ⟨_, rfl⟩
  have U6 := Lib.hid (Bx.new w5 (voC (OD.new 0 []) (.slice A5 ((OD.new 0 [])).ids.length cp5)).toArray 27)
  have E := Lib.hid ((Below.refl w5.heap.size w5).alloc (Nat.le_refl _) (.cells (voC (OD.new 0 []) (.slice A5 ((OD.new 0 [])).ids.length cp5)).toArray 27))
  rw [← hW] at U6 E
  rw [← hb] at U6 ⊢
  have O6 := Lib.hid (O5.out.below E.out)
  have X6 := Lib.hid (X5.out.below E.out)
  have P6 := Lib.hid (P5.out.below E.out)
  have Y6 := Lib.hid (Y5.out.below E.out)
  have Q6 := Lib.hid (Q5.out.below E.out)
  have L6 := Lib.hid (L5.out.trans (E.out.mono L5.out.size))
  clear hW E O5 X5 P5 Y5 Q5 L5
  clear hb
  go_wp2_with (first | (refine wpl_segI (q := x) rfl (by rfl) (by rfl) X6.out ?_) | (refine wpl_segI (q := x) rfl (by rfl) (by rfl) Y6.out ?_))
  refine (firstOpt_s x A3 k cp3 _ (kd : Int) _ P6.out.rd HNI.out).mono ?_
  rw [HF.out]
  rintro e w7 ⟨iv7, rfl, ho, hb⟩
  dsimp only [Option.getD, Option.isSome] at ho ⊢
  obtain ⟨A7, cp7, rfl⟩ := ho.shape
  have R7 := Lib.hid ho
  clear ho
  have O7 := Lib.hid (O6.out.below hb)
  have X7 := Lib.hid (X6.out.below hb)
  have P7 := Lib.hid (P6.out.below hb)
  have Y7 := Lib.hid (Y6.out.below hb)
  have Q7 := Lib.hid (Q6.out.below hb)
  have U7 := Lib.hid (U6.out.below hb)
  have L7 := Lib.hid (L6.out.trans (hb.mono L6.out.size))
  clear hb O6 X6 P6 Y6 Q6 U6 L6
  have HX8 : Hid (b2 < w7.heap.size) := Lib.hid X7.out.1
  go_upto_region 7 with ((refine wpl_store_opt rfl (by rfl) (by rfl) (by rfl) ?_))
  obtain ⟨W8, hW⟩ : ∃ W, W = w7.alloc (.cells (voC (OD.new 0 []) (.slice A7 ((OD.new 0 [])).ids.length cp7)).toArray 27) := ⟨_, rfl⟩
  rw [← hW]
  obtain ⟨b8, hb⟩ : ∃ b, b = w7.heap.size := ⟨_, rfl⟩
  have V8 := Lib.hid (Bx.new w7 (voC (OD.new 0 []) (.slice A7 ((OD.new 0 [])).ids.length cp7)).toArray 27)
  have E := Lib.hid ((Below.refl w7.heap.size w7).alloc (Nat.le_refl _) (.cells (voC (OD.new 0 []) (.slice A7 ((OD.new 0 [])).ids.length cp7)).toArray 27))
  rw [← hW] at V8 E
  rw [← hb] at V8 ⊢
  have O8 := Lib.hid (O7.out.below E.out)
  have X8 := Lib.hid (X7.out.below E.out)
  have P8 := Lib.hid (P7.out.below E.out)
  have Y8 := Lib.hid (Y7.out.below E.out)
  have Q8 := Lib.hid (Q7.out.below E.out)
  have U8 := Lib.hid (U7.out.below E.out)
  have R8 := Lib.hid (R7.out.below E.out)
  have L8 := Lib.hid (L7.out.trans (E.out.mono L7.out.size))
  clear hW E O7 X7 P7 Y7 Q7 U7 R7 L7
  have S8 : Hid (b2 < b8) := Lib.hid (by rw [hb]; exact HX8.out)
  clear hb HX8
  go_upto_region 8 with (first | (refine wpl_segI (q := x) rfl (by rfl) (by rfl) X8.out ?_) | (refine wpl_store_seg (q := x) (A := A) (n := k) (c := cp) rfl (by rfl) (by rfl) (by rfl) ?_))
  obtain ⟨W9, hW⟩ : ∃ W, W = W8.alloc (.cells (vxC x (.slice A k cp)).toArray 37) := ⟨_, rfl⟩
  rw [← hW]
  obtain ⟨b9, hb⟩ : ∃ b, b = W8.heap.size := ⟨_, rfl⟩
  have Z9 := Lib.hid (Blk.new W8 37 (vxC x (.slice A k cp)).toArray)
  have E := Lib.hid ((Below.refl W8.heap.size W8).alloc (Nat.le_refl _) (.cells (vxC x (.slice A k cp)).toArray 37))
  rw [← hW] at Z9 E
  rw [← hb] at Z9 ⊢
  have O9 := Lib.hid (O8.out.below E.out)
  have X9 := Lib.hid (X8.out.below E.out)
  have P9 := Lib.hid (P8.out.below E.out)
  have Y9 := Lib.hid (Y8.out.below E.out)
  have Q9 := Lib.hid (Q8.out.below E.out)
  have U9 := Lib.hid (U8.out.below E.out)
  have R9 := Lib.hid (R8.out.below E.out)
  have V9 := Lib.hid (V8.out.below E.out)
  have L9 := Lib.hid (L8.out.trans (E.out.mono L8.out.size))
  have SW : Hid (w.heap.size ≤ b9) := Lib.hid (by rw [hb]; exact L8.out.size)
  have S9 : Hid (b2 < b9 ∧ b4 < b9 ∧ b6 < b9 ∧ b8 < b9) := Lib.hid (by rw [hb]; exact ⟨X8.out.1, Y8.out.1, U8.out.1, V8.out.1⟩)
  have T9 : Hid ((∀ q, (Value.slice A3 k cp3).ownBlock = some q → q < b9) ∧ (∀ a ∈ jvs, ∀ q, a.ownBlock = some q → q < b9)) := Lib.hid (by rw [hb]; exact ⟨fun q hq => (P8.out.row.lt q hq).2, P8.out.lts⟩)
  have T9' : Hid ((∀ q, (Value.slice A5 (OD.new 0 []).ids.length cp5).ownBlock = some q → q < b9) ∧ (∀ q, (Value.slice A7 (OD.new 0 []).ids.length cp7).ownBlock = some q → q < b9)) := Lib.hid (by rw [hb]; exact ⟨fun q hq => (Q8.out.lt q hq).2, fun q hq => (R8.out.lt q hq).2⟩)
  clear hW hb E O8 X8 P8 Y8 Q8 U8 R8 V8 L8 S8
  obtain ⟨i0, hi, hz0, hz1, hz2⟩ := info_parts opt_info
  obtain ⟨W10, hW⟩ : ∃ W, W = W9.alloc (.cells (voC failO (.slice none 0 0)).toArray 27) := ⟨_, rfl⟩
  have HW10 := Lib.hid hW
  obtain ⟨b10, hb⟩ : ∃ b, b = W9.heap.size := ⟨_, rfl⟩
  have HB10 := Lib.hid hb
  have E10 := Lib.hid ((Below.refl W9.heap.size W9).alloc (Nat.le_refl _) (.cells (voC failO (.slice none 0 0)).toArray 27))
  have N10 := Lib.hid (obs_lit14 W9 27 (voC failO (.slice none 0 0)).toArray W9.heap.size (Nat.le_refl _) rfl)
  rw [← hW] at E10 N10
  rw [← hb] at N10
  have Z10 := Lib.hid (Z9.out.below E10.out Z9.out.lt)
  have O10 := Lib.hid (O9.out.below E10.out)
  have X10 := Lib.hid (X9.out.below E10.out)
  have S10 : Hid (b9 < b10 ∧ b10 ≤ W10.heap.size) := Lib.hid (by rw [hb]; exact ⟨Z9.out.lt, E10.out.size⟩)
  have FC : Hid (∀ (u : Value), u ∈ flatO x.ops ivs → u.oneCell' = true) := Lib.hid (flatO_cells _ _ (fun k o iv ho hi => by obtain ⟨A, cp, e⟩ := (O9.out.ids k o iv ho hi).shape; exact ⟨A, _, cp, e⟩))
  have x7 : W10.cell? ⟨b2, 7, none⟩ = some (.slice A k cp) := X10.out.2 7 _ rfl
  clear hW hb
  go_upto_region 9 with (first | (refine wpl_build1 (q := failO) (A := none) (n := 0) (c := 0) rfl (by rfl) (by rfl) ?_; rw [← HW10.out, ← HB10.out]) | (at_builtin; refine wpList_append_obs2 _ rfl _ _ 35 rfl b10 27 i0 _ 14 144 Try.underlying35 hi hz0 hz1 hz2 rfl (by decide) _ 1 _ rfl N10.out _ _ k _ rfl O10.out.row FC.out (by unfold maxLen; omega) (by omega) S10.out.2 ?_; intro v11 w11 ho11 hb11 hg11; obtain ⟨A11, cp11, rfl, _⟩ := ho11.rd.shape; have NB := Lib.hid ho11; have HB11 := Lib.hid hb11; have y7 : w11.cell? ⟨b9, 7, none⟩ = some (.slice A k cp) := (Z10.out.below hb11 S10.out.1).cell 7; have f7 := (Z10.out.below hb11 S10.out.1).frozen 7; clear ho11 hb11 hg11))
  have BE : Below W9.heap.size W9 w11 := E10.out.trans (by have h1 := HB11.out; rw [HB10.out] at h1; exact h1)
  have Z11 := Lib.hid (Z9.out.below BE Z9.out.lt)
  have O11 := Lib.hid (O9.out.below BE)
  have X11 := Lib.hid (X9.out.below BE)
  have P11 := Lib.hid (P9.out.below BE)
  have Y11 := Lib.hid (Y9.out.below BE)
  have Q11 := Lib.hid (Q9.out.below BE)
  have U11 := Lib.hid (U9.out.below BE)
  have R11 := Lib.hid (R9.out.below BE)
  have V11 := Lib.hid (V9.out.below BE)
  have L11 := Lib.hid (L9.out.trans (BE.mono L9.out.size))
  clear BE x7 Z9 O9 X9 P9 Y9 Q9 U9 R9 V9 L9 E10 O10 X10 Z10 HW10 HB10 N10 HB11
  obtain ⟨W12, hW⟩ : ∃ W, W = w11.setCell ⟨b9, 7, none⟩ (.slice A11 (1 + k) cp11) := ⟨_, rfl⟩
  rw [← hW]
  have s9 := S9.out
  have s10 := S10.out
  obtain ⟨x', hx'⟩ : ∃ x' : SD, x' = { x with ops := failO :: x.ops } := ⟨_, rfl⟩
  have BT : Below b9 w11 W12 := by rw [hW]; exact (Below.refl _ _).setCell (by dsimp only; omega) _
  have Z12 : Hid (Blk W12 b9 37 (vxC x' (.slice A11 (1 + k) cp11))) := Lib.hid (by rw [hW, hx']; exact Z11.out.set_ 7 _)
  have X12 := Lib.hid (X11.out.belowB BT s9.1)
  have Y12 := Lib.hid (Y11.out.belowB BT s9.2.1)
  have U12 := Lib.hid (U11.out.belowB BT s9.2.2.1)
  have V12 := Lib.hid (V11.out.belowB BT s9.2.2.2)
  have GS := (Grew.refl w11 b9).set_ 7 (.slice A11 (1 + k) cp11)
  rw [← hW] at GS
  have O12 := Lib.hid (O11.out.grewNe GS (fun q hq => by have := HOV.out.1 q hq; omega) (fun a ha q hq => by have := HOV.out.2 a ha q hq; omega))
  have P12 := Lib.hid (P11.out.grewNe GS (fun q hq => Nat.ne_of_lt (T9.out.1 q hq)) (fun a ha q hq => Nat.ne_of_lt (T9.out.2 a ha q hq)))
  have Q12 := Lib.hid (Q11.out.grew GS (fun q hq => Nat.ne_of_lt (T9'.out.1 q hq)))
  have R12 := Lib.hid (R11.out.grew GS (fun q hq => Nat.ne_of_lt (T9'.out.2 q hq)))
  have NR : Hid (Obs W12 b10 14 (.slice A11 (1 + k) cp11) (1 + k) (voC failO (.slice none 0 0) ++ flatO x.ops ivs)) := Lib.hid (by rw [hW]; exact NB.out.far (by dsimp only; omega) _)
  have L12 := Lib.hid (L11.out.trans (BT.mono SW.out))
  have DR : Hid (RdO W12 (.slice A11 (1 + k) cp11) (1 + k) x'.ops (.slice none 0 0 :: ivs)) := Lib.hid (by
    rw [hx']
    refine ⟨(by show (failO :: x.ops).length = _; rw [List.length_cons, HKN.out]; omega), (by rw [List.length_cons, O12.out.li]; omega), NR.out.rd, fun j o iv ho hi => ?_⟩
    cases j with
    | zero =>
      simp only [List.getElem?_cons_zero, Option.some.injEq] at ho hi
      subst ho; subst hi
      exact (Obs.nil W12 0 1).rd
    | succ j => exact (O12.out.ids j o iv ho hi).rd)
  have HNX : Hid ((∀ o ∈ x'.ops, o.ids.length ≤ 4294967296) ∧ firstO x'.ops 9 = some failO) := Lib.hid (by
    rw [hx']
    refine ⟨fun o ho => ?_, firstO_fail _⟩
    rcases List.mem_cons.1 ho with rfl | ho
    · exact Nat.zero_le _
    · exact HNI.out o ho)
  clear hW hx' BT GS y7 f7 Z11 O11 X11 P11 Y11 Q11 U11 R11 V11 L11 NB s9 s10 NR
  go_wp2_with (first | (refine wpl_segI (q := x') rfl (by rfl) (by rfl) (Bx.of_blk Z12.out) ?_) | (refine wpl_segI (q := x) rfl (by rfl) (by rfl) Y12.out ?_))
  refine (firstOpt_i x' A11 (1 + k) cp11 _ 9 _ DR.out HNX.out.1).mono ?_
  rw [HNX.out.2]
  rintro e w13 ⟨iv13, rfl, ho, hb⟩
  dsimp only [Option.getD, Option.isSome] at ho ⊢
  obtain ⟨A13, cp13, rfl⟩ := ho.shape
  clear ho Z12 DR
  have O13 := Lib.hid (O12.out.below hb)
  have X13 := Lib.hid (X12.out.below hb)
  have P13 := Lib.hid (P12.out.below hb)
  have Y13 := Lib.hid (Y12.out.below hb)
  have Q13 := Lib.hid (Q12.out.below hb)
  have U13 := Lib.hid (U12.out.below hb)
  have R13 := Lib.hid (R12.out.below hb)
  have V13 := Lib.hid (V12.out.below hb)
  have L13 := Lib.hid (L12.out.trans (hb.mono L12.out.size))
  clear hb O12 X12 P12 Y12 Q12 U12 R12 V12 L12
  go_upto_region 10 with ((refine wpl_store_opt rfl (by rfl) (by rfl) (by rfl) ?_))
  obtain ⟨W14, hW⟩ : ∃ W, W = w13.alloc (.cells (voC failO (.slice A13 failO.ids.length cp13)).toArray 27) := ⟨_, rfl⟩
  rw [← hW]
  obtain ⟨b14, hb⟩ : ∃ b, b = w13.heap.size := ⟨_, rfl⟩
  have M14 := Lib.hid (Bx.new w13 (voC failO (.slice A13 failO.ids.length cp13)).toArray 27)
  have E := Lib.hid ((Below.refl w13.heap.size w13).alloc (Nat.le_refl _) (.cells (voC failO (.slice A13 failO.ids.length cp13)).toArray 27))
  rw [← hW] at M14 E
  rw [← hb] at M14 ⊢
  have O14 := Lib.hid (O13.out.below E.out)
  have X14 := Lib.hid (X13.out.below E.out)
  have P14 := Lib.hid (P13.out.below E.out)
  have Y14 := Lib.hid (Y13.out.below E.out)
  have Q14 := Lib.hid (Q13.out.below E.out)
  have U14 := Lib.hid (U13.out.below E.out)
  have R14 := Lib.hid (R13.out.below E.out)
  have V14 := Lib.hid (V13.out.below E.out)
  have L14 := Lib.hid (L13.out.trans (E.out.mono L13.out.size))
  clear hW E O13 X13 P13 Y13 Q13 U13 R13 V13 L13
  clear hb
  have m6 : W14.cell? ⟨b14, 6, none⟩ = some (.int .i64 5) := M14.out.2 6 _ rfl
  have u0 : W14.cell? ⟨b6, 0, none⟩ = some (.int .i64 (OD.new 0 []).k) := U14.out.2 0 _ rfl
  go_wp2_with (first | (refine wpl_optGd (o := (OD.new 0 [])) (by simp [Region.wanted, yielded, Act.put]) (by rfl) (by rfl) U14.out ?_) | (refine wpl_optGd (o := (OD.new 0 [])) (by simp [Region.wanted, yielded, Act.put]) (by rfl) (by rfl) V14.out ?_))
  refine (sameOpt_l (OD.new 0 []) (OD.new 0 []) _ _ _ _ _ Q14.out.rd R14.out.rd).mono ?_
  rw [sameOD_self]
  rintro e w15 ⟨rfl, hb⟩
  have u15 : w15.cell? ⟨b6, 0, none⟩ = some (.int .i64 (OD.new 0 []).k) := (U14.out.below hb).2 0 _ rfl
  clear m6 u0 Q14 R14 U14 V14
  have O15 := Lib.hid (O14.out.below hb)
  have X15 := Lib.hid (X14.out.below hb)
  have P15 := Lib.hid (P14.out.below hb)
  have Y15 := Lib.hid (Y14.out.below hb)
  have L15 := Lib.hid (L14.out.trans (hb.mono L14.out.size))
  clear hb O14 X14 P14 Y14 L14
  go_wp2_with (first | (refine wpl_segG (q := x) (by simp [Region.wanted, yielded, Act.put]) (by rfl) (by rfl) X15.out ?_) | (refine wpl_segG (q := x) (by simp [Region.wanted, yielded, Act.put]) (by rfl) (by rfl) Y15.out ?_))
  refine (sameSeg_l x A A3 k cp cp3 _ _ _ O15.out.rd P15.out.rd).mono ?_
  rintro e w16 ⟨rfl, hb⟩
  have L16 := Lib.hid (L15.out.trans (hb.mono L15.out.size))
  clear hb
  go_wp2
  go_ret
  exact ⟨rfl, L16.out⟩
set_option maxRecDepth 100000 in
set_option maxHeartbeats 6400000 in
theorem first_yes (x : SD) (kd : Nat) (o : OD) (v : Value) (n : Nat) (xs : List Int) (w : World) (hv : Rd w 1 v n (xs.map (Value.int .u8))) (hz : ∀ x ∈ xs, (Lit.int .u8 x).wf = true) (hn : n ≤ 1048576) (hR : x = (segA xs (newS xs n)).1) (hkd : kd = 1 + belowX xs 10 (segA xs (newS xs n)).2) (hf : firstO x.ops (kd : Int) = some o) :
    Calls Try.prog 5 #[v] w fun e w' => e = .returned (.bool true) ∧ Below w.heap.size w w' := by
  have HV := Lib.hid hv
  have HZ := Lib.hid (u8_range hz)
  have HR := Lib.hid hR
  have HKD := Lib.hid hkd
  have HF := Lib.hid hf
  have HKO : Hid (o.k = (kd : Int)) := Lib.hid (firstO_kind hf)
  clear hv hz hR hkd hf
  go_enter Try.func5, Try.ntmps5
  have HB : Hid (decide (1048576 < (n : Int)) = false) := Lib.hid (by simp; omega)
  go_wp2_with fail
  refine (big_l v n _ _ HV.out).mono ?_
  rw [HB.out]
  rintro e w0 ⟨rfl, rfl⟩
  go_wp2_with fail
  refine (drawFirstOpt_u v n xs _ HV.out HZ.out hn).mono ?_
  rw [← HR.out, ← HKD.out]
  rintro e w1 ⟨ov, ivs, rfl, ho, hb, hwf, hid, hn6, hda⟩
  obtain ⟨k, hk⟩ : ∃ k, k = x.ops.length := ⟨_, rfl⟩
  rw [← hk] at ho hn6
  obtain ⟨A, cp, rfl, _⟩ := ho.rd.shape
  have O1 := Lib.hid ho
  have L1 := Lib.hid hb
  have HNI : Hid (∀ o ∈ x.ops, o.ids.length ≤ 4294967296) := Lib.hid (fun o ho => Nat.le_trans (hid o ho).2 (by omega))
  have HKN : Hid (x.ops.length = k) := Lib.hid hk.symm
  clear ho hb hwf hid hk hda
  have HO1 : Hid ((∀ q, (Value.slice A k cp).ownBlock = some q → q < w1.heap.size) ∧ ∀ a ∈ ivs, ∀ q, a.ownBlock = some q → q < w1.heap.size) := Lib.hid ⟨fun q hq => (O1.out.row.lt q hq).2, O1.out.lts⟩
  go_upto_region 4 with ((refine wpl_store_seg rfl (by rfl) (by rfl) (by rfl) ?_))
  obtain ⟨W2, hW⟩ : ∃ W, W = w1.alloc (.cells (vxC x (.slice A k cp)).toArray 37) := ⟨_, rfl⟩
  rw [← hW]
  obtain ⟨b2, hb⟩ : ∃ b, b = w1.heap.size := ⟨_, rfl⟩
  have X2 := Lib.hid (Bx.new w1 (vxC x (.slice A k cp)).toArray 37)
  have E := Lib.hid ((Below.refl w1.heap.size w1).alloc (Nat.le_refl _) (.cells (vxC x (.slice A k cp)).toArray 37))
  rw [← hW] at X2 E
  rw [← hb] at X2 ⊢
  have O2 := Lib.hid (O1.out.below E.out)
  have L2 := Lib.hid (L1.out.trans (E.out.mono L1.out.size))
  clear hW E O1 L1
  have HOV : Hid ((∀ q, (Value.slice A k cp).ownBlock = some q → q < b2) ∧ ∀ a ∈ ivs, ∀ q, a.ownBlock = some q → q < b2) := Lib.hid (by rw [hb]; exact ⟨fun q hq => HO1.out.1 q hq, HO1.out.2⟩)
  clear hb HO1
  go_wp2_with fail
  refine (drawFirstOpt_u v n xs _ (HV.out.below L2.out) HZ.out hn).mono ?_
  rw [← HR.out, ← HKD.out]
  rintro e w3 ⟨ov2, jvs, rfl, ho, hb, _, _, _, _⟩
  rw [HKN.out] at ho
  obtain ⟨A3, cp3, rfl, _⟩ := ho.rd.shape
  have P3 := Lib.hid ho
  clear ho
  have O3 := Lib.hid (O2.out.below hb)
  have X3 := Lib.hid (X2.out.below hb)
  have L3 := Lib.hid (L2.out.trans (hb.mono L2.out.size))
  clear hb O2 X2 L2
  go_upto_region 5 with ((refine wpl_store_seg rfl (by rfl) (by rfl) (by rfl) ?_))
  obtain ⟨W4, hW⟩ : ∃ W, W = w3.alloc (.cells (vxC x (.slice A3 k cp3)).toArray 37) := ⟨_, rfl⟩
  rw [← hW]
  obtain ⟨b4, hb⟩ : ∃ b, b = w3.heap.size := ⟨_, rfl⟩
  have Y4 := Lib.hid (Bx.new w3 (vxC x (.slice A3 k cp3)).toArray 37)
  have E := Lib.hid ((Below.refl w3.heap.size w3).alloc (Nat.le_refl _) (.cells (vxC x (.slice A3 k cp3)).toArray 37))
  rw [← hW] at Y4 E
  rw [← hb] at Y4 ⊢
  have O4 := Lib.hid (O3.out.below E.out)
  have X4 := Lib.hid (X3.out.below E.out)
  have P4 := Lib.hid (P3.out.below E.out)
  have L4 := Lib.hid (L3.out.trans (E.out.mono L3.out.size))
  clear hW E O3 X3 P3 L3
  clear hb
  go_wp2_with (refine wpl_segI (q := x) rfl (by rfl) (by rfl) X4.out ?_)
  refine (firstOpt_i x A k cp _ (kd : Int) _ O4.out.rd HNI.out).mono ?_
  rw [HF.out]
  rintro e w5 ⟨iv5, rfl, ho, hb⟩
  dsimp only [Option.getD, Option.isSome] at ho ⊢
  obtain ⟨A5, cp5, rfl⟩ := ho.shape
  have Q5 := Lib.hid ho
  clear ho
  have O5 := Lib.hid (O4.out.below hb)
  have X5 := Lib.hid (X4.out.below hb)
  have P5 := Lib.hid (P4.out.below hb)
  have Y5 := Lib.hid (Y4.out.below hb)
  have L5 := Lib.hid (L4.out.trans (hb.mono L4.out.size))
  clear hb O4 X4 P4 Y4 L4
  go_upto_region 6 with ((refine wpl_store_opt rfl (by rfl) (by rfl) (by rfl) ?_))
  obtain ⟨W6, hW⟩ : ∃ W, W = w5.alloc (.cells (voC o (.slice A5 (o).ids.length cp5)).toArray 27) := ⟨_, rfl⟩
  rw [← hW]
  obtain ⟨b6, hb⟩ : ∃ b, b = w5.heap.size := ⟨_, rfl⟩
  have U6 := Lib.hid (Bx.new w5 (voC o (.slice A5 (o).ids.length cp5)).toArray 27)
  have E := Lib.hid ((Below.refl w5.heap.size w5).alloc (Nat.le_refl _) (.cells (voC o (.slice A5 (o).ids.length cp5)).toArray 27))
  rw [← hW] at U6 E
  rw [← hb] at U6 ⊢
  have O6 := Lib.hid (O5.out.below E.out)
  have X6 := Lib.hid (X5.out.below E.out)
  have P6 := Lib.hid (P5.out.below E.out)
  have Y6 := Lib.hid (Y5.out.below E.out)
  have Q6 := Lib.hid (Q5.out.below E.out)
  have L6 := Lib.hid (L5.out.trans (E.out.mono L5.out.size))
  clear hW E O5 X5 P5 Y5 Q5 L5
  clear hb
  go_wp2_with (first | (refine wpl_segI (q := x) rfl (by rfl) (by rfl) X6.out ?_) | (refine wpl_segI (q := x) rfl (by rfl) (by rfl) Y6.out ?_))
  refine (firstOpt_s x A3 k cp3 _ (kd : Int) _ P6.out.rd HNI.out).mono ?_
  rw [HF.out]
  rintro e w7 ⟨iv7, rfl, ho, hb⟩
  dsimp only [Option.getD, Option.isSome] at ho ⊢
  obtain ⟨A7, cp7, rfl⟩ := ho.shape
  have R7 := Lib.hid ho
  clear ho
  have O7 := Lib.hid (O6.out.below hb)
  have X7 := Lib.hid (X6.out.below hb)
  have P7 := Lib.hid (P6.out.below hb)
  have Y7 := Lib.hid (Y6.out.below hb)
  have Q7 := Lib.hid (Q6.out.below hb)
  have U7 := Lib.hid (U6.out.below hb)
  have L7 := Lib.hid (L6.out.trans (hb.mono L6.out.size))
  clear hb O6 X6 P6 Y6 Q6 U6 L6
  have HX8 : Hid (b2 < w7.heap.size) := Lib.hid X7.out.1
  go_upto_region 7 with ((refine wpl_store_opt rfl (by rfl) (by rfl) (by rfl) ?_))
  obtain ⟨W8, hW⟩ : ∃ W, W = w7.alloc (.cells (voC o (.slice A7 (o).ids.length cp7)).toArray 27) := ⟨_, rfl⟩
  rw [← hW]
  obtain ⟨b8, hb⟩ : ∃ b, b = w7.heap.size := ⟨_, rfl⟩
  have V8 := Lib.hid (Bx.new w7 (voC o (.slice A7 (o).ids.length cp7)).toArray 27)
  have E := Lib.hid ((Below.refl w7.heap.size w7).alloc (Nat.le_refl _) (.cells (voC o (.slice A7 (o).ids.length cp7)).toArray 27))
  rw [← hW] at V8 E
  rw [← hb] at V8 ⊢
  have O8 := Lib.hid (O7.out.below E.out)
  have X8 := Lib.hid (X7.out.below E.out)
  have P8 := Lib.hid (P7.out.below E.out)
  have Y8 := Lib.hid (Y7.out.below E.out)
  have Q8 := Lib.hid (Q7.out.below E.out)
  have U8 := Lib.hid (U7.out.below E.out)
  have R8 := Lib.hid (R7.out.below E.out)
  have L8 := Lib.hid (L7.out.trans (E.out.mono L7.out.size))
  clear hW E O7 X7 P7 Y7 Q7 U7 R7 L7
  have S8 : Hid (b2 < b8) := Lib.hid (by rw [hb]; exact HX8.out)
  clear hb HX8
  go_upto_region 8 with (first | (refine wpl_segI (q := x) rfl (by rfl) (by rfl) X8.out ?_) | (refine wpl_store_seg (q := x) (A := A) (n := k) (c := cp) rfl (by rfl) (by rfl) (by rfl) ?_))
  obtain ⟨W9, hW⟩ : ∃ W, W = W8.alloc (.cells (vxC x (.slice A k cp)).toArray 37) := ⟨_, rfl⟩
  rw [← hW]
  obtain ⟨b9, hb⟩ : ∃ b, b = W8.heap.size := ⟨_, rfl⟩
  have Z9 := Lib.hid (Blk.new W8 37 (vxC x (.slice A k cp)).toArray)
  have E := Lib.hid ((Below.refl W8.heap.size W8).alloc (Nat.le_refl _) (.cells (vxC x (.slice A k cp)).toArray 37))
  rw [← hW] at Z9 E
  rw [← hb] at Z9 ⊢
  have O9 := Lib.hid (O8.out.below E.out)
  have X9 := Lib.hid (X8.out.below E.out)
  have P9 := Lib.hid (P8.out.below E.out)
  have Y9 := Lib.hid (Y8.out.below E.out)
  have Q9 := Lib.hid (Q8.out.below E.out)
  have U9 := Lib.hid (U8.out.below E.out)
  have R9 := Lib.hid (R8.out.below E.out)
  have V9 := Lib.hid (V8.out.below E.out)
  have L9 := Lib.hid (L8.out.trans (E.out.mono L8.out.size))
  have SW : Hid (w.heap.size ≤ b9) := Lib.hid (by rw [hb]; exact L8.out.size)
  have S9 : Hid (b2 < b9 ∧ b4 < b9 ∧ b6 < b9 ∧ b8 < b9) := Lib.hid (by rw [hb]; exact ⟨X8.out.1, Y8.out.1, U8.out.1, V8.out.1⟩)
  have T9 : Hid ((∀ q, (Value.slice A3 k cp3).ownBlock = some q → q < b9) ∧ (∀ a ∈ jvs, ∀ q, a.ownBlock = some q → q < b9)) := Lib.hid (by rw [hb]; exact ⟨fun q hq => (P8.out.row.lt q hq).2, P8.out.lts⟩)
  have T9' : Hid ((∀ q, (Value.slice A5 o.ids.length cp5).ownBlock = some q → q < b9) ∧ (∀ q, (Value.slice A7 o.ids.length cp7).ownBlock = some q → q < b9)) := Lib.hid (by rw [hb]; exact ⟨fun q hq => (Q8.out.lt q hq).2, fun q hq => (R8.out.lt q hq).2⟩)
  clear hW hb E O8 X8 P8 Y8 Q8 U8 R8 V8 L8 S8
  obtain ⟨i0, hi, hz0, hz1, hz2⟩ := info_parts opt_info
  obtain ⟨W10, hW⟩ : ∃ W, W = W9.alloc (.cells (voC failO (.slice none 0 0)).toArray 27) := ⟨_, rfl⟩
  have HW10 := Lib.hid hW
  obtain ⟨b10, hb⟩ : ∃ b, b = W9.heap.size := ⟨_, rfl⟩
  have HB10 := Lib.hid hb
  have E10 := Lib.hid ((Below.refl W9.heap.size W9).alloc (Nat.le_refl _) (.cells (voC failO (.slice none 0 0)).toArray 27))
  have N10 := Lib.hid (obs_lit14 W9 27 (voC failO (.slice none 0 0)).toArray W9.heap.size (Nat.le_refl _) rfl)
  rw [← hW] at E10 N10
  rw [← hb] at N10
  have Z10 := Lib.hid (Z9.out.below E10.out Z9.out.lt)
  have O10 := Lib.hid (O9.out.below E10.out)
  have X10 := Lib.hid (X9.out.below E10.out)
  have S10 : Hid (b9 < b10 ∧ b10 ≤ W10.heap.size) := Lib.hid (by rw [hb]; exact ⟨Z9.out.lt, E10.out.size⟩)
  have FC : Hid (∀ (u : Value), u ∈ flatO x.ops ivs → u.oneCell' = true) := Lib.hid (flatO_cells _ _ (fun k o iv ho hi => by obtain ⟨A, cp, e⟩ := (O9.out.ids k o iv ho hi).shape; exact ⟨A, _, cp, e⟩))
  have x7 : W10.cell? ⟨b2, 7, none⟩ = some (.slice A k cp) := X10.out.2 7 _ rfl
  clear hW hb
  go_upto_region 9 with (first | (refine wpl_build1 (q := failO) (A := none) (n := 0) (c := 0) rfl (by rfl) (by rfl) ?_; rw [← HW10.out, ← HB10.out]) | (at_builtin; refine wpList_append_obs2 _ rfl _ _ 35 rfl b10 27 i0 _ 14 144 Try.underlying35 hi hz0 hz1 hz2 rfl (by decide) _ 1 _ rfl N10.out _ _ k _ rfl O10.out.row FC.out (by unfold maxLen; omega) (by omega) S10.out.2 ?_; intro v11 w11 ho11 hb11 hg11; obtain ⟨A11, cp11, rfl, _⟩ := ho11.rd.shape; have NB := Lib.hid ho11; have HB11 := Lib.hid hb11; have y7 : w11.cell? ⟨b9, 7, none⟩ = some (.slice A k cp) := (Z10.out.below hb11 S10.out.1).cell 7; have f7 := (Z10.out.below hb11 S10.out.1).frozen 7; clear ho11 hb11 hg11))
  have BE : Below W9.heap.size W9 w11 := E10.out.trans (by have h1 := HB11.out; rw [HB10.out] at h1; exact h1)
  have Z11 := Lib.hid (Z9.out.below BE Z9.out.lt)
  have O11 := Lib.hid (O9.out.below BE)
  have X11 := Lib.hid (X9.out.below BE)
  have P11 := Lib.hid (P9.out.below BE)
  have Y11 := Lib.hid (Y9.out.below BE)
  have Q11 := Lib.hid (Q9.out.below BE)
  have U11 := Lib.hid (U9.out.below BE)
  have R11 := Lib.hid (R9.out.below BE)
  have V11 := Lib.hid (V9.out.below BE)
  have L11 := Lib.hid (L9.out.trans (BE.mono L9.out.size))
  clear BE x7 Z9 O9 X9 P9 Y9 Q9 U9 R9 V9 L9 E10 O10 X10 Z10 HW10 HB10 N10 HB11
  obtain ⟨W12, hW⟩ : ∃ W, W = w11.setCell ⟨b9, 7, none⟩ (.slice A11 (1 + k) cp11) := ⟨_, rfl⟩
  rw [← hW]
  have s9 := S9.out
  have s10 := S10.out
  obtain ⟨x', hx'⟩ : ∃ x' : SD, x' = { x with ops := failO :: x.ops } := ⟨_, rfl⟩
  have BT : Below b9 w11 W12 := by rw [hW]; exact (Below.refl _ _).setCell (by dsimp only; omega) _
  have Z12 : Hid (Blk W12 b9 37 (vxC x' (.slice A11 (1 + k) cp11))) := Lib.hid (by rw [hW, hx']; exact Z11.out.set_ 7 _)
  have X12 := Lib.hid (X11.out.belowB BT s9.1)
  have Y12 := Lib.hid (Y11.out.belowB BT s9.2.1)
  have U12 := Lib.hid (U11.out.belowB BT s9.2.2.1)
  have V12 := Lib.hid (V11.out.belowB BT s9.2.2.2)
  have GS := (Grew.refl w11 b9).set_ 7 (.slice A11 (1 + k) cp11)
  rw [← hW] at GS
  have O12 := Lib.hid (O11.out.grewNe GS (fun q hq => by have := HOV.out.1 q hq; omega) (fun a ha q hq => by have := HOV.out.2 a ha q hq; omega))
  have P12 := Lib.hid (P11.out.grewNe GS (fun q hq => Nat.ne_of_lt (T9.out.1 q hq)) (fun a ha q hq => Nat.ne_of_lt (T9.out.2 a ha q hq)))
  have Q12 := Lib.hid (Q11.out.grew GS (fun q hq => Nat.ne_of_lt (T9'.out.1 q hq)))
  have R12 := Lib.hid (R11.out.grew GS (fun q hq => Nat.ne_of_lt (T9'.out.2 q hq)))
  have NR : Hid (Obs W12 b10 14 (.slice A11 (1 + k) cp11) (1 + k) (voC failO (.slice none 0 0) ++ flatO x.ops ivs)) := Lib.hid (by rw [hW]; exact NB.out.far (by dsimp only; omega) _)
  have L12 := Lib.hid (L11.out.trans (BT.mono SW.out))
  have DR : Hid (RdO W12 (.slice A11 (1 + k) cp11) (1 + k) x'.ops (.slice none 0 0 :: ivs)) := Lib.hid (by
    rw [hx']
    refine ⟨(by show (failO :: x.ops).length = _; rw [List.length_cons, HKN.out]; omega), (by rw [List.length_cons, O12.out.li]; omega), NR.out.rd, fun j o iv ho hi => ?_⟩
    cases j with
    | zero =>
      simp only [List.getElem?_cons_zero, Option.some.injEq] at ho hi
      subst ho; subst hi
      exact (Obs.nil W12 0 1).rd
    | succ j => exact (O12.out.ids j o iv ho hi).rd)
  have HNX : Hid ((∀ o ∈ x'.ops, o.ids.length ≤ 4294967296) ∧ firstO x'.ops 9 = some failO) := Lib.hid (by
    rw [hx']
    refine ⟨fun o ho => ?_, firstO_fail _⟩
    rcases List.mem_cons.1 ho with rfl | ho
    · exact Nat.zero_le _
    · exact HNI.out o ho)
  clear hW hx' BT GS y7 f7 Z11 O11 X11 P11 Y11 Q11 U11 R11 V11 L11 NB s9 s10 NR
  go_wp2_with (first | (refine wpl_segI (q := x') rfl (by rfl) (by rfl) (Bx.of_blk Z12.out) ?_) | (refine wpl_segI (q := x) rfl (by rfl) (by rfl) Y12.out ?_))
  refine (firstOpt_i x' A11 (1 + k) cp11 _ 9 _ DR.out HNX.out.1).mono ?_
  rw [HNX.out.2]
  rintro e w13 ⟨iv13, rfl, ho, hb⟩
  dsimp only [Option.getD, Option.isSome] at ho ⊢
  obtain ⟨A13, cp13, rfl⟩ := ho.shape
  clear ho Z12 DR
  have O13 := Lib.hid (O12.out.below hb)
  have X13 := Lib.hid (X12.out.below hb)
  have P13 := Lib.hid (P12.out.below hb)
  have Y13 := Lib.hid (Y12.out.below hb)
  have Q13 := Lib.hid (Q12.out.below hb)
  have U13 := Lib.hid (U12.out.below hb)
  have R13 := Lib.hid (R12.out.below hb)
  have V13 := Lib.hid (V12.out.below hb)
  have L13 := Lib.hid (L12.out.trans (hb.mono L12.out.size))
  clear hb O12 X12 P12 Y12 Q12 U12 R12 V12 L12
  go_upto_region 10 with ((refine wpl_store_opt rfl (by rfl) (by rfl) (by rfl) ?_))
  obtain ⟨W14, hW⟩ : ∃ W, W = w13.alloc (.cells (voC failO (.slice A13 failO.ids.length cp13)).toArray 27) := ⟨_, rfl⟩
  rw [← hW]
  obtain ⟨b14, hb⟩ : ∃ b, b = w13.heap.size := ⟨_, rfl⟩
  have M14 := Lib.hid (Bx.new w13 (voC failO (.slice A13 failO.ids.length cp13)).toArray 27)
  have E := Lib.hid ((Below.refl w13.heap.size w13).alloc (Nat.le_refl _) (.cells (voC failO (.slice A13 failO.ids.length cp13)).toArray 27))
  rw [← hW] at M14 E
  rw [← hb] at M14 ⊢
  have O14 := Lib.hid (O13.out.below E.out)
  have X14 := Lib.hid (X13.out.below E.out)
  have P14 := Lib.hid (P13.out.below E.out)
  have Y14 := Lib.hid (Y13.out.below E.out)
  have Q14 := Lib.hid (Q13.out.below E.out)
  have U14 := Lib.hid (U13.out.below E.out)
  have R14 := Lib.hid (R13.out.below E.out)
  have V14 := Lib.hid (V13.out.below E.out)
  have L14 := Lib.hid (L13.out.trans (E.out.mono L13.out.size))
  clear hW E O13 X13 P13 Y13 Q13 U13 R13 V13 L13
  clear hb
  have m6 : W14.cell? ⟨b14, 6, none⟩ = some (.int .i64 5) := M14.out.2 6 _ rfl
  have u0 : W14.cell? ⟨b6, 0, none⟩ = some (.int .i64 o.k) := U14.out.2 0 _ rfl
  go_wp2_with (first | (refine wpl_optGd (o := o) (by simp [Region.wanted, yielded, Act.put]) (by rfl) (by rfl) U14.out ?_) | (refine wpl_optGd (o := o) (by simp [Region.wanted, yielded, Act.put]) (by rfl) (by rfl) V14.out ?_))
  refine (sameOpt_l o o _ _ _ _ _ Q14.out.rd R14.out.rd).mono ?_
  rw [sameOD_self]
  rintro e w15 ⟨rfl, hb⟩
  have u15 : w15.cell? ⟨b6, 0, none⟩ = some (.int .i64 o.k) := (U14.out.below hb).2 0 _ rfl
  clear m6 u0 Q14 R14 U14 V14
  have O15 := Lib.hid (O14.out.below hb)
  have X15 := Lib.hid (X14.out.below hb)
  have P15 := Lib.hid (P14.out.below hb)
  have Y15 := Lib.hid (Y14.out.below hb)
  have L15 := Lib.hid (L14.out.trans (hb.mono L14.out.size))
  clear hb O14 X14 P14 Y14 L14
  have hko : o.k = (kd : Int) := HKO.out
  go_wp2_with (first | (refine wpl_segG (q := x) (by simp [Region.wanted, yielded, Act.put]) (by rfl) (by rfl) X15.out ?_) | (refine wpl_segG (q := x) (by simp [Region.wanted, yielded, Act.put]) (by rfl) (by rfl) Y15.out ?_))
  refine (sameSeg_l x A A3 k cp cp3 _ _ _ O15.out.rd P15.out.rd).mono ?_
  rintro e w16 ⟨rfl, hb⟩
  have L16 := Lib.hid (L15.out.trans (hb.mono L15.out.size))
  clear hb
  go_wp2
  go_ret
  exact ⟨rfl, L16.out⟩
theorem law_FnFirst (v : Value) (n : Nat) (xs : List Int) (w : World) (hv : Rd w 1 v n (xs.map (Value.int .u8))) (hz : ∀ x ∈ xs, (Lit.int .u8 x).wf = true) :
    Calls Try.prog 5 #[v] w fun e w' => e = .returned (.bool true) ∧ Below w.heap.size w w' := by
  by_cases hb : 1048576 < n
  · have HV := Lib.hid hv
    have HB : Hid (decide (1048576 < (n : Int)) = true) := Lib.hid (by simp; omega)
    clear hv hz hb
    go_enter Try.func5, Try.ntmps5
    go_wp2_with fail
    refine (big_l v n _ _ HV.out).mono ?_
    rw [HB.out]
    rintro e w0 ⟨rfl, rfl⟩
    go_wp2
    go_ret
    exact ⟨rfl, Below.refl _ _⟩
  · cases hf : firstO (segA xs (newS xs n)).1.ops ((1 + belowX xs 10 (segA xs (newS xs n)).2 : Nat) : Int) with
    | none => exact first_no _ _ v n xs w hv hz (by omega) rfl rfl hf
    | some o => exact first_yes _ _ o v n xs w hv hz (by omega) rfl rfl hf
end Go.Proofs.Ytkgbkgonlopciaa

namespace Go.Proofs.Ytkgbkgonlopciaa
open Go.ChangeShapes Go.WideShapes Go.ChangeAt Go.RowKit
open Go.ChangeMaps (open_string shut_string)
set_option linter.unusedVariables false
set_option linter.unusedSimpArgs false

theorem own : ownKnob Try.prog.godebug = none := by kernel_rfl
theorem laid_out : laidOutB Try.prog = true := by kernel_rfl
theorem rd_s : Try.prog.readableRec 9 = true ∧ 9 < Try.prog.types.size := ⟨by kernel_rfl, of_decide_eq_true (by kernel_rfl)⟩
theorem rd_i : Try.prog.readableRec 3 = true ∧ 3 < Try.prog.types.size := ⟨by kernel_rfl, of_decide_eq_true (by kernel_rfl)⟩
theorem rd_B : Try.prog.readableRec 40 = true ∧ 40 < Try.prog.types.size := ⟨by kernel_rfl, of_decide_eq_true (by kernel_rfl)⟩
theorem cells_u8 : Try.prog.cellsOf 5 = 1 := by kernel_rfl

set_option maxRecDepth 100000 in
theorem lifted_FnFirst (walk : ∀ (v0 : Value) (n0 : Nat) (x0 : List Int) (W : World) (w0 : Rd W 1 v0 n0 (x0.map (Value.int .u8))) (z0 : ∀ x ∈ x0, (Lit.int .u8 x).wf = true), Calls Try.prog 5 #[v0] W fun e w' => e = .returned (.bool true) ∧ Below W.heap.size W w') (os : Os) (started : os.Started) (H : Type) (enc : TypeId × Value → H) :
    ReturnsInHanded {} Try.checked os 5 .any (Rows.fnFirstSpec.pre6 enc Try.prog Try.f5 Rows.fnFirstRow.domain false) (Rows.fnFirstSpec.post enc Try.prog Try.f5 false true false false) := by
  refine returnsInHanded_of_change (C := Try.checked) own started (by kernel_rfl) Try.func5
    (ChangeSpec.witness6 (enc := enc) (C := Try.checked) false ⟨#[], #[.slice none 0 0], []⟩ 8 (by kernel_rfl) (by kernel_rfl) (by kernel_rfl) (by kernel_rfl)) ?_
  intro W base args ds gs before hval0 hW hcnd _
  have hval : ∀ (j : Nat) t v, Try.f5.params[j]? = some t → args[j]? = some v → Value.okWide Try.prog W .any base t v := hval0
  have hW' := hW
  obtain ⟨p, q, hA0, hV, rfl, hfz, hnd⟩ := hW
  have hA : DataW.TrodAll enc Try.prog W 0 (fun _ => true) true Try.f5.params.toList args.toList ds p := hA0
  rw [Try.params5] at hA hval
  obtain ⟨v0, vs0, d0, ds0, p0, q0, hargs, rfl, rfl, h0, r0⟩ := trodAll_cons hA
  obtain ⟨rfl, rfl, rfl⟩ := trodAll_nil r0
  obtain rfl : args = #[v0] := by cases args; simp_all
  obtain ⟨rfl, rfl⟩ := trodVars_none hV
  obtain ⟨n0, x0, w0, z0⟩ := rd_ints Try.underlying40 Try.underlying5 cells_u8 (hval 0 40 v0 rfl rfl) h0
  clear hA0 hval0
  refine (walk v0 n0 x0 W w0 z0).mono fun e W' ⟨he, hg⟩ => ?_
  subst he
  exact ⟨_, rfl, law_post (P := Try.prog) Try.underlying4 rfl rfl laid_out (by rw [Try.params5]; exact List.forall_mem_cons.2 ⟨rd_B, List.forall_mem_nil _⟩) hW' rfl rfl rfl hg⟩

theorem over_FnFirst (walk : ∀ (v0 : Value) (n0 : Nat) (x0 : List Int) (W : World) (w0 : Rd W 1 v0 n0 (x0.map (Value.int .u8))) (z0 : ∀ x ∈ x0, (Lit.int .u8 x).wf = true), Calls Try.prog 5 #[v0] W fun e w' => e = .returned (.bool true) ∧ Below W.heap.size W w') : Rows.FnFirstSaid :=
  OpenClaim.holds_of_wide 5 Try.f5 rfl rfl rfl rfl rfl rfl rfl ⟨rfl, rfl, rfl, rfl, rfl⟩ rfl rfl rfl rfl rfl (by kernel_rfl) Try.func5 (by kernel_rfl)
    (of_decide_eq_true (by kernel_rfl)) (by unfold Func.isWrapper; first | (rw [if_pos (by decide +kernel)]; kernel_rfl) | (rw [if_neg (by decide +kernel)]; exact ⟨rfl, rfl⟩))
    (fun os started H enc _ => lifted_FnFirst walk os started H enc)

theorem FnFirst_holds : Rows.FnFirstSaid := over_FnFirst law_FnFirst
#print axioms FnFirst_holds

end Go.Proofs.Ytkgbkgonlopciaa
