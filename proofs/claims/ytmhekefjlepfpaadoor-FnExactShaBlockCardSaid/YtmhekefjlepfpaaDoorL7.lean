/- The walk of the law on ShaBlock. -/
import Derived.Test.YtmhekefjlepfpaaDoorProg
import Derived.Test.YtmhekefjlepfpaaDoorK
import Derived.Test.YtmhekefjlepfpaaDoorK2
import Derived.Test.YtmhekefjlepfpaaDoorK4
import Derived.Test.YtmhekefjlepfpaaDoorB4
import Derived.Test.YtmhekefjlepfpaaDoorB12
import Derived.Test.YtmhekefjlepfpaaDoorB13
import Derived.Test.YtmhekefjlepfpaaDoorM1
import Derived.Outline
namespace Go.Proofs.YtmhekefjlepfpaaDoor
open Go.RowKit
set_option linter.unusedVariables false
set_option linter.unusedSimpArgs false

theorem Obs.apart {w w' : World} {B size n : Nat} {v v' : Value} {xs : List Value} (h : Obs w B size v n xs) (h' : ∀ g, v'.ownBlock = some g → g < B) (ho : Only w w' v') : Obs w' B size v n xs :=
  h.same ho.size (fun g hg => ho.block g (h.lt g hg).2 (by intro e; have := h' g e.symm; have := (h.lt g hg).1; omega))
theorem law_ShaBlock (v : Value) (n : Nat) (xs : List Int) (b : ByteArray) (w : World) (hv : Rd w 1 v n (xs.map vn)) (hx : ∀ x ∈ xs, (Lit.int .i64 x).wf = true) (hb : b.size ≤ maxLen) (hK : HoldsK w) :
    Calls Tryd.prog 8 #[v, .string b] w fun e w' => e = .returned (.bool true) ∧ Below w.heap.size w w' := by
  unfold maxLen at hb
  clear hx
  obtain ⟨A, cap, rfl, hm⟩ := hv.shape
  unfold maxLen at hm
  by_cases h1 : n ≤ 1048576
  case neg =>
    clear hv hK
    go_enter Tryd.func8, Tryd.ntmps8
    go_wp2
    go_ret
    exact ⟨rfl, Below.refl _ _⟩
  by_cases h2 : b.size ≤ 1048576
  case neg =>
    clear hv hK
    go_enter Tryd.func8, Tryd.ntmps8
    go_wp2
    go_ret
    exact ⟨rfl, Below.refl _ _⟩
  have HV := Lib.hid hv
  have HK := Lib.hid hK
  clear hv hK
  obtain ⟨ys, hys⟩ : ∃ ys, ys = shaBlockL xs b := ⟨_, rfl⟩
  have HY := Lib.hid hys
  clear hys
  go_enter Tryd.func8, Tryd.ntmps8
  go_wp2_with fail
  refine (toIntS_l _ n xs _ HV.out (by omega)).mono ?_
  rintro e w1 ⟨t1, rfl, ho, hb1⟩
  have T1 := Lib.hid ho
  have L1 := Lib.hid hb1
  clear ho hb1
  go_wp2_with fail
  refine (shaBlock_s t1 n xs _ b _ T1.out (by omega)).mono ?_
  rintro e w2 ⟨v0, rfl, ho, hb2⟩
  rw [← HY.out] at ho
  have V0 := Lib.hid ho
  have L2 := Lib.hid (L1.out.trans (hb2.mono L1.out.size))
  clear ho hb2 T1
  go_wp2_with fail
  refine (toIntS_l _ n xs _ (HV.out.below L2.out) (by omega)).mono ?_
  rintro e w3 ⟨x0, rfl, ho, hb3⟩
  have X3 := Lib.hid ho
  have V3 := Lib.hid (V0.out.below hb3)
  have L3 := Lib.hid (L2.out.trans (hb3.mono L2.out.size))
  have S3 := Lib.hid hb3.size
  clear ho hb3
  go_wp2_with fail
  refine (shaBlock_i x0 n xs _ b _ X3.out (by omega) (HK.out.below L3.out)).mono ?_
  rintro e w4 ⟨g0, rfl, ho, hb4⟩
  rw [← HY.out] at ho
  have G4 := Lib.hid ho
  have X4 := Lib.hid (X3.out.below hb4)
  have V4 := Lib.hid (V3.out.below hb4)
  have L4 := Lib.hid (L3.out.trans (hb4.mono L3.out.size))
  have S4 := Lib.hid hb4.size
  clear ho hb4 V3
  go_wp2_with fail
  refine (eqIntS_l g0 v0 n ys _ G4.out.rd V4.out.rd).mono ?_
  rintro e w5 ⟨rfl, hb5⟩
  have G5 := Lib.hid (G4.out.below hb5)
  have X5 := Lib.hid (X4.out.below hb5)
  have V5 := Lib.hid (V4.out.below hb5)
  have L5 := Lib.hid (L4.out.trans (hb5.mono L4.out.size))
  clear hb5 G4 X4 V4
  go_wp2_with fail
  refine (toIntS_l _ n xs _ (HV.out.below L5.out) (by omega)).mono ?_
  rintro e w6 ⟨y0, rfl, ho, hb6⟩
  have Y6 := Lib.hid ho
  have G6 := Lib.hid (G5.out.below hb6)
  have X6 := Lib.hid (X5.out.below hb6)
  have V6 := Lib.hid (V5.out.below hb6)
  have L6 := Lib.hid (L5.out.trans (hb6.mono L5.out.size))
  clear ho hb6 G5 X5 V5
  go_wp2_with fail
  refine (eqIntS_l x0 y0 n xs _ X6.out.rd Y6.out.rd).mono ?_
  rintro e w7 ⟨rfl, hb7⟩
  have G7 := Lib.hid (G6.out.below hb7)
  have X7 := Lib.hid (X6.out.below hb7)
  have V7 := Lib.hid (V6.out.below hb7)
  have L7 := Lib.hid (L6.out.trans (hb7.mono L6.out.size))
  clear hb7 G6 X6 V6 Y6
  go_wp2_with fail
  refine (markIntS_l x0 n xs 1 w.heap.size _ L7.out.size (X7.out.mono L2.out.size) (by omega) (by omega)).mono ?_
  rintro e w8 ⟨rfl, _, hon⟩
  have G8 := Lib.hid (G7.out.apart (fun g hg => (X3.out.lt g hg).2) hon)
  have V8 := Lib.hid (V7.out.only (B' := w2.heap.size) (fun g hg => (V0.out.lt g hg).2) hon (fun g hg => (X3.out.lt g hg).1))
  have L8 := Lib.hid (Below.only L7.out hon (fun g hg => Nat.le_trans L2.out.size (X3.out.lt g hg).1) L7.out.size)
  clear hon G7 V7 X7
  go_wp2_with fail
  refine (eqIntS_l g0 v0 n ys _ G8.out.rd V8.out.rd).mono ?_
  rintro e w9 ⟨rfl, hb9⟩
  have G9 := Lib.hid (G8.out.below hb9)
  have V9 := Lib.hid (V8.out.below hb9)
  have L9 := Lib.hid (L8.out.trans (hb9.mono L8.out.size))
  clear hb9 G8 V8
  go_wp2_with fail
  refine (markIntS_l g0 n ys 1 w.heap.size _ L9.out.size (G9.out.mono L3.out.size) (by omega) (by omega)).mono ?_
  rintro e w10 ⟨rfl, hmk, hon⟩
  have M10 := Lib.hid hmk
  have V10 := Lib.hid (V9.out.only (B' := w2.heap.size) (fun g hg => (V0.out.lt g hg).2) hon (fun g hg => Nat.le_trans S3.out (G9.out.lt g hg).1))
  have L10 := Lib.hid (Below.only L9.out hon (fun g hg => Nat.le_trans L3.out.size (G9.out.lt g hg).1) L9.out.size)
  clear hon hmk G9 V9
  go_wp2_with fail
  refine (heldIntS_l g0 n 1 _ M10.out.rd (by omega) (by omega)).mono ?_
  rintro e w11 ⟨rfl, rfl⟩
  go_wp2_with fail
  refine (toIntS_l _ n xs _ (HV.out.below L10.out) (by omega)).mono ?_
  rintro e w12 ⟨z0, rfl, ho, hb12⟩
  have Z12 := Lib.hid ho
  have M12 := Lib.hid (M10.out.below hb12)
  have V12 := Lib.hid (V10.out.below hb12)
  have L12 := Lib.hid (L10.out.trans (hb12.mono L10.out.size))
  clear ho hb12 M10 V10
  go_wp2_with fail
  refine (shaBlock_i z0 n xs _ b _ Z12.out (by omega) (HK.out.below L12.out)).mono ?_
  rintro e w13 ⟨h0, rfl, ho, hb13⟩
  rw [← HY.out] at ho
  have H13 := Lib.hid ho
  have M13 := Lib.hid (M12.out.below hb13)
  have V13 := Lib.hid (V12.out.below hb13)
  have L13 := Lib.hid (L12.out.trans (hb13.mono L12.out.size))
  clear ho hb13 M12 V12
  go_wp2_with fail
  refine (eqIntS_l h0 v0 n ys _ H13.out.rd V13.out.rd).mono ?_
  rintro e w14 ⟨rfl, hb14⟩
  have M14 := Lib.hid (M13.out.below hb14)
  have L14 := Lib.hid (L13.out.trans (hb14.mono L13.out.size))
  clear hb14 M13 V13
  go_wp2_with fail
  refine (heldIntS_l g0 n 1 _ M14.out.rd (by omega) (by omega)).mono ?_
  rintro e w15 ⟨rfl, rfl⟩
  go_wp2
  go_ret
  exact ⟨rfl, L14.out⟩
end Go.Proofs.YtmhekefjlepfpaaDoor
