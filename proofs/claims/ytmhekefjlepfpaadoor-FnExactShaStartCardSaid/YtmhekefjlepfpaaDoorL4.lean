/- The walks of the laws on the digest's words. -/
import Derived.Test.YtmhekefjlepfpaaDoorProg
import Derived.Test.YtmhekefjlepfpaaDoorK
import Derived.Test.YtmhekefjlepfpaaDoorK2
import Derived.Test.YtmhekefjlepfpaaDoorK4
import Derived.Test.YtmhekefjlepfpaaDoorB4
import Derived.Test.YtmhekefjlepfpaaDoorB5
import Derived.Test.YtmhekefjlepfpaaDoorM1
import Derived.Outline
namespace Go.Proofs.YtmhekefjlepfpaaDoor
open Go.RowKit
set_option linter.unusedVariables false
set_option linter.unusedSimpArgs false

/-- the words as numbers -/
def stI (s : St) : List Int := (stl s).map fun (x : Nat) => (x : Int)
theorem stI_vu (s : St) : (stl s).map vu = (stI s).map vn := by simp [stI]; intro a _; rfl

theorem law_ShaStart (w : World) (hS : HoldsS w) : Calls Tryd.prog 3 #[] w fun e w' => e = .returned (.bool true) ∧ Below w.heap.size w w' := by
  have HS := Lib.hid hS
  clear hS
  go_enter Tryd.func3, Tryd.ntmps3
  go_wp2_with fail
  refine (shaStart_s _).mono ?_
  rintro e w1 ⟨v0, rfl, ho0, hb1⟩
  rw [stI_vu] at ho0
  have O0 := Lib.hid ho0
  have L1 := Lib.hid hb1
  clear ho0 hb1
  go_wp2_with fail
  refine (shaStart_i _ (HS.out.below L1.out)).mono ?_
  rintro e w2 ⟨g0, rfl, hog, hb2⟩
  rw [stI_vu] at hog
  have OG := Lib.hid hog
  have L2 := Lib.hid hb2
  clear hog hb2
  have O02 := Lib.hid (O0.out.below L2.out)
  go_wp2_with fail
  refine (eqIntS_l g0 v0 8 (stI start0) _ OG.out.rd O02.out.rd).mono ?_
  rintro e w3 ⟨rfl, hb3⟩
  have L3 := Lib.hid hb3
  clear hb3
  have OG3 := Lib.hid (OG.out.below L3.out)
  have O03 := Lib.hid (O02.out.below L3.out)
  go_wp2_with fail
  refine (markIntS_l g0 8 (stI start0) 1 w1.heap.size _ (Nat.le_trans L2.out.size L3.out.size) OG3.out (by omega) (by omega)).mono ?_
  rintro e w4 ⟨rfl, hm4, hon⟩
  have OG4 := Lib.hid hm4
  have ON := Lib.hid hon
  clear hm4 hon
  go_wp2_with fail
  refine (heldIntS_l g0 8 1 _ OG4.out.rd (by omega) (by omega)).mono ?_
  rintro e w5 ⟨rfl, rfl⟩
  have L4 : Hid (Below w1.heap.size w1 w4) := Lib.hid (Below.only (L2.out.trans (L3.out.mono L2.out.size)) ON.out (fun g hg => (OG3.out.lt g hg).1) (Nat.le_trans L2.out.size L3.out.size))
  have O04 := Lib.hid (O0.out.below L4.out)
  go_wp2_with fail
  refine (shaStart_i _ (HS.out.below (L1.out.trans (L4.out.mono L1.out.size)))).mono ?_
  rintro e w6 ⟨h0, rfl, hoh, hb6⟩
  rw [stI_vu] at hoh
  have OH := Lib.hid hoh
  have L6 := Lib.hid hb6
  clear hoh hb6
  have OG6 := Lib.hid (OG4.out.below L6.out)
  have O06 := Lib.hid (O04.out.below L6.out)
  go_wp2_with fail
  refine (eqIntS_l h0 v0 8 (stI start0) _ OH.out.rd O06.out.rd).mono ?_
  rintro e w7 ⟨rfl, hb7⟩
  have L7 := Lib.hid hb7
  clear hb7
  have OG7 := Lib.hid (OG6.out.below L7.out)
  go_wp2_with fail
  refine (heldIntS_l g0 8 1 _ OG7.out.rd (by omega) (by omega)).mono ?_
  rintro e w8 ⟨rfl, rfl⟩
  go_wp2
  go_ret
  refine ⟨rfl, ?_⟩
  exact (L1.out.trans (L4.out.mono L1.out.size)).trans ((L6.out.trans (L7.out.mono L6.out.size)).mono (Nat.le_trans L1.out.size L4.out.size))
end Go.Proofs.YtmhekefjlepfpaaDoor
