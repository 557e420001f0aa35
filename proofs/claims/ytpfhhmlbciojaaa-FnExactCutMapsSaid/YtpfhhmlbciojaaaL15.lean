/- The walk of the law of CutMaps. -/
import Derived.Test.YtpfhhmlbciojaaaProg
import Derived.Test.YtpfhhmlbciojaaaK
import Derived.Test.YtpfhhmlbciojaaaK2
import Derived.Test.YtpfhhmlbciojaaaK4
import Derived.Test.YtpfhhmlbciojaaaM4
import Derived.Test.YtpfhhmlbciojaaaM5
import Derived.Test.YtpfhhmlbciojaaaA11
namespace Go.Proofs.Ytpfhhmlbciojaaa
open Go.RowKit
set_option linter.unusedVariables false
set_option linter.unusedSimpArgs false
theorem Obs.onlyNe {w w' : World} {B size n : Nat} {v v' : Value} {xs : List Value} (h : Obs w B size v n xs) (ho : Only w w' v') (hne : ∀ g, v.ownBlock = some g → v'.ownBlock = some g → False) : Obs w' B size v n xs :=
  h.same ho.size (fun g hg => ho.block g (h.lt g hg).2 (by intro e; exact hne g hg e.symm))
set_option maxRecDepth 100000 in
set_option maxHeartbeats 1600000 in
theorem law_CutMaps (v : Value) (n : Nat) (xs : List Int) (a : Int) (w : World) (hv : Rd w 3 v n (xs.map vn)) (ha : (Lit.int .i64 a).wf = true) : Calls Try.prog 8 #[v, .int .i64 a] w fun e w' => e = .returned (.bool true) ∧ Below w.heap.size w w' := by
  have HV := Lib.hid hv
  clear hv ha
  by_cases hn : n ≤ 1048576
  case neg =>
    go_enter Try.func8, Try.ntmps8
    go_wp2_with fail
    refine (szMapS_l_big v n _ 1048576 _ HV.out (by omega) (by omega)).mono ?_
    rintro e w1 ⟨rfl, rfl⟩
    go_wp2
    go_ret
    exact ⟨rfl, Below.refl _ _⟩
  obtain ⟨q, hq⟩ : ∃ q, q = 1048576 - n := ⟨_, rfl⟩
  have HQ := Lib.hid hq
  clear hq
  obtain ⟨c, hc⟩ : ∃ c, c = cutC xs n a n := ⟨_, rfl⟩
  obtain ⟨ys, hy⟩ : ∃ c, c = cutL xs n a n := ⟨_, rfl⟩
  have hcn : c ≤ n := by rw [hc]; exact cutC_le _ _ _ _
  have KS : Hid (∀ (u : Value) (W : World), Rd W 3 u n (xs.map vn) → Calls Try.prog 31 #[u, .int .i64 a] W (GivesRow 3 c (ys.map vn) W)) := Lib.hid (fun u W h => by rw [hc, hy]; exact cutMaps_s u n xs a W h (by omega))
  have KI : Hid (∀ (u : Value) (B : Nat) (W : World), Obs W B 3 u n (xs.map vn) → Calls Try.prog 32 #[u, .int .i64 a] W (GivesRow 3 c (ys.map vn) W)) := Lib.hid (fun u B W h => by rw [hc, hy]; exact cutMaps_i u n xs a B W h (by omega))
  clear hc hy
  have HNN := Lib.hid hn
  have HCN := Lib.hid hcn
  clear hn hcn
  go_enter Try.func8, Try.ntmps8
  go_wp2_with fail
  refine (szMapS_l v n _ 1048576 _ HV.out (by omega) HNN.out).mono ?_
  rintro e w0 ⟨rfl, rfl⟩
  rw [← HQ.out]
  go_wp2_with fail
  refine (toMapS_l v n xs _ HV.out (by have := HNN.out; omega)).mono ?_
  rintro e w1 ⟨t1, rfl, ho1, hb1⟩
  have O1 := Lib.hid ho1
  have L1 := Lib.hid hb1
  clear ho1 hb1
  go_wp2_with fail
  refine (KS.out t1 _ O1.out.rd).mono ?_
  rintro e w2 ⟨v0, rfl, ho2, hb2⟩
  have OV2 := Lib.hid ho2
  have L2 := Lib.hid (L1.out.trans (hb2.mono L1.out.size))
  clear ho2 hb2
  have V2 := Lib.hid (HV.out.below L2.out)
  go_wp2_with fail
  refine (toMapS_l v n xs _ V2.out (by have := HNN.out; omega)).mono ?_
  rintro e w3 ⟨x0, rfl, ho3, hb3⟩
  have OX3 := Lib.hid ho3
  have OV3 := Lib.hid (OV2.out.below hb3)
  have S23 := Lib.hid hb3.size
  have L3 := Lib.hid (L2.out.trans (hb3.mono L2.out.size))
  clear ho3 hb3
  go_wp2_with fail
  refine (KI.out x0 _ _ OX3.out).mono ?_
  rintro e w4 ⟨g0, rfl, ho4, hb4⟩
  have OG4 := Lib.hid ho4
  have OX4 := Lib.hid (OX3.out.below hb4)
  have OV4 := Lib.hid (OV3.out.below hb4)
  have L4 := Lib.hid (L3.out.trans (hb4.mono L3.out.size))
  clear ho4 hb4
  have NXV : Hid (∀ g, v0.ownBlock = some g → x0.ownBlock = some g → False) := Lib.hid (fun g h1 h2 => by have := (OV2.out.lt g h1).2; have := (OX3.out.lt g h2).1; omega)
  have NXG : Hid (∀ g, g0.ownBlock = some g → x0.ownBlock = some g → False) := Lib.hid (fun g h1 h2 => by have := (OG4.out.lt g h1).1; have := (OX3.out.lt g h2).2; omega)
  have NGV : Hid (∀ g, v0.ownBlock = some g → g0.ownBlock = some g → False) := Lib.hid (fun g h1 h2 => by have := (OV2.out.lt g h1).2; have := (OG4.out.lt g h2).1; have := S23.out; omega)
  go_wp2_with fail
  refine (eqMapS_l g0 v0 c ys _ OG4.out.rd OV4.out.rd).mono ?_
  rintro e w5 ⟨rfl, hb5⟩
  have OG5 := Lib.hid (OG4.out.below hb5)
  have OX5 := Lib.hid (OX4.out.below hb5)
  have OV5 := Lib.hid (OV4.out.below hb5)
  have L5 := Lib.hid (L4.out.trans (hb5.mono L4.out.size))
  clear hb5
  have V5 := Lib.hid (HV.out.below L5.out)
  go_wp2_with fail
  refine (toMapS_l v n xs _ V5.out (by have := HNN.out; omega)).mono ?_
  rintro e w6 ⟨t2, rfl, ho6, hb6⟩
  have OT6 := Lib.hid ho6
  have OG6 := Lib.hid (OG5.out.below hb6)
  have OX6 := Lib.hid (OX5.out.below hb6)
  have OV6 := Lib.hid (OV5.out.below hb6)
  have L6 := Lib.hid (L5.out.trans (hb6.mono L5.out.size))
  clear ho6 hb6
  go_wp2_with fail
  refine (eqMapS_l x0 t2 n xs _ OX6.out.rd OT6.out.rd).mono ?_
  rintro e w7 ⟨rfl, hb7⟩
  have OG7 := Lib.hid (OG6.out.below hb7)
  have OX7 := Lib.hid (OX6.out.below hb7)
  have OV7 := Lib.hid (OV6.out.below hb7)
  have L7 := Lib.hid (L6.out.trans (hb7.mono L6.out.size))
  clear hb7
  go_wp2_with fail
  refine (markMapS_l x0 n xs 1 0 _ (Nat.zero_le _) (OX7.out.mono (Nat.zero_le _)) (by have := HNN.out; omega) (by omega)).mono ?_
  rintro e w8 ⟨rfl, hm8, hon8⟩
  have OG8 := Lib.hid (OG7.out.onlyNe hon8 NXG.out)
  have OV8 := Lib.hid (OV7.out.onlyNe hon8 NXV.out)
  have L8 := Lib.hid (Below.only L7.out hon8 (fun g hg => by have := (OX3.out.lt g hg).1; have := L2.out.size; omega) L7.out.size)
  clear hm8 hon8
  go_wp2_with fail
  refine (eqMapS_l g0 v0 c ys _ OG8.out.rd OV8.out.rd).mono ?_
  rintro e w9 ⟨rfl, hb9⟩
  have OG9 := Lib.hid (OG8.out.below hb9)
  have OV9 := Lib.hid (OV8.out.below hb9)
  have L9 := Lib.hid (L8.out.trans (hb9.mono L8.out.size))
  clear hb9
  go_wp2_with fail
  refine (markMapS_l g0 c ys 1 0 _ (Nat.zero_le _) (OG9.out.mono (Nat.zero_le _)) (by have := HNN.out; have := HCN.out; omega) (by omega)).mono ?_
  rintro e w10 ⟨rfl, hm10, hon10⟩
  have OG10 := Lib.hid hm10
  have OV10 := Lib.hid (OV9.out.onlyNe hon10 NGV.out)
  have L10 := Lib.hid (Below.only L9.out hon10 (fun g hg => by have := (OG4.out.lt g hg).1; have := L3.out.size; omega) L9.out.size)
  clear hm10 hon10
  go_wp2_with fail
  refine (heldMapS_l g0 c 1 _ OG10.out.rd (by have := HNN.out; have := HCN.out; omega) (by omega)).mono ?_
  rintro e w10' ⟨rfl, rfl⟩
  have V10 := Lib.hid (HV.out.below L10.out)
  go_wp2_with fail
  refine (toMapS_l v n xs _ V10.out (by have := HNN.out; omega)).mono ?_
  rintro e w11 ⟨t3, rfl, ho11, hb11⟩
  have OT11 := Lib.hid ho11
  have OG11 := Lib.hid (OG10.out.below hb11)
  have OV11 := Lib.hid (OV10.out.below hb11)
  have L11 := Lib.hid (L10.out.trans (hb11.mono L10.out.size))
  clear ho11 hb11
  go_wp2_with fail
  refine (KI.out t3 _ _ OT11.out).mono ?_
  rintro e w12 ⟨h0, rfl, ho12, hb12⟩
  have OH12 := Lib.hid ho12
  have OG12 := Lib.hid (OG11.out.below hb12)
  have OV12 := Lib.hid (OV11.out.below hb12)
  have L12 := Lib.hid (L11.out.trans (hb12.mono L11.out.size))
  clear ho12 hb12
  go_wp2_with fail
  refine (eqMapS_l h0 v0 c ys _ OH12.out.rd OV12.out.rd).mono ?_
  rintro e w13 ⟨rfl, hb13⟩
  have OG13 := Lib.hid (OG12.out.below hb13)
  have L13 := Lib.hid (L12.out.trans (hb13.mono L12.out.size))
  clear hb13
  go_wp2_with fail
  refine (heldMapS_l g0 c 1 _ OG13.out.rd (by have := HNN.out; have := HCN.out; omega) (by omega)).mono ?_
  rintro e w13' ⟨rfl, rfl⟩
  go_wp2
  go_ret
  exact ⟨rfl, L13.out⟩
end Go.Proofs.Ytpfhhmlbciojaaa
