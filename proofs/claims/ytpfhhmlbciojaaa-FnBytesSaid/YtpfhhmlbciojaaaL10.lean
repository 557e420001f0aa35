/- The walk of the law on numbers in bytes. -/
import Derived.Test.YtpfhhmlbciojaaaProg
import Derived.Test.YtpfhhmlbciojaaaK
import Derived.Test.YtpfhhmlbciojaaaK2
import Derived.Test.YtpfhhmlbciojaaaK3
import Derived.Test.YtpfhhmlbciojaaaK4
import Derived.Test.YtpfhhmlbciojaaaN
import Derived.Test.YtpfhhmlbciojaaaA2
import Derived.Test.YtpfhhmlbciojaaaA5
import Derived.Test.YtpfhhmlbciojaaaA6
import Derived.Test.YtpfhhmlbciojaaaP1
import Derived.Test.YtpfhhmlbciojaaaD4
import Derived.Test.YtpfhhmlbciojaaaM2
import Derived.StillTailTactics
import Derived.Outline
namespace Go.Proofs.Ytpfhhmlbciojaaa
open Go.RowKit
set_option linter.unusedVariables false
set_option linter.unusedSimpArgs false

theorem str_add (a b : List UInt8) : str a ++ str b = str (a ++ b) := by
  unfold str
  simp [ByteArray.ext_iff]
theorem decL_len (n : Nat) : (decL (n : Int)).length ≤ 20 := by
  unfold decL
  rw [if_neg (by omega)]
  have := decD_len n
  simpa using this
/-- a number behind some bytes is read back -/
theorem num_mid (l z : List UInt8) (n W : Nat) (h1 : 1 ≤ W) (h6 : W ≤ 6) (h : n < 256 ^ W) : numAtB (str (l ++ (be n W ++ z))) l.length W = true ∧ numAtN (str (l ++ (be n W ++ z))) l.length W = n := by
  have hp : be n W <+: (str (l ++ (be n W ++ z))).data.toList.drop l.length := by
    rw [str_toList, List.drop_left]
    exact List.prefix_append _ _
  have := pre_num hp (by rw [be_len]; exact h1) (by rw [be_len]; exact h6)
  rw [be_len, ofBe_be n W h] at this
  exact this
set_option maxRecDepth 100000 in
set_option maxHeartbeats 1000000 in
theorem law_FnBytes (v : Value) (n : Nat) (xs : List Int) (w : World) (hv : Rd w 1 v n (xs.map (Value.int .u8))) (hx : ∀ x ∈ xs, (Lit.int .u8 x).wf = true) :
    Calls Try.prog 3 #[v] w fun e w' => e = .returned (.bool true) ∧ Below w.heap.size w w' := by
  have HV := Lib.hid hv
  have HX := Lib.hid (u8_range hx)
  clear hv hx
  by_cases hb : n ≤ 1048576
  case neg =>
    go_enter Try.func3, Try.ntmps3
    go_wp2_with fail
    refine (big_l v n _ _ HV.out).mono ?_
    rintro e w1 ⟨rfl, rfl⟩
    go_wp2
    go_ret
    exact ⟨rfl, Below.refl _ _⟩
  have HB : Hid (decide (1048576 < (n : Int)) = false) := Lib.hid (by simp; omega)
  have HN := Lib.hid hb
  clear hb
  go_enter Try.func3, Try.ntmps3
  go_wp2_with fail
  refine (big_l v n _ _ HV.out).mono ?_
  rintro e w1 ⟨rfl, rfl⟩
  rw [HB.out]
  go_wp2_with fail
  refine (drawPlaces_s v n xs _ HV.out HX.out HN.out).mono ?_
  rintro e w1 ⟨g, cap, l, hl, hl4, rfl, ho, hb1⟩
  match l, hl with
  | [a0, a1, a2, a3, a4, a5, a6, a7, a8, a9, a10, a11], _ =>
  have b0 : a0 < 10000 := hl4 a0 (by simp)
  have b1 : a1 < 10000 := hl4 a1 (by simp)
  have b2 : a2 < 10000 := hl4 a2 (by simp)
  have b3 : a3 < 10000 := hl4 a3 (by simp)
  have c0 : w1.cell? ⟨g, 0, none⟩ = some (.int .i64 (a0 : Int)) := (ho.cellAt rfl).1
  have c1 : w1.cell? ⟨g, 1, none⟩ = some (.int .i64 (a1 : Int)) := (ho.cellAt rfl).1
  have c2 : w1.cell? ⟨g, 2, none⟩ = some (.int .i64 (a2 : Int)) := (ho.cellAt rfl).1
  have c3 : w1.cell? ⟨g, 3, none⟩ = some (.int .i64 (a3 : Int)) := (ho.cellAt rfl).1
  have hgl := (ho.lt g rfl).2
  have L1 := Lib.hid hb1
  clear ho hb1 hl4
  obtain ⟨N, hN⟩ : ∃ N, N = a0 * 10000 + a1 := ⟨_, rfl⟩
  have hNi : (a0 : Int) * 10000 + (a1 : Int) = (N : Int) := by omega
  have hW : IntKind.i64.wrap (IntKind.i64.wrap ((a0 : Int) * 10000) + (a1 : Int)) = (N : Int) := by rw [IntWalk.i64_in ((a0 : Int) * 10000) (by omega), IntWalk.i64_in _ (by omega), hNi]
  have hN4 : N < 4294967296 := by omega
  clear hN
  obtain ⟨M, hM⟩ : ∃ M, M = a2 % 256 := ⟨_, rfl⟩
  have hMi : (a2 : Int) % 256 = (M : Int) := by omega
  have hM1 : M < 256 := by omega
  clear hM
  obtain ⟨S, hS⟩ : ∃ S, S = str (be N 4) := ⟨_, rfl⟩
  obtain ⟨T, hT⟩ : ∃ T, T = str (be M 1) := ⟨_, rfl⟩
  obtain ⟨H, hH⟩ : ∃ H, H = str (decL (a3 : Int)) := ⟨_, rfl⟩
  obtain ⟨q, hq⟩ : ∃ q, q = H.size := ⟨_, rfl⟩
  have hql : q = (decL (a3 : Int)).length := by rw [hq, hH, str_size]
  have hq20 : q ≤ 20 := by rw [hql]; exact decL_len a3
  have sS : S.size = 4 := by rw [hS, str_size, be_len]
  have sT : T.size = 1 := by rw [hT, str_size, be_len]
  obtain ⟨X, hX⟩ : ∃ X, X = H ++ S ++ T := ⟨_, rfl⟩
  obtain ⟨Y, hY⟩ : ∃ Y, Y = H ++ S := ⟨_, rfl⟩
  have sX : X.size = q + 5 := by rw [hX, ByteArray.size_append, ByteArray.size_append]; omega
  have sY : Y.size = q + 4 := by rw [hY, ByteArray.size_append]; omega
  have eX : X = str (decL (a3 : Int) ++ (be N 4 ++ be M 1)) := by rw [hX, hH, hS, hT, str_add, str_add, List.append_assoc]
  have eX2 : X = str ((decL (a3 : Int) ++ be N 4) ++ (be M 1 ++ [])) := by rw [eX, List.append_nil, List.append_assoc]
  have eY : Y = str (decL (a3 : Int) ++ (be N 4 ++ [])) := by rw [hY, hH, hS, str_add, List.append_nil]
  have r1 := num_mid (decL (a3 : Int)) (be M 1) N 4 (by omega) (by omega) (by omega)
  rw [← eX, ← hql] at r1
  have r2 := num_mid (decL (a3 : Int) ++ be N 4) [] M 1 (by omega) (by omega) (by omega)
  rw [← eX2, List.length_append, be_len, ← hql] at r2
  have r3 : textAtB Y q 4 = true ∧ textAtS Y q 4 = S := by
    have hp : be N 4 <+: Y.data.toList.drop q := by
      rw [eY, str_toList, hql, List.drop_left]
      exact List.prefix_append _ _
    have := pre_text hp (by rw [be_len, sY]; omega)
    rw [be_len] at this
    rw [hS]; exact this
  have r4 : numAtB Y ((q : Int) + 1) 4 = false := by
    unfold numAtB textAtB
    rw [sY]
    simp
    omega
  have R1 : Hid (numAtB X (q : Int) 4 = true ∧ numAtN X (q : Int) 4 = N) := Lib.hid r1
  have R2 : Hid (numAtB X ((q + 4 : Nat) : Int) 1 = true ∧ numAtN X ((q + 4 : Nat) : Int) 1 = M) := Lib.hid r2
  have R3 : Hid (textAtB Y (q : Int) 4 = true ∧ textAtS Y (q : Int) 4 = S) := Lib.hid r3
  have R4 := Lib.hid r4
  have HXx := Lib.hid hX
  have HYy := Lib.hid hY
  have HS := Lib.hid hS
  have HT := Lib.hid hT
  have HH := Lib.hid hH
  have HQ : H.size = q := hq.symm
  have HE : Hid ((str []).toList.isEmpty = true) := Lib.hid (by rw [ByteArray.toList_eq]; rfl)
  clear hX hY hS hT hH hq hql eX eX2 eY r1 r2 r3 r4
  go_wp2
  refine wp_region_still_lit (by kernel_rfl) (by kernel_rfl) ?_
  change wpStill _ _ (World.drew w1) (fun a' => Exit.then _ _ Exit.normal a' (World.drew w1)) _ _
  repeat still_step
  refine wpStill_nil ?_
  go_wp2_with fail
  refine (numText_i_yes N 4 _ (by omega) (by omega) (by omega)).mono ?_
  rintro e w2 ⟨rfl, hb2⟩
  have L2 := Lib.hid (L1.out.drew.trans (hb2.mono L1.out.size))
  have d2 : w2.cell? ⟨g, 2, none⟩ = some (.int .i64 (a2 : Int)) := (hb2.cell (p := ⟨g, 2, none⟩) hgl).trans c2
  have d3 : w2.cell? ⟨g, 3, none⟩ = some (.int .i64 (a3 : Int)) := (hb2.cell (p := ⟨g, 3, none⟩) hgl).trans c3
  have hgl2 : g < w2.heap.size := Nat.lt_of_lt_of_le hgl hb2.size
  clear hb2 c0 c1 c2 c3 hgl
  rw [← HS.out]
  go_wp2_with fail
  refine (numText_i_yes M 1 _ (by omega) (by omega) (by omega)).mono ?_
  rintro e w3 ⟨rfl, hb3⟩
  have L3 := Lib.hid (L2.out.trans (hb3.mono L2.out.size))
  have e2 : w3.cell? ⟨g, 2, none⟩ = some (.int .i64 (a2 : Int)) := (hb3.cell (p := ⟨g, 2, none⟩) hgl2).trans d2
  have e3 : w3.cell? ⟨g, 3, none⟩ = some (.int .i64 (a3 : Int)) := (hb3.cell (p := ⟨g, 3, none⟩) hgl2).trans d3
  have hgl3 : g < w3.heap.size := Nat.lt_of_lt_of_le hgl2 hb3.size
  clear hb3 d2 d3 hgl2
  rw [← HT.out]
  go_wp2_with fail
  refine (decimal_i (a3 : Int) _ (WalkArith.wf_i64 (by omega))).mono ?_
  rintro e w4 ⟨rfl, hb4⟩
  have L4 := Lib.hid (L3.out.trans (hb4.mono L3.out.size))
  have f2 : w4.cell? ⟨g, 2, none⟩ = some (.int .i64 (a2 : Int)) := (hb4.cell (p := ⟨g, 2, none⟩) hgl3).trans e2
  have hgl4 : g < w4.heap.size := Nat.lt_of_lt_of_le hgl3 hb4.size
  clear hb4 e2 e3 hgl3
  rw [← HH.out]
  go_wp2_with fail
  rw [← HXx.out]
  refine (numAt_i X q 4 _ (by omega)).mono ?_
  rintro e w5 ⟨rfl, hb5⟩
  have L5 := Lib.hid (L4.out.trans (hb5.mono L4.out.size))
  have g2 : w5.cell? ⟨g, 2, none⟩ = some (.int .i64 (a2 : Int)) := (hb5.cell (p := ⟨g, 2, none⟩) hgl4).trans f2
  have hgl5 : g < w5.heap.size := Nat.lt_of_lt_of_le hgl4 hb5.size
  clear hb5 f2 hgl4
  rw [R1.out.1, R1.out.2]
  go_wp2_with fail
  rw [← HXx.out]
  have ew : (q : Int) + 4 = ((q + 4 : Nat) : Int) := by omega
  rw [ew]
  clear ew
  refine (numAt_i X ((q + 4 : Nat) : Int) 1 _ (by omega)).mono ?_
  rintro e w6 ⟨rfl, hb6⟩
  have L6 := Lib.hid (L5.out.trans (hb6.mono L5.out.size))
  have h2 : w6.cell? ⟨g, 2, none⟩ = some (.int .i64 (a2 : Int)) := (hb6.cell (p := ⟨g, 2, none⟩) hgl5).trans g2
  clear hb6 g2 hgl5
  rw [R2.out.1, R2.out.2]
  go_wp2_with fail
  rw [← HYy.out]
  refine (textAt_i Y q 4 _ (by omega)).mono ?_
  rintro e w7 ⟨rfl, rfl⟩
  rw [R3.out.1, R3.out.2]
  go_wp2_with fail
  rw [← HYy.out]
  refine (numAt_i_no Y ((q : Int) + 1) 4 _ (by omega) R4.out).mono ?_
  rintro e w8 ⟨rfl, rfl⟩
  have eSz : S.size = 4 := sS
  have eNN : ((N : Int) == (N : Int)) = true := by simp
  have eMM : ((M : Int) == (M : Int)) = true := by simp
  have eSS : (S.toList == S.toList) = true := by simp
  go_wp2_with fail
  refine (numText_i_no 256 1 _ (by decide) (by omega)).mono ?_
  rintro e w9 ⟨rfl, rfl⟩
  go_wp2
  go_ret
  exact ⟨rfl, L6.out⟩
end Go.Proofs.Ytpfhhmlbciojaaa
