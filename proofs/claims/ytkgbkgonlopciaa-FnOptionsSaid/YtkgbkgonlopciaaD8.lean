/- The walks: drawn texts. -/
import Derived.Test.YtkgbkgonlopciaaD7
namespace Go.Proofs.Ytkgbkgonlopciaa
open Go.RowKit
set_option linter.unusedVariables false
set_option linter.unusedSimpArgs false
/-- the bytes that are drawn, and the state behind them -/
noncomputable def textL (xs : List Int) : Nat → St → List UInt8 × St
  | 0, st => ([], st)
  | k + 1, st => ((textL xs k st).1 ++ [UInt8.ofNat (byteX xs (textL xs k st).2)], byteN xs (textL xs k st).2)
theorem textL_len (xs : List Int) : ∀ (k : Nat) (st : St), (textL xs k st).1.length = k
  | 0, _ => rfl
  | k + 1, st => by show ((textL xs k st).1 ++ [_]).length = k + 1; rw [List.length_append, textL_len xs k st]; rfl
set_option maxRecDepth 100000 in
set_option maxHeartbeats 1600000 in
theorem text_u (v : Value) (n : Nat) (xs : List Int) (st : St) (g M : Nat) (w : World) (hc : CurS v n xs w g st) (hM : M ≤ 5000) :
    Calls Try.prog 100 #[.pointer (some ⟨g, 0, none⟩), .int .i64 (M : Int)] w fun e w' => e = .returned (.string (str (textL xs M st).1)) ∧ CurS v n xs w' g (textL xs M st).2 ∧ Grew w w' g := by
  have hgl := hc.lt
  have HC := Lib.hid hc
  clear hc
  obtain ⟨i0, hi, hz0, hz1, hz2⟩ := info_parts u8_info'
  go_enter Try.func100, Try.ntmps100
  go_wp2
  obtain ⟨W, hW⟩ : ∃ W, W = w.alloc (.cells #[] 5) := ⟨_, rfl⟩
  rw [← hW]
  have O1 : Hid (Obs W w.heap.size 1 (.slice (some ⟨w.heap.size, 0, none⟩) 0 0) 0 ((textL xs 0 st).1.map vb)) := Lib.hid (by rw [hW]; exact obs_emptyI w 5 1 _ (Nat.le_refl _))
  have C1 : Hid (CurS v n xs W g (textL xs 0 st).2) := Lib.hid (by rw [hW]; exact HC.out.below ((Below.refl _ _).alloc (Nat.le_refl _) _))
  have G1 : Hid (Grew w W g) := Lib.hid (by rw [hW]; exact Grew.of_below ((Below.refl _ _).alloc (Nat.le_refl _) _))
  have S1 : Hid (w.heap.size ≤ W.heap.size) := Lib.hid G1.out.size
  clear hW HC
  go_loopw [5, 6] (fun d i wr => ∃ (k cv : Nat) (Av : Option Addr), k ≤ M ∧ i = .int .i64 (k : Int) ∧ d = .slice Av k cv ∧ Hid (Obs wr w.heap.size 1 (.slice Av k cv) k ((textL xs k st).1.map vb)) ∧ Hid (CurS v n xs wr g (textL xs k st).2) ∧ Hid (Grew w wr g) ∧ Hid (w.heap.size ≤ wr.heap.size)) (fun _ i _ => M - (intOf i).toNat)
  case atStart => exact ⟨0, 0, _, Nat.zero_le _, rfl, rfl, O1, C1, G1, S1⟩
  case round =>
    clear O1 C1 G1 S1
    obtain ⟨k, cv, Av, hk, rfl, rfl, OV, C5, G5, S5⟩ := hrel
    by_cases hlt : k < M
    · obtain ⟨bb, hbb⟩ : ∃ b, b = byteX xs (textL xs k st).2 := ⟨_, rfl⟩
      have hb256 : bb < 256 := by rw [hbb]; exact byteX_lt _ _
      have HT1 : Hid ((textL xs (k + 1) st).1 = (textL xs k st).1 ++ [UInt8.ofNat bb]) := Lib.hid (by rw [hbb]; rfl)
      have HT2 : Hid ((textL xs (k + 1) st).2 = byteN xs (textL xs k st).2) := Lib.hid rfl
      have HBB := Lib.hid hbb
      have wx8 : IntKind.u8.wrap (bb : Int) = (bb : Int) := by rw [IntKind.wrap_u8]; omega
      clear hbb
      go_wp2_with fail
      refine (byte_u v n xs _ g _ C5.out).mono ?_
      rw [← HBB.out, ← HT2.out]
      rintro e w6 ⟨rfl, hc, hg⟩
      have C6 := Lib.hid hc
      have G6 := Lib.hid (G5.out.trans hg)
      have S6 := Lib.hid (Nat.le_trans S5.out hg.size)
      have O6 := Lib.hid (OV.out.grew hg (fun q hq => by have := (OV.out.lt q hq).1; omega))
      have HVB : Hid (Value.int .u8 (bb : Int) = vb (UInt8.ofNat bb)) := Lib.hid (by unfold vb; congr 1; have : (UInt8.ofNat bb).toNat = bb := by simp; omega
                                                                                     rw [this])
      clear hc hg C5 G5 S5 OV
      go_wp2_with (at_builtin; refine wpList_append_obs2 _ rfl _ _ 40 rfl w.heap.size 5 i0 (.int .u8 0) 1 1 Try.underlying40 hi hz0 hz1 hz2 rfl (by decide) _ k _ rfl (O6.out.alloc _) w.heap.size _ 1 _ rfl (obs_one w6 5 (.int .u8 (bb : Int)) w.heap.size S6.out) (by intro u hu; obtain rfl := List.mem_singleton.1 hu; rfl) (by unfold maxLen; omega) (by omega) (by have := S6.out; simp; omega) ?_; intro v3 w7 hown3 hb3 hg3)
      have O7 : Hid (Obs w7 w.heap.size 1 v3 (k + 1) ((textL xs (k + 1) st).1.map vb)) := Lib.hid (by rw [HT1.out, List.map_append]; rw [show ([UInt8.ofNat bb].map vb) = [Value.int .u8 (bb : Int)] by rw [HVB.out]; rfl]; exact hown3)
      have C7 := Lib.hid ((C6.out.below ((Below.refl _ _).alloc (Nat.le_refl _) (.cells #[.int .u8 (bb : Int)] 5))).belowB hb3 hgl)
      have G7 := Lib.hid ((G6.out.trans (Grew.of_below ((Below.refl _ _).alloc (Nat.le_refl _) (.cells #[.int .u8 (bb : Int)] 5)))).below_trans hb3)
      have S7 : Hid (w.heap.size ≤ w7.heap.size) := Lib.hid G7.out.size
      clear hown3 hb3 hg3
      obtain ⟨A3, c3, rfl⟩ := O7.out.shape
      go_roundw
      case rel => exact ⟨k + 1, c3, A3, by omega, by go_num, rfl, O7, C7, G7, S7⟩
      case measure => (simp [intOf]; try omega)
    · obtain rfl : k = M := by omega
      have hst : Sem.run Try.prog (convert 40 9 (.slice Av k cv)) wr = .ok (.string (str (textL xs k st).1)) wr := obs_string (P := Try.prog) wr 40 9 5 Try.underlying40 Try.underlying5 Try.underlying9 OV.out
      go_wp2
      go_ret
      exact ⟨rfl, C5.out, G5.out⟩
end Go.Proofs.Ytkgbkgonlopciaa
