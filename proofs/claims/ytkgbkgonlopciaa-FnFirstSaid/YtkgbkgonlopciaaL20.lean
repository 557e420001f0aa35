/- The walk of the law of ReadOpt. -/
import Derived.Test.YtkgbkgonlopciaaA27
import Derived.Test.YtkgbkgonlopciaaM8
import Derived.Deep.Cut
import Derived.Deep.RegionHeld
namespace Go.Proofs.Ytkgbkgonlopciaa
open Go.RowKit
set_option linter.unusedVariables false
set_option linter.unusedSimpArgs false
/-- what a read hands back, whether or not an option was read -/
theorem GivesRead.both {r : Option OD} {a2 : Int} {w w' : World} {e : Ending} (h : GivesRead r a2 w e w') :
    ∃ iv, e = .returned (.tuple #[vo (r.getD (OD.new 0 [])) iv, .int .i64 (if r.isSome then a2 else -1)]) ∧ Obs w' w.heap.size 1 iv (r.getD (OD.new 0 [])).ids.length ((r.getD (OD.new 0 [])).ids.map vn) ∧ Below w.heap.size w w' := by
  cases r with
  | none => exact ⟨_, h.1, Obs.nil _ _ _, h.2⟩
  | some o =>
    obtain ⟨iv, e, ho, _, hb⟩ := h
    exact ⟨iv, e, ho, hb⟩
theorem readO_ids (s : ByteArray) (a : Int) : ((readO s a).getD (OD.new 0 [])).ids.length ≤ 8 := by
  cases e : readO s a with
  | none => exact Nat.zero_le _
  | some o =>
    obtain ⟨_, _, hok, _⟩ := readP_some (p := fun n => n == 1) e
    exact ids_le hok
set_option maxRecDepth 100000 in
set_option maxHeartbeats 3200000 in
theorem law_ReadOpt (s : ByteArray) (a : Int) (w : World) (hs : s.size ≤ maxLen) (ha : (Lit.int .i64 a).wf = true) :
    Calls Try.prog 12 #[.string s, .int .i64 a] w fun e w' => e = .returned (.bool true) ∧ Below w.heap.size w w' := by
  unfold maxLen at hs
  have hA := i64R_of ha
  clear ha
  by_cases c1 : s.size ≤ 1048576
  case neg =>
    clear hA
    go_enter Try.func12, Try.ntmps12
    go_wp2
    go_ret
    exact ⟨rfl, Below.refl _ _⟩
  have HA := Lib.hid hA
  obtain ⟨q, hq⟩ : ∃ q, q = (readO s a).getD (OD.new 0 []) := ⟨_, rfl⟩
  obtain ⟨n2, hn2⟩ : ∃ n2 : Int, n2 = if (readO s a).isSome then a + 2 + (numAtN s (a + 1) 1 : Int) else -1 := ⟨_, rfl⟩
  have hq8 : q.ids.length ≤ 8 := by rw [hq]; exact readO_ids s a
  have HI : ∀ W : World, Hid (Calls Try.prog 44 #[.string s, .int .i64 a] W fun e w' => ∃ iv, e = .returned (.tuple #[vo q iv, .int .i64 n2]) ∧ Obs w' W.heap.size 1 iv q.ids.length (q.ids.map vn) ∧ Below W.heap.size W w') := fun W => Lib.hid ((readOpt_i s a W hs HA.out).mono (fun e w' h => by rw [hq, hn2]; exact h.both))
  have HS : ∀ W : World, Hid (Calls Try.prog 45 #[.string s, .int .i64 a] W fun e w' => ∃ iv, e = .returned (.tuple #[vo q iv, .int .i64 n2]) ∧ Obs w' W.heap.size 1 iv q.ids.length (q.ids.map vn) ∧ Below W.heap.size W w') := fun W => Lib.hid ((readOpt_s s a W hs HA.out).mono (fun e w' h => by rw [hq, hn2]; exact h.both))
  have HI' := Lib.hid HI
  have HS' := Lib.hid HS
  obtain ⟨m, hm⟩ : ∃ m, m = q.ids.length := ⟨_, rfl⟩
  have HM := Lib.hid hm
  have hm8 : m ≤ 8 := by omega
  clear hq hn2 hA HI HS hq8 hm
  go_enter Try.func12, Try.ntmps12
  go_wp2_with fail
  refine (HS'.out w).out.mono ?_
  rintro e w1 ⟨iv1, rfl, ho, hb⟩
  rw [← HM.out] at ho
  obtain ⟨A1, p1, rfl⟩ := ho.shape
  have O1 := Lib.hid ho
  have L1 := Lib.hid hb
  clear ho hb
  go_upto_region 4 with ((refine wpl_store_opt rfl (by rfl) (by rfl) (by rfl) ?_))
  obtain ⟨W1, hW1⟩ : ∃ W, W = w1.alloc (.cells (voC q (.slice A1 m p1)).toArray 27) := ⟨_, rfl⟩
  rw [← hW1]
  obtain ⟨b5, hb5⟩ : ∃ b, b = w1.heap.size := ⟨_, rfl⟩
  have B5 := Lib.hid (Bx.new w1 (voC q (.slice A1 m p1)).toArray 27)
  have E5 := Lib.hid ((Below.refl w1.heap.size w1).alloc (Nat.le_refl _) (.cells (voC q (.slice A1 m p1)).toArray 27))
  rw [← hW1] at B5 E5
  have L5 := Lib.hid (L1.out.trans (E5.out.mono L1.out.size))
  have O5 := Lib.hid (O1.out.below E5.out)
  have F5 : Hid (∀ g, (Value.slice A1 m p1).ownBlock = some g → g < W1.heap.size) := Lib.hid (fun g h => (O5.out.lt g h).2)
  have FW : Hid (w.heap.size ≤ W1.heap.size) := Lib.hid L5.out.size
  rw [← hb5] at B5 ⊢
  have F8 : Hid (b5 < W1.heap.size) := Lib.hid B5.out.1
  clear hW1 E5 O1 L1 hb5
  go_wp2_with fail
  refine (HI'.out W1).out.mono ?_
  rintro e w2 ⟨iv2, rfl, ho, hb⟩
  rw [← HM.out] at ho
  obtain ⟨A2, p2, rfl⟩ := ho.shape
  have O2 := Lib.hid ho
  have B6 := Lib.hid (B5.out.below hb)
  have O6 := Lib.hid (O5.out.below hb)
  have L6 := Lib.hid (L5.out.trans (hb.mono L5.out.size))
  have E6 := Lib.hid hb
  clear ho hb L5
  go_upto_region 5 with ((refine wpl_store_opt rfl (by rfl) (by rfl) (by rfl) ?_))
  obtain ⟨W2, hW2⟩ : ∃ W, W = w2.alloc (.cells (voC q (.slice A2 m p2)).toArray 27) := ⟨_, rfl⟩
  rw [← hW2]
  obtain ⟨b7, hb7⟩ : ∃ b, b = w2.heap.size := ⟨_, rfl⟩
  have B7 := Lib.hid (Bx.new w2 (voC q (.slice A2 m p2)).toArray 27)
  have E7 := Lib.hid ((Below.refl w2.heap.size w2).alloc (Nat.le_refl _) (.cells (voC q (.slice A2 m p2)).toArray 27))
  rw [← hW2] at B7 E7
  have L7 := Lib.hid (L6.out.trans (E7.out.mono L6.out.size))
  have O7 := Lib.hid (O6.out.below E7.out)
  have P7 := Lib.hid (O2.out.below E7.out)
  have B7' := Lib.hid (B6.out.below E7.out)
  have F7 : Hid (W1.heap.size ≤ b7) := Lib.hid (by rw [hb7]; exact E6.out.size)
  have F6 : Hid (∀ g, (Value.slice A2 m p2).ownBlock = some g → g < b7) := Lib.hid (fun g h => by have := (O2.out.lt g h).2; omega)
  rw [← hb7] at B7 ⊢
  clear hW2 E7 O2 L6 O6 B6 E6 hb7
  go_wp2_with (first | (refine wpl_opt rfl (by rfl) (by rfl) B7.out ?_) | (refine wpl_opt rfl (by rfl) (by rfl) B7'.out ?_))
  refine (eqOpt_l q _ _ m _ (by rw [HM.out] at P7 ⊢; exact P7.out.rd) (by rw [HM.out] at O7 ⊢; exact O7.out.rd)).mono ?_
  rintro e w3 ⟨rfl, hb⟩
  have L8 := Lib.hid (L7.out.trans (hb.mono L7.out.size))
  have O8 := Lib.hid (O7.out.below hb)
  have P8 := Lib.hid (P7.out.below hb)
  have B8 := Lib.hid (B7.out.below hb)
  have B8' := Lib.hid (B7'.out.below hb)
  have G8 : Hid (W1.heap.size ≤ w3.heap.size) := Lib.hid (by have h1 := F7.out; have h2 := B8.out.1; omega)
  clear hb L7 O7 P7 B7 B7'
  go_wp2_with (first | (refine wpl_opt rfl (by rfl) (by rfl) B8.out ?_) | (refine wpl_opt rfl (by rfl) (by rfl) B8'.out ?_))
  refine (markOpt_l q A2 m p2 1 W1.heap.size q.ids w3 G8.out P8.out (by omega) (by omega)).mono ?_
  rintro e w4 ⟨rfl, ho, hg⟩
  have hw1 := FW.out
  have L9 := Lib.hid (Below.only L8.out hg (fun g h => by have := (P8.out.lt g h).1; omega) L8.out.size)
  have O9 := Lib.hid (O8.out.only F5.out hg (fun g h => (P8.out.lt g h).1))
  have P9 := Lib.hid ho
  have B9 := Lib.hid (B8.out.only hg (fun g h => by have := F6.out g h; omega))
  have B9' := Lib.hid (B8'.out.only hg (fun g h => by have := (P8.out.lt g h).1; have := F8.out; omega))
  clear ho hg L8 O8 P8 B8 B8' hw1
  obtain ⟨n3, hn3⟩ : ∃ n3 : Int, n3 = ((1 + m : Nat) : Int) := ⟨_, rfl⟩
  have hn30 : ¬ (n3 < 0) := by omega
  have HN3 := Lib.hid hn3
  rw [← hn3]
  clear hn3
  go_wp2_with (first | (refine wpl_opt rfl (by rfl) (by rfl) B9.out ?_) | (refine wpl_opt rfl (by rfl) (by rfl) B9'.out ?_))
  refine (heldOpt_l q A2 m p2 1 w4 P9.out.rd (by omega) (by omega)).mono ?_
  rintro e w5 ⟨rfl, hb⟩
  rw [← HN3.out]
  have L10 := Lib.hid (L9.out.trans (hb.mono L9.out.size))
  have O10 := Lib.hid (O9.out.below hb)
  have P10 := Lib.hid (P9.out.below hb)
  have B10 := Lib.hid (B9.out.below hb)
  have B10' := Lib.hid (B9'.out.below hb)
  clear hb L9 O9 P9 B9 B9'
  go_wp2_with fail
  refine (HI'.out w5).out.mono ?_
  rintro e w6 ⟨iv3, rfl, ho, hb⟩
  rw [← HM.out] at ho
  obtain ⟨A3, p3, rfl⟩ := ho.shape
  have Q11 := Lib.hid ho
  have L11 := Lib.hid (L10.out.trans (hb.mono L10.out.size))
  have O11 := Lib.hid (O10.out.below hb)
  have P11 := Lib.hid (P10.out.below hb)
  have B11 := Lib.hid (B10.out.below hb)
  have B11' := Lib.hid (B10'.out.below hb)
  clear ho hb L10 O10 P10 B10 B10'
  go_upto_region 16 with ((refine wpl_store_opt rfl (by rfl) (by rfl) (by rfl) ?_))
  obtain ⟨W6, hW6⟩ : ∃ W, W = w6.alloc (.cells (voC q (.slice A3 m p3)).toArray 27) := ⟨_, rfl⟩
  rw [← hW6]
  obtain ⟨b9, hb9⟩ : ∃ b, b = w6.heap.size := ⟨_, rfl⟩
  have C12 := Lib.hid (Bx.new w6 (voC q (.slice A3 m p3)).toArray 27)
  have E12 := Lib.hid ((Below.refl w6.heap.size w6).alloc (Nat.le_refl _) (.cells (voC q (.slice A3 m p3)).toArray 27))
  rw [← hW6] at C12 E12
  have L12 := Lib.hid (L11.out.trans (E12.out.mono L11.out.size))
  have Q12 := Lib.hid (Q11.out.below E12.out)
  have O12 := Lib.hid (O11.out.below E12.out)
  have P12 := Lib.hid (P11.out.below E12.out)
  have B12 := Lib.hid (B11.out.below E12.out)
  have B12' := Lib.hid (B11'.out.below E12.out)
  rw [← hb9] at C12 ⊢
  clear hW6 E12 L11 Q11 O11 P11 B11 B11' hb9
  go_wp2_with (first | (refine wpl_opt rfl (by rfl) (by rfl) C12.out ?_) | (refine wpl_opt rfl (by rfl) (by rfl) B12'.out ?_))
  refine (eqOpt_l q _ _ m _ (by rw [HM.out] at Q12 ⊢; exact Q12.out.rd) (by rw [HM.out] at O12 ⊢; exact O12.out.rd)).mono ?_
  rintro e w7 ⟨rfl, hb⟩
  have L13 := Lib.hid (L12.out.trans (hb.mono L12.out.size))
  have P13 := Lib.hid (P12.out.below hb)
  have B13 := Lib.hid (B12.out.below hb)
  clear hb L12 O12 P12 B12 B12' C12 Q12
  go_wp2_with (refine wpl_opt rfl (by rfl) (by rfl) B13.out ?_)
  refine (heldOpt_l q A2 m p2 1 w7 P13.out.rd (by omega) (by omega)).mono ?_
  rintro e w8 ⟨rfl, hb⟩
  rw [← HN3.out]
  have L14 := Lib.hid (L13.out.trans (hb.mono L13.out.size))
  clear hb
  go_wp2
  go_ret
  exact ⟨rfl, L14.out⟩
end Go.Proofs.Ytkgbkgonlopciaa
