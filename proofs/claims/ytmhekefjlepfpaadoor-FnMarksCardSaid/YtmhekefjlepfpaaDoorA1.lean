/- The walks of the small functions: words and bytes. -/
import Derived.Test.YtmhekefjlepfpaaDoorProg
import Derived.Test.YtmhekefjlepfpaaDoorK
import Derived.BigQuiet
import Derived.Deep.QuietTactic
namespace Go.Proofs.YtmhekefjlepfpaaDoor
open Go.RowKit
set_option linter.unusedVariables false
set_option linter.unusedSimpArgs false

theorem u8_info : (Tryd.prog.info? 5).map (fun i => (i.zero, i.size, i.bytes)) = some (some (.int .u8 0), 1, 1) := by kernel_rfl

theorem within_i (n a b : Int) (w : World) : Calls Tryd.prog 70 #[.int .i64 n, .int .i64 a, .int .i64 b] w fun e w' => e = .returned (.bool (decide (a ≤ n) && decide (n ≤ b))) ∧ w = w' := by
  go_enter Tryd.func70, Tryd.ntmps70
  go_wp2
  all_goals (go_ret; exact ⟨ret_eq (congrArg Value.bool (by first | (simp_all; done) | (simp; omega))), rfl⟩)
theorem within_s (n a b : Int) (w : World) : Calls Tryd.prog 69 #[.int .i64 n, .int .i64 a, .int .i64 b] w fun e w' => e = .returned (.bool (decide (a ≤ n) && decide (n ≤ b))) ∧ w = w' := by
  go_enter Tryd.func69, Tryd.ntmps69
  go_wp2
  all_goals (go_ret; exact ⟨ret_eq (congrArg Value.bool (by first | (simp_all; done) | (simp; omega))), rfl⟩)

theorem be_step {N wd k M : Nat} (hk : 1 ≤ k) (hw : k ≤ wd) (hM : M = N / 256 ^ (wd - k)) :
    M / 256 = N / 256 ^ (wd - (k - 1)) ∧ ((List.replicate k 0 ++ be N (wd - k)).map vb).set (k - 1) (vb (UInt8.ofNat M)) = (List.replicate (k - 1) 0 ++ be N (wd - (k - 1))).map vb := by
  obtain ⟨j, rfl⟩ : ∃ j, k = j + 1 := ⟨k - 1, by omega⟩
  have e : wd - (j + 1 - 1) = (wd - (j + 1)) + 1 := by omega
  rw [e]
  refine ⟨by rw [hM, Nat.div_div_eq_div_mul, Nat.pow_succ], ?_⟩
  rw [be_head, ← hM, List.replicate_succ', Nat.add_sub_cancel]
  simp
set_option maxRecDepth 100000 in
theorem bigEndian_i (N wd : Nat) (w : World) (h1 : 1 ≤ wd) (h8 : wd ≤ 8) (hN : N ≤ 9223372036854775807) :
    Calls Tryd.prog 68 #[.int .i64 N, .int .i64 wd] w fun e w' => e = .returned (.string (str (be N wd))) ∧ Below w.heap.size w w' := by
  obtain ⟨i0, hi, hz0, hz1, hz2⟩ := info_parts u8_info
  go_enter Tryd.func68, Tryd.ntmps68
  go_wp2_with (refine wpList_make_full _ rfl _ _ 44 rfl w.heap.size 5 i0 (.int .u8 0) 1 Tryd.underlying44 hi hz0 hz1 .i64 .i64 (wd : Int) (wd : Int) wd rfl rfl rfl rfl (by rw [hz2]; omega) (by unfold maxLen; omega) (Nat.le_refl _) ?_; intro w1 hown1 hg1)
  have hbl : Below w.heap.size w w1 := (Below.refl _ _).grown hg1 (Nat.le_refl _) (by simp)
  go_loopw [0, 6] (fun n i wr => ∃ k M : Nat, k ≤ wd ∧ i = .int .i64 ((k : Int) - 1) ∧ n = .int .i64 (M : Int) ∧ M ≤ 9223372036854775807 ∧ Hid (M = N / 256 ^ (wd - k)) ∧ wr.ownsRow w.heap.size 5 1 (.slice (some ⟨w.heap.size, 0, none⟩) wd wd) wd ((List.replicate k 0 ++ be N (wd - k)).map vb) ∧ Below w.heap.size w wr) (fun _ i _ => (intOf i + 1).toNat)
  case atStart =>
    refine ⟨wd, N, Nat.le_refl _, rfl, rfl, hN, ?_, ?_, hbl⟩
    · exact Lib.hid (by simp)
    · have e : (madeCells (Value.int IntKind.u8 0).cells (wd * 1)).toList = (List.replicate wd 0 ++ be N (wd - wd)).map vb := by
        rw [show (Value.int IntKind.u8 0).cells = #[.int .u8 0] from rfl, toList_madeCells_one]
        simp [be, vb]
      rw [e] at hown1; exact hown1
  case round =>
    obtain ⟨k, M, hk, rfl, rfl, hM, HE, hown, hnx⟩ := hrel
    by_cases hlt : 1 ≤ k
    · have hcell := hown.cellAt (k - 1) (by omega)
      have hfr := hown.frozenAt (k - 1)
      have hsz := (own_size hown).2
      obtain ⟨u, hu⟩ : ∃ u, ((List.replicate k 0 ++ be N (wd - k)).map vb)[k - 1]? = some u := by
        exact ⟨vb 0, by rw [List.getElem?_map, List.getElem?_append_left (by simp; omega), List.getElem?_replicate, if_pos (by omega)]; rfl⟩
      rw [hu] at hcell
      clear hu hown1
      have hs := be_step hlt hk HE.out
      have H1 := Lib.hid hs.1
      have H2 := own_set hown (k - 1) (vb (UInt8.ofNat M)) _ hs.2
      clear hs hown
      go_wp2
      go_roundw
      case rel => exact ⟨k - 1, M / 256, by omega, by go_num, by simp, Nat.le_trans (Nat.div_le_self _ _) hM, H1, by rw [vb_mod]; exact H2, hnx.setCell (Nat.le_refl _) _⟩
      case measure => simp [intOf]; omega
    · obtain rfl : k = 0 := by omega
      have hst := own_string (P := Tryd.prog) wr 44 9 5 Tryd.underlying44 Tryd.underlying5 Tryd.underlying9 hown
      go_wp2
      go_ret
      exact ⟨by simp, hnx⟩

def keyOkB (s : ByteArray) : Bool := decide (s.size = 8)
theorem keyOk_i (s : ByteArray) (w : World) : Calls Tryd.prog 72 #[.string s] w fun e w' => e = .returned (.bool (keyOkB s)) ∧ w = w' := by
  go_enter Tryd.func72, Tryd.ntmps72
  go_wp2
  all_goals (go_ret; exact ⟨ret_bool (by unfold keyOkB; rw [Bool.eq_iff_iff]; simp; omega), rfl⟩)
theorem keyOk_s (s : ByteArray) (w : World) : Calls Tryd.prog 71 #[.string s] w fun e w' => e = .returned (.bool (keyOkB s)) ∧ w = w' := by
  go_enter Tryd.func71, Tryd.ntmps71
  go_wp2
  all_goals (go_ret; exact ⟨ret_bool (by unfold keyOkB; rw [Bool.eq_iff_iff]; simp; omega), rfl⟩)


theorem sameBytes_i (a b : ByteArray) (w : World) (ha : a.size ≤ 9223372036854775807) (hb : b.size ≤ 9223372036854775807) :
    Calls Tryd.prog 61 #[.string a, .string b] w fun e w' => e = .returned (.bool (sameB a b)) ∧ Below w.heap.size w w' := by
  by_cases h1 : a.size = b.size
  · have hn : (a.size : Int) = b.size := by omega
    go_enter Tryd.func61, Tryd.ntmps61
    go_wp2
    go_loopw [5, 6] (fun n i wr => ∃ k m : Nat, k ≤ a.size ∧ i = .int .i64 k ∧ m ≤ 255 ∧ n = .int .u8 m ∧ Hid (m = 0 ↔ a.data.toList.take k = b.data.toList.take k) ∧ Below w.heap.size w wr) (fun _ i _ => a.size - (intOf i).toNat)
    case atStart => exact ⟨0, 0, Nat.zero_le _, rfl, Nat.zero_le _, rfl, Lib.hid (by simp), Below.refl _ _⟩
    case round =>
      obtain ⟨k, m, hk, rfl, hm, rfl, HE, hnx⟩ := hrel
      by_cases hlt : k < a.size
      · have hlt2 : k < b.size := by omega
        have H1 := Lib.hid (same_step hlt hlt2 HE.out)
        have x1 := a[k].toNat_lt
        have x2 := b[k].toNat_lt
        have H2 := Lib.hid (or_xor_le hm x1 x2)
        have H3 := Lib.hid (show bits BinOp.or IntKind.u8 (m : Int) (bits BinOp.xor IntKind.u8 (a[k].toNat : Int) (b[k].toNat : Int)) = ((m ||| (a[k].toNat ^^^ b[k].toNat) : Nat) : Int) by
          have := H2.out
          have hx : a[k].toNat ^^^ b[k].toNat < 2 ^ 8 := Nat.xor_lt_two_pow x1 x2
          rw [u8_xor_nat _ _ x1 x2, u8_or_nat _ _ (by omega) (by omega)])
        clear x1 x2
        go_wp2
        go_quiet (fail)
        go_wp2
        go_roundw
        case rel => exact ⟨k + 1, _, hlt, by go_num, H2.out, by rw [H3.out], H1, below_drewN hnx _⟩
        case measure => simp [intOf]; omega
      · obtain rfl : k = a.size := by omega
        have H1 := Lib.hid (same_end h1 HE.out)
        go_wp2
        go_ret
        exact ⟨ret_bool H1.out, hnx⟩
  · have hs := sameB_no h1
    have hn : ((a.size : Int) != b.size) = true := by simp; omega
    go_enter Tryd.func61, Tryd.ntmps61
    go_wp2
    go_ret
    exact ⟨ret_bool hs.symm, Below.refl _ _⟩


end Go.Proofs.YtmhekefjlepfpaaDoor
