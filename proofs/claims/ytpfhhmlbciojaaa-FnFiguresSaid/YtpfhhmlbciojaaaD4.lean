/- The walks: twelve drawn numbers. -/
import Derived.Test.YtpfhhmlbciojaaaProg
import Derived.Test.YtpfhhmlbciojaaaK
import Derived.Test.YtpfhhmlbciojaaaK2
import Derived.Test.YtpfhhmlbciojaaaK3
import Derived.Test.YtpfhhmlbciojaaaK4
import Derived.Test.YtpfhhmlbciojaaaD1
import Derived.Test.YtpfhhmlbciojaaaD2
namespace Go.Proofs.Ytpfhhmlbciojaaa
open Go.RowKit
set_option linter.unusedVariables false
set_option linter.unusedSimpArgs false

theorem int_info : (Try.prog.info? 3).map (fun i => (i.zero, i.size, i.bytes)) = some (some (.int .i64 0), 1, 8) := by kernel_rfl
/-- twelve numbers below 10000 -/
def GivesPlaces (w : World) (e : Ending) (w' : World) : Prop := ∃ (g cap : Nat) (l : List Nat), l.length = 12 ∧ (∀ x ∈ l, x < 10000) ∧ e = .returned (.slice (some ⟨g, 0, none⟩) 12 cap) ∧
  Obs w' w.heap.size 1 (.slice (some ⟨g, 0, none⟩) 12 cap) 12 (l.map fun (x : Nat) => vn x) ∧ Below w.heap.size w w'
set_option maxRecDepth 100000 in
theorem drawPlaces_s (v : Value) (n : Nat) (xs : List Int) (w : World) (hv : Rd w 1 v n (xs.map (Value.int .u8))) (hx : ∀ x ∈ xs, 0 ≤ x ∧ x ≤ 255) (hn : n ≤ 1048576) :
    Calls Try.prog 10 #[v] w (GivesPlaces w) := by
  obtain ⟨i0, hi, hz0, hz1, hz2⟩ := info_parts int_info
  have HV := Lib.hid hv
  have HX := Lib.hid hx
  have HN := Lib.hid hn
  clear hv hx hn
  go_enter Try.func10, Try.ntmps10
  go_wp2_with fail
  refine (new_s v n xs _ HV.out HX.out HN.out).mono ?_
  rintro e w1 ⟨rfl, hc1, hb1⟩
  have hgl : w.heap.size < w1.heap.size := hc1.lt
  have o0 := Lib.hid (obs_empty0 w1 3 1 (w.heap.size + 1) (by omega))
  have c0 : Hid (Cur (w1.alloc (.cells #[] 3)) w.heap.size) := Lib.hid (hc1.below ((Below.refl _ _).alloc (Nat.le_refl _) _))
  have l0 : Hid (Below w.heap.size w (w1.alloc (.cells #[] 3))) := Lib.hid (hb1.alloc hb1.size _)
  have s0 : Hid (w.heap.size + 1 ≤ (w1.alloc (.cells #[] 3)).heap.size) := Lib.hid (by simp; omega)
  clear hc1 hb1
  go_wp2
  go_loopw [4, 5] (fun v i wr => ∃ k : Nat, k ≤ 12 ∧ i = .int .i64 (k : Int) ∧ (∃ l : List Nat, l.length = k ∧ (∀ x ∈ l, x < 10000) ∧ Hid (Obs wr (w.heap.size + 1) 1 v k (l.map fun (x : Nat) => vn x))) ∧ Hid (Cur wr w.heap.size) ∧ Hid (Below w.heap.size w wr) ∧ Hid (w.heap.size + 1 ≤ wr.heap.size)) (fun _ i _ => 12 - (intOf i).toNat)
  case atStart => exact ⟨0, Nat.zero_le _, rfl, ⟨[], rfl, by simp, o0⟩, c0, l0, s0⟩
  case round =>
    clear o0 c0 l0 s0
    obtain ⟨k, hk, rfl, ⟨l, hl, hx2, OK⟩, CK, LK, SK⟩ := hrel
    have HL := Lib.hid hl
    have HX2 := Lib.hid hx2
    clear hl hx2
    by_cases hlt : k < 12
    · go_wp2_with fail
      refine (below_s w.heap.size 10000 _ CK.out (by omega) (by omega)).mono ?_
      rintro e w2 ⟨x, hx3, rfl, hc2, hg2⟩
      have O1 := Lib.hid (OK.out.grew hg2 (fun q hq => by have := (OK.out.lt q hq).1; omega))
      have C1 := Lib.hid hc2
      have L1 := Lib.hid (LK.out.trans (hg2.below LK.out.size (Nat.le_refl _)))
      have hsz : w.heap.size + 1 ≤ w2.heap.size := Nat.le_trans SK.out hg2.size
      clear hc2 hg2 OK CK LK
      go_wp2_with (at_builtin; refine wpList_append_obs _ rfl _ _ 24 rfl (w.heap.size + 1) 3 i0 (.int .i64 0) 1 8 Try.underlying24 hi hz0 hz1 hz2 rfl (by decide) _ _ _ rfl (O1.out.alloc _) ⟨w2.heap.size, 0, none⟩ 1 1 [.int .i64 (x : Int)] rfl rfl (new_cells _ _ _) (by simp [Value.oneCell']) (by unfold maxLen; omega) (by omega) (by simp; omega) ?_; intro v3 w3 hown3 hb3 hgr3)
      have O2 : Hid (Obs w3 (w.heap.size + 1) 1 v3 (k + 1) ((l ++ [x]).map fun (x : Nat) => vn x)) := Lib.hid (by rw [List.map_append, List.map_singleton]; exact hown3)
      have C2 := Lib.hid ((C1.out.below ((Below.refl _ _).alloc (Nat.le_refl _) _)).belowB hb3 (Nat.lt_succ_self _))
      have L2 := Lib.hid ((L1.out.alloc L1.out.size (.cells #[.int .i64 (x : Int)] 3)).trans (hb3.mono (Nat.le_succ _)))
      have S2 : Hid (w.heap.size + 1 ≤ w3.heap.size) := Lib.hid (by have := hb3.size; simp at this; omega)
      have HX4 : Hid (∀ y ∈ l ++ [x], y < 10000) := Lib.hid (fun y hy => by
        rcases List.mem_append.1 hy with h | h
        · exact HX2.out y h
        · simp at h; omega)
      clear hown3 hb3 hgr3 O1 C1 L1
      go_wp2
      go_roundw
      case rel => exact ⟨k + 1, by omega, by go_num, ⟨l ++ [x], by rw [List.length_append, HL.out]; rfl, HX4.out, O2⟩, C2, L2, S2⟩
      case measure => simp [intOf]; omega
    · obtain rfl : k = 12 := by omega
      obtain ⟨g, cap, rfl⟩ := OK.out.full (by omega)
      go_wp2
      go_ret
      exact ⟨g, cap, l, HL.out, HX2.out, rfl, OK.out.mono (Nat.le_succ _), LK.out⟩
end Go.Proofs.Ytpfhhmlbciojaaa
