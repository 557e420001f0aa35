/- The walks of the laws' helpers: slices of maps marked and looked at again. -/
import Derived.Test.YtpfhhmlbciojaaaProg
import Derived.Test.YtpfhhmlbciojaaaK
import Derived.Test.YtpfhhmlbciojaaaK2
import Derived.Test.YtpfhhmlbciojaaaK4
import Derived.Test.YtpfhhmlbciojaaaM4
namespace Go.Proofs.Ytpfhhmlbciojaaa
open Go.RowKit
set_option linter.unusedVariables false
set_option linter.unusedSimpArgs false
/-- the numbers from k on -/
def mks (k : Nat) (n : Nat) : List Int := (List.range n).map fun (i : Nat) => ((k + i : Nat) : Int)
theorem mks_len (k n : Nat) : (mks k n).length = n := by simp [mks]
theorem mks_get {k n j : Nat} (h : j < n) : (mks k n)[j]? = some ((k + j : Nat) : Int) := by simp [mks, h]
theorem mks_getD {k n j : Nat} (h : j < n) : (mks k n).getD j 0 = ((k + j : Nat) : Int) := by rw [List.getD_eq_getElem?_getD, mks_get h]; rfl
theorem mks_set {k m j : Nat} {xs : List Int} (hl : xs.length = m) (h : j < m) :
    (((mks k j ++ xs.drop j).map vn).set j (vn ((k + j : Nat) : Int))) = (mks k (j + 1) ++ xs.drop (j + 1)).map vn := by
  rw [List.drop_eq_getElem_cons (by omega), List.map_append, List.map_cons, List.set_append_right _ _ (by simp [mks_len])]
  simp [mks, List.range_succ]
set_option maxHeartbeats 1600000 in
theorem markMapS_l (v : Value) (n : Nat) (xs : List Int) (k : Nat) (B : Nat) (w : World) (hB : B ≤ w.heap.size) (h : Obs w B 3 v n (xs.map vn)) (hn : n ≤ 4294967296) (hk : k ≤ 4294967296) :
    Calls Try.prog 33 #[v, .int .i64 k] w fun e w' => e = .returned (.int .i64 (k + n * 3 : Nat)) ∧ Obs w' B 3 v n ((mks k (n * 3)).map vn) ∧ Only w w' v := by
  have hl : xs.length = n * 3 := by have := h.1; simpa using this
  by_cases h0 : n = 0
  · obtain ⟨A, ca, rfl⟩ := h.shape
    subst h0
    have hx : xs = [] := List.eq_nil_of_length_eq_zero (by omega)
    subst hx
    have H := Lib.hid h
    clear h hl
    go_enter Try.func33, Try.ntmps33
    go_wp2
    go_loop [1, 5] (fun m i => i = .int .i64 0 ∧ m = .int .i64 (k : Int)) (fun m i => 0)
    case atStart => exact ⟨rfl, rfl⟩
    case round =>
      obtain ⟨rfl, rfl⟩ := hrel
      go_wp2
      go_ret
      exact ⟨rfl, H.out, Only.refl _ _⟩
  · obtain ⟨g, cap, rfl⟩ := h.full (by omega)
    have H0 := Lib.hid h
    have HL := Lib.hid hl
    clear h hl
    go_enter Try.func33, Try.ntmps33
    go_wp2
    go_loopw [1, 5] (fun m i wr => ∃ j : Nat, j ≤ n ∧ i = .int .i64 (j : Int) ∧ m = .int .i64 ((k + j * 3 : Nat) : Int) ∧ Hid (Obs wr B 3 (.slice (some ⟨g, 0, none⟩) n cap) n ((mks k (j * 3) ++ xs.drop (j * 3)).map vn)) ∧ Hid (Only w wr (.slice (some ⟨g, 0, none⟩) n cap))) (fun _ i _ => n - (intOf i).toNat)
    case atStart => exact ⟨0, Nat.zero_le _, rfl, by simp, Lib.hid (by simpa [mks] using H0.out), Lib.hid (Only.refl _ _)⟩
    case round =>
      clear H0
      obtain ⟨j, hj, rfl, rfl, H, HO⟩ := hrel
      by_cases hlt : j < n
      · obtain ⟨u0, r0, f0⟩ := H.out.frees (show j * 3 < n * 3 by omega)
        obtain ⟨u1, r1, f1⟩ := H.out.frees (show j * 3 + 1 < n * 3 by omega)
        obtain ⟨u2, r2, f2⟩ := H.out.frees (show j * 3 + 2 < n * 3 by omega)
        have H2 := H.out.set_ (j * 3) (by omega) (vn ((k + j * 3 : Nat) : Int))
        rw [mks_set HL.out (by omega)] at H2
        have H3 := H2.set_ (j * 3 + 1) (by omega) (vn ((k + (j * 3 + 1) : Nat) : Int))
        rw [mks_set HL.out (by omega)] at H3
        have H4 := H3.set_ (j * 3 + 2) (by omega) (vn ((k + (j * 3 + 2) : Nat) : Int))
        rw [mks_set HL.out (by omega)] at H4
        have HH := Lib.hid H4
        have HO2 := Lib.hid (((HO.out.set_ (g := g) rfl (j * 3) (vn ((k + j * 3 : Nat) : Int))).set_ (g := g) rfl (j * 3 + 1) (vn ((k + (j * 3 + 1) : Nat) : Int))).set_ (g := g) rfl (j * 3 + 2) (vn ((k + (j * 3 + 2) : Nat) : Int)))
        clear H HO H2 H3 H4
        obtain ⟨q, hq⟩ : ∃ q, q = k + j * 3 := ⟨_, rfl⟩
        have hqb : q ≤ 17179869184 := by omega
        rw [show k + (j * 3 + 1) = q + 1 by omega, show k + (j * 3 + 2) = q + 2 by omega, ← hq] at HH HO2
        rw [← hq]
        have HQ := Lib.hid hq
        clear hq
        go_wp2
        go_roundw
        case rel => exact ⟨j + 1, by omega, by go_num, by rw [show k + (j + 1) * 3 = q + 3 by have := HQ.out; omega]; go_num, by rw [show (j + 1) * 3 = j * 3 + 2 + 1 by omega]; exact HH, HO2⟩
        case measure => simp [intOf]; omega
      · obtain rfl : j = n := by omega
        have H2 : Hid (Obs wr B 3 (.slice (some ⟨g, 0, none⟩) j cap) j ((mks k (j * 3)).map vn)) := Lib.hid (by have h2 := H.out; rw [List.drop_of_length_le (by have := HL.out; omega), List.append_nil] at h2; exact h2)
        go_wp2
        go_ret
        exact ⟨ret_int (by simp), H2.out, HO.out⟩
theorem heldMapS_l (v : Value) (n : Nat) (k : Nat) (w : World) (h : Rd w 3 v n ((mks k (n * 3)).map vn)) (hn : n ≤ 4294967296) (hk : k ≤ 4294967296) :
    Calls Try.prog 34 #[v, .int .i64 k] w fun e w' => e = .returned (.int .i64 (k + n * 3 : Nat)) ∧ w = w' := by
  by_cases h0 : n = 0
  · obtain ⟨A, ca, rfl, _⟩ := h.shape
    subst h0
    clear h
    go_enter Try.func34, Try.ntmps34
    go_wp2
    go_loop [1, 5] (fun m i => i = .int .i64 0 ∧ m = .int .i64 (k : Int)) (fun m i => 0)
    case atStart => exact ⟨rfl, rfl⟩
    case round =>
      obtain ⟨rfl, rfl⟩ := hrel
      go_wp2
      go_ret
      exact ⟨rfl, rfl⟩
  · obtain ⟨b1, o1, c1, rfl, hb1, hm, hc1⟩ := h.full (by omega)
    have HR := Lib.hid h
    clear h hc1
    go_enter Try.func34, Try.ntmps34
    go_wp2
    go_loop [1, 5] (fun m i => ∃ j : Nat, j ≤ n ∧ i = .int .i64 (j : Int) ∧ m = .int .i64 ((k + j * 3 : Nat) : Int)) (fun _ i => n - (intOf i).toNat)
    case atStart => exact ⟨0, Nat.zero_le _, rfl, by simp⟩
    case round =>
      obtain ⟨j, hj, rfl, rfl⟩ := hrel
      by_cases hlt : j < n
      · obtain ⟨_, p0, p1, p2⟩ := HR.out.three hlt
        rw [mks_getD (by omega)] at p0 p1 p2
        obtain ⟨q, hq⟩ : ∃ q, q = k + j * 3 := ⟨_, rfl⟩
        have hqb : q ≤ 17179869184 := by omega
        rw [← hq] at p0
        rw [show k + (j * 3 + 1) = q + 1 by omega] at p1
        rw [show k + (j * 3 + 2) = q + 2 by omega] at p2
        rw [← hq]
        have HQ := Lib.hid hq
        clear hq
        go_wp2
        go_round
        case rel => exact ⟨j + 1, by omega, by go_num, by rw [show k + (j + 1) * 3 = q + 3 by have := HQ.out; omega]; go_num⟩
        case measure => simp [intOf]; omega
      · obtain rfl : j = n := by omega
        go_wp2
        go_ret
        exact ⟨ret_int (by simp), rfl⟩
end Go.Proofs.Ytpfhhmlbciojaaa
