/- The walks of SeqAt. -/
import Derived.Test.YtpfhhmlbciojaaaProg
import Derived.Test.YtpfhhmlbciojaaaK
import Derived.Test.YtpfhhmlbciojaaaK2
import Derived.Test.YtpfhhmlbciojaaaK4
import Derived.Test.YtpfhhmlbciojaaaA1
import Derived.Test.YtpfhhmlbciojaaaM4
import Derived.Test.YtpfhhmlbciojaaaA9
import Derived.Deep.QuietTactic
import Derived.BigQuiet
import Derived.Deep.RegionHeld
import Derived.StillTailTactics
namespace Go.Proofs.Ytpfhhmlbciojaaa
open Go.RowKit
set_option linter.unusedVariables false
set_option linter.unusedSimpArgs false
/-- element k covers place a -/
def seqHit (xs : List Int) (a : Int) (k : Nat) : Bool := decide (xs.getD (k * 3) 0 ≤ a) && decide (a < xs.getD (k * 3) 0 + xs.getD (k * 3 + 2) 0)
def seqK (xs : List Int) (n : Nat) (a : Int) : Option Nat := (List.range n).find? (seqHit xs a)
def seqB (xs : List Int) (n : Nat) (a : Int) : Bool := mokB xs n && (seqK xs n a).isSome
def seqV (xs : List Int) (n : Nat) (a : Int) : Int := if mokB xs n then (match seqK xs n a with | some k => xs.getD (k * 3 + 1) 0 + a - xs.getD (k * 3) 0 | none => 0) else 0
theorem mokB_at {xs : List Int} {n k : Nat} (h : mokB xs n = true) (hk : k < n) : mokAt xs k = true := by
  unfold mokB at h
  simp only [Bool.and_eq_true] at h
  exact List.all_eq_true.1 h.2 k (List.mem_range.2 hk)
theorem mokAt_all {xs : List Int} {k : Nat} (h : mokAt xs k = true) : (0 ≤ xs.getD (k * 3) 0 ∧ xs.getD (k * 3) 0 ≤ 1000000000) ∧ (0 ≤ xs.getD (k * 3 + 1) 0 ∧ xs.getD (k * 3 + 1) 0 ≤ 1000000000) ∧ (1 ≤ xs.getD (k * 3 + 2) 0 ∧ xs.getD (k * 3 + 2) 0 ≤ 100000) := by
  unfold mokAt inR at h
  simp only [Bool.and_eq_true, decide_eq_true_eq] at h
  exact ⟨h.1.1.1, h.1.1.2, h.1.2⟩
theorem seq_bad {xs : List Int} {n : Nat} {a : Int} (h : mokB xs n = false) : seqV xs n a = 0 ∧ seqB xs n a = false := by
  unfold seqV seqB; rw [h]; exact ⟨rfl, rfl⟩
theorem seq_none {xs : List Int} {n : Nat} {a : Int} (h2 : ∀ k, k < n → seqHit xs a k = false) : seqV xs n a = 0 ∧ seqB xs n a = false := by
  have e : seqK xs n a = none := by unfold seqK; rw [List.find?_range_eq_none]; exact fun i hi => by rw [h2 i hi]; rfl
  unfold seqV seqB; rw [e]
  refine ⟨?_, by simp⟩
  split <;> rfl
theorem seq_hit {xs : List Int} {n k : Nat} {a : Int} (h : mokB xs n = true) (hk : k < n) (h1 : ∀ j, j < k → seqHit xs a j = false) (h2 : seqHit xs a k = true) :
    seqV xs n a = xs.getD (k * 3 + 1) 0 + a - xs.getD (k * 3) 0 ∧ seqB xs n a = true := by
  have e : seqK xs n a = some k := by unfold seqK; rw [List.find?_range_eq_some]; exact ⟨h2, List.mem_range.2 hk, fun j hj => by rw [h1 j hj]; rfl⟩
  unfold seqV seqB; rw [e, h]; exact ⟨rfl, rfl⟩
set_option maxHeartbeats 1600000 in
theorem seqAt_s (v : Value) (n : Nat) (xs : List Int) (a : Int) (w : World) (h : Rd w 3 v n (xs.map vn)) :
    Calls Try.prog 29 #[v, .int .i64 a] w fun e w' => e = .returned (.tuple #[.int .i64 (seqV xs n a), .bool (seqB xs n a)]) ∧ Below w.heap.size w w' := by
  obtain ⟨A, ca, rfl, hm⟩ := h.shape
  unfold maxLen at hm
  have HR0 := Lib.hid h
  clear h
  go_enter Try.func29, Try.ntmps29
  go_wp2_with fail
  refine (mapsOk_s _ n xs _ HR0.out).mono ?_
  rintro e w1 ⟨rfl, hb1⟩
  have HN1 := Lib.hid hb1
  clear hb1
  by_cases hok : mokB xs n = true
  case neg =>
    have hf : mokB xs n = false := by simpa using hok
    have HS := Lib.hid (seq_bad (a := a) hf)
    rw [hf]
    clear hf hok
    go_wp2
    go_ret2
    exact ⟨ret_two (by rw [HS.out.1]; rfl) (by rw [HS.out.2]; rfl), HN1.out⟩
  have HM := Lib.hid hok
  rw [hok]
  clear hok
  by_cases h0 : n = 0
  · subst h0
    have HS := Lib.hid (seq_none (xs := xs) (n := 0) (a := a) (fun k hk => by omega))
    go_wp2
    go_loopw [6] (fun i wr => i = .int .i64 0 ∧ Hid (Below w.heap.size w wr)) (fun i _ => 0)
    case atStart => exact ⟨rfl, HN1⟩
    case round =>
      obtain ⟨rfl, HN⟩ := hrel
      go_wp2
      go_ret2
      exact ⟨ret_two (by rw [HS.out.1]; rfl) (by rw [HS.out.2]; rfl), HN.out⟩
  · obtain ⟨b1, o1, c1, he, hb1, _, _⟩ := HR0.out.full (by omega)
    simp only [Value.slice.injEq] at he
    obtain ⟨rfl, _, rfl⟩ := he
    go_wp2
    go_loopw [6] (fun i wr => ∃ k : Nat, k ≤ n ∧ i = .int .i64 (k : Int) ∧ Hid (∀ j, j < k → seqHit xs a j = false) ∧ Hid (Below w.heap.size w wr)) (fun i _ => n - (intOf i).toNat)
    case atStart => exact ⟨0, Nat.zero_le _, rfl, Lib.hid (fun j hj => by omega), HN1⟩
    case round =>
      clear HN1
      obtain ⟨k, hk, rfl, HP, HN⟩ := hrel
      by_cases hlt : k < n
      case neg =>
        obtain rfl : k = n := by omega
        have HS := Lib.hid (seq_none (xs := xs) (n := k) (a := a) HP.out)
        go_wp2
        go_ret2
        exact ⟨ret_two (by rw [HS.out.1]; rfl) (by rw [HS.out.2]; rfl), HN.out⟩
      obtain ⟨g1, p0, p1, p2⟩ := (HR0.out.below HN.out).three hlt
      have hall := mokAt_all (mokB_at HM.out hlt)
      have hhit : seqHit xs a k = (decide (xs.getD (k * 3) 0 ≤ a) && decide (a < xs.getD (k * 3) 0 + xs.getD (k * 3 + 2) 0)) := rfl
      have hval := seq_hit (a := a) HM.out hlt HP.out
      obtain ⟨x, hx⟩ : ∃ a, a = xs.getD (k * 3) 0 := ⟨_, rfl⟩
      obtain ⟨y, hy⟩ : ∃ a, a = xs.getD (k * 3 + 1) 0 := ⟨_, rfl⟩
      obtain ⟨z, hz⟩ : ∃ a, a = xs.getD (k * 3 + 2) 0 := ⟨_, rfl⟩
      rw [← hx, ← hy, ← hz] at hall
      rw [← hx, ← hz] at hhit
      rw [← hx, ← hy] at hval
      rw [← hx] at p0
      rw [← hy] at p1
      rw [← hz] at p2
      clear hx hy hz
      have HV := Lib.hid hval
      have HH := Lib.hid hhit
      clear hval hhit
      have q1 : IntKind.i64.wrap (x + z) = x + z := IntWalk.i64_in _ (by omega)
      by_cases c1 : x ≤ a
      case neg =>
        have HP2 : Hid (∀ j, j < k + 1 → seqHit xs a j = false) := Lib.hid (fun j hj => by
          by_cases e : j = k
          · rw [e, HH.out, decide_eq_false c1]; rfl
          · exact HP.out j (by omega))
        have d1 : decide (x ≤ a) = false := decide_eq_false c1
        go_wp2_with fail
        go_quiet (fail)
        go_wp2
        go_roundw
        case rel => exact ⟨k + 1, by omega, by go_num, HP2, Lib.hid (below_drewN HN.out _)⟩
        case measure => (simp [intOf]; try omega)
      have d1 : decide (x ≤ a) = true := decide_eq_true c1
      by_cases c2 : a < x + z
      case neg =>
        have HP2 : Hid (∀ j, j < k + 1 → seqHit xs a j = false) := Lib.hid (fun j hj => by
          by_cases e : j = k
          · rw [e, HH.out, decide_eq_false c2, Bool.and_false]
          · exact HP.out j (by omega))
        have d2 : decide (a < x + z) = false := decide_eq_false c2
        go_wp2_with fail
        go_quiet (fail)
        go_wp2
        go_roundw
        case rel => exact ⟨k + 1, by omega, by go_num, HP2, Lib.hid (below_drewN HN.out _)⟩
        case measure => (simp [intOf]; try omega)
      have d2 : decide (a < x + z) = true := decide_eq_true c2
      have HS := Lib.hid (HV.out (by rw [HH.out, d1, d2]; rfl))
      have q2 : IntKind.i64.wrap (y + a) = y + a := IntWalk.i64_in _ (by omega)
      have q3 : IntKind.i64.wrap (y + a - x) = y + a - x := IntWalk.i64_in _ (by omega)
      go_wp2_with fail
      go_quiet (fail)
      go_wp2_with fail
      go_quiet (fail)
      go_wp2
      go_ret2
      exact ⟨ret_two (by rw [HS.out.1]; rfl) (by rw [HS.out.2]; rfl), below_drewN (below_drewN HN.out _) _⟩
theorem hit_in (x z a : Int) : (decide (x ≤ a) && decide (a ≤ x + z - 1)) = (decide (x ≤ a) && decide (a < x + z)) := by
  congr 1
  exact decide_eq_decide.2 (by omega)
set_option maxHeartbeats 1600000 in
theorem seqAt_i (v : Value) (n : Nat) (xs : List Int) (a : Int) (w : World) (h : Rd w 3 v n (xs.map vn)) :
    Calls Try.prog 30 #[v, .int .i64 a] w fun e w' => e = .returned (.tuple #[.int .i64 (seqV xs n a), .bool (seqB xs n a)]) ∧ Below w.heap.size w w' := by
  obtain ⟨A, ca, rfl, hm⟩ := h.shape
  unfold maxLen at hm
  have HR0 := Lib.hid h
  clear h
  go_enter Try.func30, Try.ntmps30
  go_wp2_with fail
  refine (mapsOk_i _ n xs _ HR0.out).mono ?_
  rintro e w1 ⟨rfl, hb1⟩
  have HN1 := Lib.hid hb1
  clear hb1
  by_cases hok : mokB xs n = true
  case neg =>
    have hf : mokB xs n = false := by simpa using hok
    have HS := Lib.hid (seq_bad (a := a) hf)
    rw [hf]
    clear hf hok
    go_wp2
    go_ret2
    exact ⟨ret_two (by rw [HS.out.1]; rfl) (by rw [HS.out.2]; rfl), HN1.out⟩
  have HM := Lib.hid hok
  rw [hok]
  clear hok
  by_cases h0 : n = 0
  · subst h0
    have HS := Lib.hid (seq_none (xs := xs) (n := 0) (a := a) (fun k hk => by omega))
    go_wp2
    go_loopw [13] (fun i wr => i = .int .i64 0 ∧ Hid (Below w.heap.size w wr)) (fun i _ => 0)
    case atStart => exact ⟨rfl, HN1⟩
    case round =>
      obtain ⟨rfl, HN⟩ := hrel
      go_wp2
      go_ret2
      exact ⟨ret_two (by rw [HS.out.1]; rfl) (by rw [HS.out.2]; rfl), HN.out⟩
  · obtain ⟨b1, o1, c1, he, hb1, _, _⟩ := HR0.out.full (by omega)
    simp only [Value.slice.injEq] at he
    obtain ⟨rfl, _, rfl⟩ := he
    go_wp2
    go_loopw [13] (fun i wr => ∃ k : Nat, k ≤ n ∧ i = .int .i64 (k : Int) ∧ Hid (∀ j, j < k → seqHit xs a j = false) ∧ Hid (Below w.heap.size w wr)) (fun i _ => n - (intOf i).toNat)
    case atStart => exact ⟨0, Nat.zero_le _, rfl, Lib.hid (fun j hj => by omega), HN1⟩
    case round =>
      clear HN1
      obtain ⟨k, hk, rfl, HP, HN⟩ := hrel
      by_cases hlt : k < n
      case neg =>
        obtain rfl : k = n := by omega
        have HS := Lib.hid (seq_none (xs := xs) (n := k) (a := a) HP.out)
        go_wp2
        go_ret2
        exact ⟨ret_two (by rw [HS.out.1]; rfl) (by rw [HS.out.2]; rfl), HN.out⟩
      obtain ⟨g1, p0, p1, p2⟩ := (HR0.out.below HN.out).three hlt
      have hall := mokAt_all (mokB_at HM.out hlt)
      have hhit : seqHit xs a k = (decide (xs.getD (k * 3) 0 ≤ a) && decide (a < xs.getD (k * 3) 0 + xs.getD (k * 3 + 2) 0)) := rfl
      have hval := seq_hit (a := a) HM.out hlt HP.out
      obtain ⟨x, hx⟩ : ∃ a, a = xs.getD (k * 3) 0 := ⟨_, rfl⟩
      obtain ⟨y, hy⟩ : ∃ a, a = xs.getD (k * 3 + 1) 0 := ⟨_, rfl⟩
      obtain ⟨z, hz⟩ : ∃ a, a = xs.getD (k * 3 + 2) 0 := ⟨_, rfl⟩
      rw [← hx, ← hy, ← hz] at hall
      rw [← hx, ← hz, ← hit_in] at hhit
      rw [← hx, ← hy] at hval
      rw [← hx] at p0
      rw [← hy] at p1
      rw [← hz] at p2
      clear hx hy hz
      have HV := Lib.hid hval
      have HH := Lib.hid hhit
      clear hval hhit
      have HN2 := Lib.hid (HN.out.alloc HN.out.size (.cells #[.int .i64 x, .int .i64 y, .int .i64 z] 59))
      go_wp2_with fail
      refine (within_i a x (x + z - 1) _).mono ?_
      rintro e w2 ⟨rfl, rfl⟩
      rw [← HH.out]
      by_cases c1 : seqHit xs a k = true
      · have HS := Lib.hid (HV.out c1)
        have c2 := HH.out.symm.trans c1
        simp only [Bool.and_eq_true, decide_eq_true_eq] at c2
        rw [c1]
        clear c1
        go_wp2
        go_ret2
        exact ⟨ret_two (by rw [HS.out.1]; rfl) (by rw [HS.out.2]; rfl), HN2.out⟩
      · have c2 : seqHit xs a k = false := by simpa using c1
        have HP2 : Hid (∀ j, j < k + 1 → seqHit xs a j = false) := Lib.hid (fun j hj => by
          by_cases e : j = k
          · rw [e]; exact c2
          · exact HP.out j (by omega))
        rw [c2]
        clear c1 c2
        go_wp2
        go_roundw
        case rel => exact ⟨k + 1, by omega, by go_num, HP2, HN2⟩
        case measure => (simp [intOf]; try omega)
end Go.Proofs.Ytpfhhmlbciojaaa
