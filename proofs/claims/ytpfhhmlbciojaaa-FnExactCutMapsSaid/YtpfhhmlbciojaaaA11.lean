/- The walks of CutMaps. -/
import Derived.Test.YtpfhhmlbciojaaaProg
import Derived.Test.YtpfhhmlbciojaaaK
import Derived.Test.YtpfhhmlbciojaaaK2
import Derived.Test.YtpfhhmlbciojaaaK4
import Derived.Test.YtpfhhmlbciojaaaA1
import Derived.Test.YtpfhhmlbciojaaaA8
import Derived.Test.YtpfhhmlbciojaaaM4
import Derived.Test.YtpfhhmlbciojaaaA9
import Derived.Test.YtpfhhmlbciojaaaA10
import Derived.Deep.QuietTactic
import Derived.BigQuiet
namespace Go.Proofs.Ytpfhhmlbciojaaa
open Go.RowKit
set_option linter.unusedVariables false
set_option linter.unusedSimpArgs false
/-- element k stays -/
def cutK (xs : List Int) (n : Nat) (a : Int) (k : Nat) : Bool := !(mokB xs n) || decide (a < xs.getD (k * 3) 0 + xs.getD (k * 3 + 2) 0)
def cutC (xs : List Int) (n : Nat) (a : Int) (j : Nat) : Nat := ((List.range j).filter (cutK xs n a)).length
def cutL (xs : List Int) (n : Nat) (a : Int) (j : Nat) : List Int := ((List.range j).filter (cutK xs n a)).flatMap fun k => [xs.getD (k * 3) 0, xs.getD (k * 3 + 1) 0, xs.getD (k * 3 + 2) 0]
theorem cut_yes {xs : List Int} {n : Nat} {a : Int} {k : Nat} (h : cutK xs n a k = true) : cutC xs n a (k + 1) = cutC xs n a k + 1 ∧ cutL xs n a (k + 1) = cutL xs n a k ++ [xs.getD (k * 3) 0, xs.getD (k * 3 + 1) 0, xs.getD (k * 3 + 2) 0] := by
  unfold cutC cutL
  rw [List.range_succ, List.filter_append]
  simp [h]
theorem cut_no {xs : List Int} {n : Nat} {a : Int} {k : Nat} (h : cutK xs n a k = false) : cutC xs n a (k + 1) = cutC xs n a k ∧ cutL xs n a (k + 1) = cutL xs n a k := by
  unfold cutC cutL
  rw [List.range_succ, List.filter_append]
  simp [h]
theorem cutC_le (xs : List Int) (n : Nat) (a : Int) (j : Nat) : cutC xs n a j ≤ j := by
  unfold cutC
  have := List.length_filter_le (cutK xs n a) (List.range j)
  simpa using this
theorem three_take {xs : List Int} {k n : Nat} (hl : xs.length = n * 3) (h : k < n) : xs.take ((k + 1) * 3) = xs.take (k * 3) ++ [xs.getD (k * 3) 0, xs.getD (k * 3 + 1) 0, xs.getD (k * 3 + 2) 0] := by
  have g : ∀ i, i < xs.length → xs.take (i + 1) = xs.take i ++ [xs.getD i 0] := fun i hi => by
    rw [List.take_succ_eq_append_getElem hi, List.getD_eq_getElem?_getD, List.getElem?_eq_getElem hi]; rfl
  rw [show (k + 1) * 3 = k * 3 + 2 + 1 by omega, g _ (by omega), g (k * 3 + 1) (by omega), g (k * 3) (by omega)]
  simp
theorem cut_all {xs : List Int} {n : Nat} {a : Int} (hl : xs.length = n * 3) (h : mokB xs n = false) : ∀ j, j ≤ n → cutC xs n a j = j ∧ cutL xs n a j = xs.take (j * 3)
  | 0, _ => by simp [cutC, cutL]
  | j + 1, hj => by
    obtain ⟨h1, h2⟩ := cut_all (a := a) hl h j (by omega)
    have hk : cutK xs n a j = true := by unfold cutK; rw [h]; rfl
    obtain ⟨h3, h4⟩ := cut_yes hk
    exact ⟨by rw [h3, h1], by rw [h4, h2, three_take hl (by omega)]⟩
theorem cut_same {xs : List Int} {n : Nat} {a : Int} (hl : xs.length = n * 3) (h : mokB xs n = false) : cutC xs n a n = n ∧ cutL xs n a n = xs := by
  obtain ⟨h1, h2⟩ := cut_all (a := a) hl h n (Nat.le_refl _)
  exact ⟨h1, by rw [h2, List.take_of_length_le (by omega)]⟩
theorem vn_one3 (l : List Int) : ∀ u, u ∈ l.map vn → u.oneCell' = true := by
  intro u hu
  obtain ⟨b, _, rfl⟩ := List.mem_map.1 hu
  rfl
/-- a built row of one map -/
theorem obs_three (w : World) (e : TypeId) (x y z : Int) (B : Nat) (hB : B ≤ w.heap.size) : Obs (w.alloc (.cells #[.int .i64 x, .int .i64 y, .int .i64 z] e)) B 3 (.slice (some ⟨w.heap.size, 0, none⟩) 1 1) 1 ([x, y, z].map vn) :=
  Obs.of_own (World.ownsRow_lit (base := B) (e := e) (size := 3) w #[.int .i64 x, .int .i64 y, .int .i64 z] 1 hB (by simp [maxLen]) rfl)
theorem obs_three_at (w : World) (e : TypeId) (x y z : Int) (B g : Nat) (hg : g = w.heap.size) (hB : B ≤ w.heap.size) : Obs (w.alloc (.cells #[.int .i64 x, .int .i64 y, .int .i64 z] e)) B 3 (.slice (some ⟨g, 0, none⟩) 1 1) 1 ([x, y, z].map vn) := by
  subst hg; exact obs_three w e x y z B hB
theorem copyMaps_i (v : Value) (n : Nat) (xs : List Int) (B : Nat) (w : World) (h : Obs w B 3 v n (xs.map vn)) (hn : n ≤ 4294967296) :
    Calls Try.prog 45 #[v] w (GivesRow 3 n (xs.map vn) w) := by
  obtain ⟨i0, hi, hz0, hz1, hz2⟩ := info_parts map_info
  have he := Lib.hid (obs_empty8 w 59 3 w.heap.size (Nat.le_refl _))
  have H := Lib.hid (h.alloc (.cells #[] 59))
  have hb : Below w.heap.size w (w.alloc (.cells #[] 59)) := (Below.refl _ _).alloc (Nat.le_refl _) _
  have HB := Lib.hid hb
  clear h hb
  go_enter Try.func45, Try.ntmps45
  go_wp2_with (at_builtin; refine wpList_append_obs2 _ rfl _ _ 44 rfl w.heap.size 59 i0 (vm 0 0 0) 3 24 Try.underlying44 hi hz0 hz1 hz2 rfl (by decide) _ 0 [] rfl he.out B v n (xs.map vn) rfl H.out (vn_one3 _) (by unfold maxLen; omega) (by omega) (by simp) ?_; intro v1 w1 hown1 hb1 hg1)
  go_ret
  refine ⟨v1, rfl, ?_, HB.out.trans hb1⟩
  rw [Nat.zero_add, List.nil_append] at hown1
  exact hown1
set_option maxHeartbeats 1600000 in
theorem cutMaps_i (v : Value) (n : Nat) (xs : List Int) (a : Int) (B : Nat) (w : World) (h : Obs w B 3 v n (xs.map vn)) (hn : n ≤ 4294967296) :
    Calls Try.prog 32 #[v, .int .i64 a] w (GivesRow 3 (cutC xs n a n) ((cutL xs n a n).map vn) w) := by
  obtain ⟨i0, hi, hz0, hz1, hz2⟩ := info_parts map_info
  have hl : xs.length = n * 3 := by have := h.1; simpa using this
  have HO0 := Lib.hid h
  have HR0 := Lib.hid h.rd
  clear h
  go_enter Try.func32, Try.ntmps32
  go_wp2_with fail
  refine (mapsOk_i _ n xs _ HR0.out).mono ?_
  rintro e w1 ⟨rfl, hb1⟩
  have HN1 := Lib.hid hb1
  have HO1 := Lib.hid (HO0.out.below hb1)
  clear hb1
  by_cases hok : mokB xs n = true
  case neg =>
    have hf : mokB xs n = false := by simpa using hok
    have HS := Lib.hid (cut_same (a := a) hl hf)
    rw [hf]
    clear hf hok hl
    go_wp2_with fail
    refine (copyMaps_i _ n xs B _ HO1.out hn).mono ?_
    rintro e w2 ⟨v2, rfl, ho2, hb2⟩
    have O2 := Lib.hid ho2
    have B2 := Lib.hid hb2
    clear ho2 hb2
    go_wp2
    go_ret
    exact ⟨v2, rfl, by rw [HS.out.1, HS.out.2]; exact O2.out.mono HN1.out.size, HN1.out.trans (B2.out.mono HN1.out.size)⟩
  have HM := Lib.hid hok
  rw [hok]
  have HK : Hid (∀ k, cutK xs n a k = decide (a < xs.getD (k * 3) 0 + xs.getD (k * 3 + 2) 0)) := Lib.hid (fun k => by unfold cutK; rw [hok]; rfl)
  clear hok hl
  obtain ⟨A, ca, rfl, hm⟩ := HR0.out.shape
  unfold maxLen at hm
  go_wp2
  go_loopw [5, 15] (fun o i wr => ∃ k : Nat, k ≤ n ∧ i = .int .i64 (k : Int) ∧ Hid (Obs wr w.heap.size 3 o (cutC xs n a k) ((cutL xs n a k).map vn)) ∧ Hid (Below w.heap.size w wr)) (fun _ i _ => n - (intOf i).toNat)
  case atStart => exact ⟨0, Nat.zero_le _, rfl, Lib.hid (Obs.nil _ _ _), HN1⟩
  case round =>
    clear HN1 HO1
    obtain ⟨k, hk, rfl, HO, HN⟩ := hrel
    obtain ⟨A2, c2, rfl⟩ := HO.out.shape
    by_cases hlt : k < n
    case neg =>
      obtain rfl : k = n := by omega
      go_wp2
      go_ret
      exact ⟨_, rfl, HO.out, HN.out⟩
    obtain ⟨b1, o1, c1, he, hb1, _, _⟩ := HR0.out.full (by omega)
    simp only [Value.slice.injEq] at he
    obtain ⟨rfl, _, rfl⟩ := he
    obtain ⟨g1, p0, p1, p2⟩ := (HR0.out.below HN.out).three hlt
    have hall := mokAt_all (mokB_at HM.out hlt)
    have hcut := HK.out k
    have hyes := cut_yes (xs := xs) (n := n) (a := a) (k := k)
    have hno := cut_no (xs := xs) (n := n) (a := a) (k := k)
    have hcl := cutC_le xs n a k
    obtain ⟨x, hx⟩ : ∃ a, a = xs.getD (k * 3) 0 := ⟨_, rfl⟩
    obtain ⟨y, hy⟩ : ∃ a, a = xs.getD (k * 3 + 1) 0 := ⟨_, rfl⟩
    obtain ⟨z, hz⟩ : ∃ a, a = xs.getD (k * 3 + 2) 0 := ⟨_, rfl⟩
    rw [← hx, ← hy, ← hz] at hall
    rw [← hx, ← hz] at hcut
    rw [← hx, ← hy, ← hz] at hyes
    rw [← hx] at p0
    rw [← hy] at p1
    rw [← hz] at p2
    clear hx hy hz
    have HY := Lib.hid hyes
    have HNo := Lib.hid hno
    have HC := Lib.hid hcut
    clear hyes hno hcut
    have HN2 := Lib.hid (HN.out.alloc HN.out.size (.cells #[.int .i64 x, .int .i64 y, .int .i64 z] 59))
    have HO2 := Lib.hid (HO.out.alloc (.cells #[.int .i64 x, .int .i64 y, .int .i64 z] 59))
    clear HO HN
    by_cases c2 : a < x + z
    case neg =>
      have HE := Lib.hid (HNo.out (by rw [HC.out, decide_eq_false c2]))
      have HO3 : Hid (Obs _ w.heap.size 3 _ (cutC xs n a (k + 1)) ((cutL xs n a (k + 1)).map vn)) := Lib.hid (by rw [HE.out.1, HE.out.2]; exact HO2.out)
      go_wp2
      go_roundw
      case rel => exact ⟨k + 1, by omega, by go_num, HO3, HN2⟩
      case measure => (simp [intOf]; try omega)
    have HE := Lib.hid (HY.out (by rw [HC.out, decide_eq_true c2]))
    go_wp2_with (at_builtin; refine wpList_append_obs2 _ rfl _ _ 44 rfl w.heap.size 59 i0 (vm 0 0 0) 3 24 Try.underlying44 hi hz0 hz1 hz2 rfl (by decide) _ (cutC xs n a k) _ rfl (HO2.out.alloc _) w.heap.size _ 1 _ rfl (obs_three_at _ 59 x y z w.heap.size (wr.heap.size + 1) (by simp) HN2.out.size) (vn_one3 _) (by unfold maxLen; omega) (by omega) (by have := HN2.out.size; simp at this ⊢; omega) ?_; intro v3 w3 hown3 hb3 hg3)
    have H1 : Hid (Obs w3 w.heap.size 3 v3 (cutC xs n a (k + 1)) ((cutL xs n a (k + 1)).map vn)) := Lib.hid (by rw [HE.out.1, HE.out.2, List.map_append]; exact hown3)
    have H2 := Lib.hid ((HN2.out.alloc HN2.out.size _).trans hb3)
    clear hown3 hb3 hg3 HO2 HN2
    go_wp2
    go_roundw
    case rel => exact ⟨k + 1, by omega, by go_num, H1, H2⟩
    case measure => (simp [intOf]; try omega)
set_option maxHeartbeats 1600000 in
theorem cutMaps_s (v : Value) (n : Nat) (xs : List Int) (a : Int) (w : World) (h : Rd w 3 v n (xs.map vn)) (hn : n ≤ 4294967296) :
    Calls Try.prog 31 #[v, .int .i64 a] w (GivesRow 3 (cutC xs n a n) ((cutL xs n a n).map vn) w) := by
  obtain ⟨i0, hi, hz0, hz1, hz2⟩ := info_parts map_info
  have he := Lib.hid (obs_empty8 w 59 3 w.heap.size (Nat.le_refl _))
  have HB0 := Lib.hid ((Below.refl w.heap.size w).alloc (Nat.le_refl _) (.cells #[] 59))
  have HR0 := Lib.hid (h.below HB0.out)
  have HRw := Lib.hid h
  clear h
  go_enter Try.func31, Try.ntmps31
  go_wp2_with fail
  refine (mapsOk_s _ n xs _ HR0.out).mono ?_
  rintro e w1 ⟨rfl, hb1⟩
  have HE1 := Lib.hid (he.out.below hb1)
  have HN1 := Lib.hid (HB0.out.trans (hb1.mono HB0.out.size))
  clear hb1 he HB0 HR0
  obtain ⟨bt, hbt⟩ : ∃ b, b = mokB xs n := ⟨_, rfl⟩
  have HK : Hid (∀ k, cutK xs n a k = (!bt || decide (a < xs.getD (k * 3) 0 + xs.getD (k * 3 + 2) 0))) := Lib.hid (fun k => by unfold cutK; rw [hbt])
  have HM : Hid (bt = true → ∀ k, k < n → mokAt xs k = true) := Lib.hid (fun hb k hk => mokB_at (hbt.symm.trans hb) hk)
  rw [← hbt]
  clear hbt
  obtain ⟨A, ca, rfl, hm⟩ := HRw.out.shape
  unfold maxLen at hm
  go_wp2
  go_loopw [5, 7] (fun o i wr => ∃ k : Nat, k ≤ n ∧ i = .int .i64 (k : Int) ∧ Hid (Obs wr w.heap.size 3 o (cutC xs n a k) ((cutL xs n a k).map vn)) ∧ Hid (Below w.heap.size w wr) ) (fun _ i _ => n - (intOf i).toNat)
  case atStart => exact ⟨0, Nat.zero_le _, rfl, HE1, HN1⟩
  case round =>
    clear HN1 HE1
    obtain ⟨k, hk, rfl, HO, HN⟩ := hrel
    obtain ⟨A2, c2, rfl⟩ := HO.out.shape
    by_cases hlt : k < n
    case neg =>
      obtain rfl : k = n := by omega
      go_wp2
      go_ret
      exact ⟨_, rfl, HO.out, HN.out⟩
    obtain ⟨b1, o1, c1, he, hb1, _, _⟩ := HRw.out.full (by omega)
    simp only [Value.slice.injEq] at he
    obtain ⟨rfl, _, rfl⟩ := he
    obtain ⟨g1, p0, p1, p2⟩ := (HRw.out.below HN.out).three hlt
    have hall : bt = true → (0 ≤ xs.getD (k * 3) 0 ∧ xs.getD (k * 3) 0 ≤ 1000000000) ∧ (0 ≤ xs.getD (k * 3 + 1) 0 ∧ xs.getD (k * 3 + 1) 0 ≤ 1000000000) ∧ (1 ≤ xs.getD (k * 3 + 2) 0 ∧ xs.getD (k * 3 + 2) 0 ≤ 100000) := fun hb => mokAt_all (HM.out hb k hlt)
    have hcut := HK.out k
    have hyes := cut_yes (xs := xs) (n := n) (a := a) (k := k)
    have hno := cut_no (xs := xs) (n := n) (a := a) (k := k)
    have hcl := cutC_le xs n a k
    obtain ⟨x, hx⟩ : ∃ a, a = xs.getD (k * 3) 0 := ⟨_, rfl⟩
    obtain ⟨y, hy⟩ : ∃ a, a = xs.getD (k * 3 + 1) 0 := ⟨_, rfl⟩
    obtain ⟨z, hz⟩ : ∃ a, a = xs.getD (k * 3 + 2) 0 := ⟨_, rfl⟩
    rw [← hx, ← hy, ← hz] at hall
    rw [← hx, ← hz] at hcut
    rw [← hx, ← hy, ← hz] at hyes
    rw [← hx] at p0
    rw [← hy] at p1
    rw [← hz] at p2
    clear hx hy hz
    have HY := Lib.hid hyes
    have HNo := Lib.hid hno
    have HC := Lib.hid hcut
    have HAll := Lib.hid hall
    clear hyes hno hcut hall
    cases bt
    case false =>
      have HE := Lib.hid (HY.out (by rw [HC.out]; rfl))
      clear HC HNo HY HAll
      go_wp2_with fail
      go_quiet (fail)
      rename_i nq
      have HOq := Lib.hid (HO.out.drewN nq)
      have HNq := Lib.hid (below_drewN HN.out nq)
      clear HO HN
      go_wp2_with (at_builtin; refine wpList_append_obs2 _ rfl _ _ 44 rfl w.heap.size 59 i0 (vm 0 0 0) 3 24 Try.underlying44 hi hz0 hz1 hz2 rfl (by decide) _ (cutC xs n a k) _ rfl (HOq.out.alloc _) w.heap.size _ 1 _ rfl (obs_three_at _ 59 x y z w.heap.size wr.heap.size (by simp) HNq.out.size) (vn_one3 _) (by unfold maxLen; omega) (by omega) (by have := HNq.out.size; simp at this ⊢; omega) ?_; intro v3 w3 hown3 hb3 hg3)
      have H1 : Hid (Obs w3 w.heap.size 3 v3 (cutC xs n a (k + 1)) ((cutL xs n a (k + 1)).map vn)) := Lib.hid (by rw [HE.out.1, HE.out.2, List.map_append]; exact hown3)
      have H2 := Lib.hid ((HNq.out.alloc HNq.out.size _).trans hb3)
      clear hown3 hb3 hg3 HOq HNq
      go_wp2
      go_roundw
      case rel => exact ⟨k + 1, by omega, by go_num, H1, H2⟩
      case measure => (simp [intOf]; try omega)
    case true =>
      have hall := HAll.out rfl
      have q1 : IntKind.i64.wrap (x + z) = x + z := IntWalk.i64_in _ (by omega)
      by_cases c2 : a < x + z
      case neg =>
        have HE := Lib.hid (HNo.out (by rw [HC.out, decide_eq_false c2]; rfl))
        have HO3 : Hid (Obs wr w.heap.size 3 _ (cutC xs n a (k + 1)) ((cutL xs n a (k + 1)).map vn)) := Lib.hid (by rw [HE.out.1, HE.out.2]; exact HO.out)
        clear HC HNo HY HAll HO
        go_wp2_with fail
        go_quiet (fail)
        rename_i nq
        have HOq := Lib.hid (HO3.out.drewN nq)
        have HNq := Lib.hid (below_drewN HN.out nq)
        go_wp2
        go_roundw
        case rel => exact ⟨k + 1, by omega, by go_num, HOq, HNq⟩
        case measure => (simp [intOf]; try omega)
      have HE := Lib.hid (HY.out (by rw [HC.out, decide_eq_true c2]; rfl))
      clear HC HNo HY HAll
      go_wp2_with fail
      go_quiet (fail)
      rename_i nq
      have HOq := Lib.hid (HO.out.drewN nq)
      have HNq := Lib.hid (below_drewN HN.out nq)
      clear HO HN
      go_wp2_with (at_builtin; refine wpList_append_obs2 _ rfl _ _ 44 rfl w.heap.size 59 i0 (vm 0 0 0) 3 24 Try.underlying44 hi hz0 hz1 hz2 rfl (by decide) _ (cutC xs n a k) _ rfl (HOq.out.alloc _) w.heap.size _ 1 _ rfl (obs_three_at _ 59 x y z w.heap.size wr.heap.size (by simp) HNq.out.size) (vn_one3 _) (by unfold maxLen; omega) (by omega) (by have := HNq.out.size; simp at this ⊢; omega) ?_; intro v3 w3 hown3 hb3 hg3)
      have H1 : Hid (Obs w3 w.heap.size 3 v3 (cutC xs n a (k + 1)) ((cutL xs n a (k + 1)).map vn)) := Lib.hid (by rw [HE.out.1, HE.out.2, List.map_append]; exact hown3)
      have H2 := Lib.hid ((HNq.out.alloc HNq.out.size _).trans hb3)
      clear hown3 hb3 hg3 HOq HNq
      go_wp2
      go_roundw
      case rel => exact ⟨k + 1, by omega, by go_num, H1, H2⟩
      case measure => (simp [intOf]; try omega)
end Go.Proofs.Ytpfhhmlbciojaaa
