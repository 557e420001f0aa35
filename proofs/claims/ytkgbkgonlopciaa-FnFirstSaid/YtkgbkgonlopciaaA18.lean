/- The walk of the reference's marks: which fields a shape names. -/
import Derived.Test.YtkgbkgonlopciaaA17
import Derived.Deep.Cut
import Derived.Outline
import Derived.Deep.QuietTactic
import Derived.BigQuiet
namespace Go.Proofs.Ytkgbkgonlopciaa
open Go.RowKit
set_option linter.unusedVariables false
set_option linter.unusedSimpArgs false
/-- the field of place q among the letters -/
def ord (q : Nat) : Nat := ([1, 10, 4, 5, 9, 6, 7, 8, 2, 3, 11, 12] : List Nat).getD q 0
def vbo (b : Bool) : Value := .bool b
/-- which fields a list names -/
def mkL (L : List (Nat × Nat)) : List Bool := (List.range 12).map fun q => L.any fun f => f.1 == ord q
/-- the first j fields are marked, and of the next the letters below q -/
def mkQ (L : List (Nat × Nat)) (j i q : Nat) : List Bool := (List.range 12).map fun q' => (L.take j).any (fun f => f.1 == ord q') || (decide (q' < q) && (i == ord q'))
theorem mkL_len (L : List (Nat × Nat)) : (mkL L).length = 12 := by simp [mkL]
theorem mkQ_len (L : List (Nat × Nat)) (j i q : Nat) : (mkQ L j i q).length = 12 := by simp [mkQ]
theorem mkQ_zero (L : List (Nat × Nat)) (j i : Nat) : mkQ L j i 0 = mkL (L.take j) := by simp [mkQ, mkL]
theorem mkQ_full (L : List (Nat × Nat)) (j : Nat) (h : j < L.length) : mkQ L j (L[j]'h).1 12 = mkL (L.take (j + 1)) := by
  unfold mkQ mkL
  rw [List.take_succ_eq_append_getElem h]
  refine List.map_congr_left fun q hq => ?_
  rw [List.any_append, decide_eq_true (List.mem_range.1 hq)]
  simp
theorem mkQ_no {L : List (Nat × Nat)} {j i q : Nat} (h : (i == ord q) = false) : mkQ L j i (q + 1) = mkQ L j i q := by
  unfold mkQ
  refine List.map_congr_left fun q' _ => ?_
  by_cases e : q' = q
  · subst e; simp [h]
  · have : decide (q' < q + 1) = decide (q' < q) := decide_eq_decide.2 (by omega)
    rw [this]
theorem mkQ_yes {L : List (Nat × Nat)} {j i q : Nat} (hq : q < 12) (h : (i == ord q) = true) : ((mkQ L j i q).map vbo).set q (vbo true) = (mkQ L j i (q + 1)).map vbo := by
  apply List.ext_getElem
  · simp [mkQ]
  · intro p h1 h2
    simp only [List.length_set, List.length_map, mkQ_len] at h1
    rw [List.getElem_set]
    split
    · rename_i e
      subst e
      simp [mkQ, h]
    · rename_i e
      simp only [mkQ, List.getElem_map, List.getElem_range]
      have : decide (p < q + 1) = decide (p < q) := decide_eq_decide.2 (by omega)
      rw [this]
theorem let_at (q : Nat) (hq : q < 12) (hsz : q < (⟨#[105, 102, 116, 110, 97, 115, 117, 108, 100, 112, 107, 109]⟩ : ByteArray).size) : (⟨#[105, 102, 116, 110, 97, 115, 117, 108, 100, 112, 107, 109]⟩ : ByteArray)[q]'hsz = ltr (ord q) := by
  have : ∀ i : Fin 12, (⟨#[105, 102, 116, 110, 97, 115, 117, 108, 100, 112, 107, 109]⟩ : ByteArray)[i.1]'(i.2) = ltr (ord i.1) := by decide
  exact this ⟨q, hq⟩
theorem ltr_inj (q i : Nat) (hq : q < 12) (h1 : 1 ≤ i) (h12 : i ≤ 12) : (((ltr (ord q)).toNat : Int) == ((ltr i).toNat : Int)) = (i == ord q) := by
  have : ∀ q : Fin 12, ∀ i : Fin 12, (((ltr (ord q.1)).toNat : Int) == ((ltr (i.1 + 1)).toNat : Int)) = ((i.1 + 1) == ord q.1) := by decide +kernel
  have := this ⟨q, hq⟩ ⟨i - 1, by omega⟩
  simpa [show i - 1 + 1 = i by omega] using this
theorem bool_info : (Try.prog.info? 4).map (fun i => (i.zero, i.size, i.bytes)) = some (some (.bool false), 1, 1) := by kernel_rfl
set_option maxRecDepth 100000 in
set_option maxHeartbeats 3200000 in
theorem marks_s (k : Int) (w : World) : Calls Try.prog 98 #[.string (shp k)] w (GivesRow 1 12 ((mkL (lay k)).map vbo) w) := by
  obtain ⟨i0, hi, hz0, hz1, hz2⟩ := info_parts bool_info
  have hmk := make_eq (P := Try.prog) 107 4 i0 (.bool false) Try.underlying107 hi hz0 12 (by rw [hz2]; omega) (by unfold maxLen; omega)
  rw [hz1, show ((12 : Nat) : Int) = 12 from rfl] at hmk
  have e0 : (madeCells (Value.bool false).cells (12 * 1)).toList = (mkL ((lay k).take 0)).map vbo := by
    rw [show (Value.bool false).cells = #[.bool false] from rfl, toList_madeCells_one]
    rfl
  have own0 : Obs (w.alloc (.cells (madeCells (Value.bool false).cells (12 * 1)) 4)) w.heap.size 1 (.slice (some ⟨w.heap.size, 0, none⟩) 12 12) 12 ((mkL ((lay k).take 0)).map vbo) := by
    rw [← e0]
    exact Obs.of_own (World.ownsRow_lit (base := w.heap.size) (e := 4) (size := 1) w _ 12 (Nat.le_refl _) (by unfold maxLen; omega) (by rw [← Array.length_toList, e0]; simp [mkL]))
  have HO := Lib.hid own0
  obtain ⟨C, hC⟩ : ∃ C, C = madeCells (Value.bool false).cells (12 * 1) := ⟨_, rfl⟩
  rw [← hC] at hmk HO
  clear e0 own0 hC
  have HN := Lib.hid ((Below.refl w.heap.size w).alloc (Nat.le_refl _) (.cells C 4))
  obtain ⟨s, hs⟩ : ∃ s, s = shp k := ⟨_, rfl⟩
  obtain ⟨m, hm⟩ : ∃ m, m = (lay k).length := ⟨_, rfl⟩
  have hss : s.size = m * 2 := by rw [hs, hm]; exact shp_size k
  have hm4 : m ≤ 4 := by
    rw [hm]; unfold lay
    repeat' split
    all_goals simp
  rw [← hs]
  have HS := Lib.hid hs
  have HM := Lib.hid hm
  have HSS := Lib.hid hss
  clear hs hm hss
  go_enter Try.func98, Try.ntmps98
  go_wp2
  go_loopw [4] (fun i wr => ∃ j : Nat, j ≤ m ∧ i = .int .i64 (((j * 2 : Nat)) : Int) ∧ Hid (Obs wr w.heap.size 1 (.slice (some ⟨w.heap.size, 0, none⟩) 12 12) 12 ((mkL ((lay k).take j)).map vbo)) ∧ Hid (Below w.heap.size w wr)) (fun i _ => m * 2 - (intOf i).toNat)
  case atStart => exact ⟨0, Nat.zero_le _, rfl, HO, HN⟩
  case round =>
    clear HO HN
    obtain ⟨j, hj, rfl, HO, HN⟩ := hrel
    by_cases hlt : j < m
    case neg =>
      obtain rfl : j = m := by omega
      have HE : Hid (Obs wr w.heap.size 1 (.slice (some ⟨w.heap.size, 0, none⟩) 12 12) 12 ((mkL (lay k)).map vbo)) := Lib.hid (by have := HO.out; rwa [HM.out, List.take_length] at this)
      have q1 : ¬ (((j * 2 : Nat) : Int) + 1 < (s.size : Int)) := by have := HSS.out; omega
      go_wp2
      go_ret
      exact ⟨_, rfl, HE.out, HN.out⟩
    have q1 : (((j * 2 : Nat) : Int) + 1 < (s.size : Int)) := by have := HSS.out; omega
    have hfl : j < (lay k).length := by have := HM.out; omega
    obtain ⟨h1, h2, e1, e1'⟩ := shp_at hfl
    clear e1'
    obtain ⟨i1, i12, e4, e5⟩ := lay_at hfl
    clear e4 e5
    have HF := Lib.hid (mkQ_full (lay k) j hfl)
    obtain ⟨i, hi2⟩ : ∃ i, i = ((lay k)[j]'hfl).1 := ⟨_, rfl⟩
    rw [← hi2] at e1 i1 i12 HF
    clear hi2 hfl h2
    have hb : j * 2 < s.size := by have := HSS.out; omega
    have e2 : s[j * 2]'hb = ltr i := by
      have h3 := HS.out
      subst h3
      exact e1
    clear e1 h1
    have HO2 : Hid (Obs wr w.heap.size 1 (.slice (some ⟨w.heap.size, 0, none⟩) 12 12) 12 ((mkQ (lay k) j i 0).map vbo)) := Lib.hid (by rw [mkQ_zero]; exact HO.out)
    clear HO
    obtain ⟨p, hp⟩ : ∃ p, p = j * 2 := ⟨_, rfl⟩
    have HP := Lib.hid hp
    have hpb : p < s.size := by omega
    have hp8 : p ≤ 8 := by omega
    have e3 : s[p]'hpb = ltr i := by subst hp; exact e2
    rw [← hp] at q1 ⊢
    clear hp hb e2
    go_wp2
    obtain ⟨wo, rfl⟩ : ∃ wo : World, wo = wr := ⟨_, rfl⟩
    go_loopw [5] (fun i5 wr2 => ∃ q : Nat, q ≤ 12 ∧ i5 = .int .i64 (q : Int) ∧ Hid (Obs wr2 w.heap.size 1 (.slice (some ⟨w.heap.size, 0, none⟩) 12 12) 12 ((mkQ (lay k) j i q).map vbo)) ∧ Hid (Below w.heap.size w wr2)) (fun i5 _ => 12 - (intOf i5).toNat)
    case atStart => exact ⟨0, Nat.zero_le _, rfl, HO2, HN⟩
    case round =>
      clear HO2 HN
      obtain ⟨q, hq, rfl, HO, HN⟩ := hrel
      by_cases hq12 : q < 12
      case neg =>
        have HE : Hid (Obs wr w.heap.size 1 (.slice (some ⟨w.heap.size, 0, none⟩) 12 12) 12 ((mkL ((lay k).take (j + 1))).map vbo)) := Lib.hid (by have := HO.out; rwa [show q = 12 by omega, HF.out] at this)
        have q2 : ¬ ((q : Int) < 12) := by omega
        go_wp2
        go_roundw
        case rel => exact ⟨j + 1, by omega, by rw [show (j + 1) * 2 = p + 2 by have := HP.out; omega]; go_num, HE, HN⟩
        case measure => (have := HP.out; simp [intOf]; try omega)
      have hT := let_at q hq12
      have hlt12 : (q : Int) < 12 := by omega
      have hcmp := ltr_inj q i hq12 i1 i12
      cases hb : (i == ord q)
      · rw [hb] at hcmp
        have HO2 : Hid (Obs wr w.heap.size 1 (.slice (some ⟨w.heap.size, 0, none⟩) 12 12) 12 ((mkQ (lay k) j i (q + 1)).map vbo)) := Lib.hid (by rw [mkQ_no hb]; exact HO.out)
        clear hb HO
        go_wp2_with fail
        go_quiet (fail)
        go_wp2
        go_roundw
        case rel => exact ⟨q + 1, by omega, by go_num, Lib.hid (HO2.out.drewN _), Lib.hid (below_drewN HN.out _)⟩
        case measure => (simp [intOf]; try omega)
      · rw [hb] at hcmp
        obtain ⟨u, hu⟩ : ∃ u, ((mkQ (lay k) j i q).map vbo)[q]? = some u := ⟨_, List.getElem?_eq_getElem (by simp [mkQ_len]; omega)⟩
        obtain ⟨r0, f0⟩ := HO.out.cellAt hu
        clear hu
        have HO2 : Hid (∀ d : Nat, Obs ((wr.drewN d).setCell ⟨w.heap.size, q, none⟩ (vbo true)) w.heap.size 1 (.slice (some ⟨w.heap.size, 0, none⟩) 12 12) 12 ((mkQ (lay k) j i (q + 1)).map vbo)) := Lib.hid (fun d => by
          have H2 := (HO.out.drewN d).set_ q (by omega) (vbo true)
          rwa [mkQ_yes hq12 hb] at H2)
        clear hb
        go_wp2_with fail
        go_quiet (fail)
        go_wp2
        go_roundw
        case rel => exact ⟨q + 1, by omega, by go_num, Lib.hid (HO2.out _), Lib.hid ((below_drewN HN.out _).setCell (by dsimp only; omega) _)⟩
        case measure => (simp [intOf]; try omega)
end Go.Proofs.Ytkgbkgonlopciaa
