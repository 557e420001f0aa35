/- The walks: long texts, picks, drawn texts, told exactly. -/
import Derived.Test.YtkgbkgonlopciaaD5
import Derived.Deep.Cut
namespace Go.Proofs.Ytkgbkgonlopciaa
open Go.RowKit
set_option linter.unusedVariables false
set_option linter.unusedSimpArgs false
theorem u8_info' : (Try.prog.info? 5).map (fun i => (i.zero, i.size, i.bytes)) = some (some (.int .u8 0), 1, 1) := by kernel_rfl
def longL (M x : Nat) : List UInt8 := List.replicate M (UInt8.ofNat x)
theorem long_set {M j x : Nat} (h : j < M) (hx : x < 256) : ((List.replicate j (UInt8.ofNat x) ++ List.replicate (M - j) 0).map vb).set j (.int .u8 (x : Int)) = (List.replicate (j + 1) (UInt8.ofNat x) ++ List.replicate (M - (j + 1)) 0).map vb := by
  rw [show M - j = (M - (j + 1)) + 1 by omega, List.replicate_succ (n := M - (j + 1)), List.map_append, List.map_cons, List.set_append_right _ _ (by simp), List.length_map, List.length_replicate, Nat.sub_self, List.set_cons_zero, List.replicate_succ' (n := j), List.append_assoc, List.map_append]
  congr 1
  rw [List.singleton_append, List.map_cons]
  congr 1
  unfold vb
  congr 1
  have : (UInt8.ofNat x).toNat = x := by simp; omega
  rw [this]
set_option maxRecDepth 100000 in
theorem long_s (M x : Nat) (w : World) (hM : M ≤ 1000000) (hx : x < 256) : Calls Try.prog 93 #[.int .i64 (M : Int), .int .u8 (x : Int)] w fun e w' => e = .returned (.string (str (longL M x))) ∧ Below w.heap.size w w' := by
  obtain ⟨i0, hi, hz0, hz1, hz2⟩ := info_parts u8_info'
  have hm : M ≤ maxLen := by unfold maxLen; omega
  have hmk := make_eq (P := Try.prog) 40 5 i0 (.int .u8 0) Try.underlying40 hi hz0 M (by rw [hz2]; omega) hm
  rw [hz1] at hmk
  have own0 : Obs (w.alloc (.cells (madeCells (Value.int IntKind.u8 0).cells (M * 1)) 5)) w.heap.size 1 (.slice (some ⟨w.heap.size, 0, none⟩) M M) M ((List.replicate M (0 : UInt8)).map vb) := by
    rw [← zeros_eq]
    exact Obs.of_own (World.ownsRow_lit (base := w.heap.size) (e := 5) (size := 1) w _ M (Nat.le_refl _) hm (by rw [← Array.length_toList, zeros_eq]; simp))
  have HO := Lib.hid own0
  obtain ⟨C, hC⟩ : ∃ C, C = madeCells (Value.int IntKind.u8 0).cells (M * 1) := ⟨_, rfl⟩
  rw [← hC] at hmk HO
  clear own0 hC
  have HN := Lib.hid ((Below.refl w.heap.size w).alloc (Nat.le_refl _) (.cells C 5))
  go_enter Try.func93, Try.ntmps93
  go_wp2
  go_loopw [6] (fun i wr => ∃ j : Nat, j ≤ M ∧ i = .int .i64 (j : Int) ∧ Hid (Obs wr w.heap.size 1 (.slice (some ⟨w.heap.size, 0, none⟩) M M) M ((List.replicate j (UInt8.ofNat x) ++ List.replicate (M - j) 0).map vb)) ∧ Hid (Below w.heap.size w wr)) (fun i _ => M - (intOf i).toNat)
  case atStart => exact ⟨0, Nat.zero_le _, rfl, by simpa using HO, HN⟩
  case round =>
    clear HO HN hmk
    obtain ⟨j, hj, rfl, HO, HN⟩ := hrel
    by_cases hlt : j < M
    · obtain ⟨u, hu⟩ : ∃ u, ((List.replicate j (UInt8.ofNat x) ++ List.replicate (M - j) 0).map vb)[j]? = some u := ⟨_, List.getElem?_eq_getElem (by simp; omega)⟩
      obtain ⟨hcell, hfr⟩ := HO.out.cellAt hu
      have HO2 := Lib.hid (HO.out.set_ j (by omega) (.int .u8 (x : Int)))
      rw [long_set hlt hx] at HO2
      have HN2 := Lib.hid (HN.out.setCell (p := ⟨w.heap.size, j, none⟩) (Nat.le_refl _) (.int .u8 (x : Int)))
      clear hu HO HN
      go_wp2
      go_roundw
      case rel => exact ⟨j + 1, by omega, by go_num, HO2, HN2⟩
      case measure => (simp [intOf]; try omega)
    · obtain rfl : j = M := by omega
      have HL : Hid (List.replicate j (UInt8.ofNat x) ++ List.replicate (j - j) 0 = longL j x) := Lib.hid (by rw [Nat.sub_self]; simp [longL])
      rw [HL.out] at HO
      have hst : Sem.run Try.prog (convert 40 9 (.slice (some ⟨w.heap.size, 0, none⟩) j j)) wr = .ok (.string (str (longL j x))) wr := obs_string (P := Try.prog) wr 40 9 5 Try.underlying40 Try.underlying5 Try.underlying9 HO.out
      go_wp2
      go_ret
      exact ⟨rfl, HN.out⟩
set_option maxRecDepth 100000 in
theorem pickInt_u (v : Value) (n : Nat) (xs : List Int) (st : Nat × Int) (g : Nat) (v2 : Value) (m : Nat) (ys : List Int) (w : World) (hc : CurS v n xs w g st) (hv : Rd w 1 v2 m (ys.map vn)) (h0 : 0 < m) (hm : m ≤ 256)
    (hne : ∀ b off k cap, v2 = .slice (some ⟨b, off, none⟩) k cap → b ≠ g) : Calls Try.prog 92 #[.pointer (some ⟨g, 0, none⟩), v2] w fun e w' => e = .returned (.int .i64 (ys.getD (belowX xs m st) 0)) ∧ CurS v n xs w' g (belowN xs m st) ∧ Grew w w' g := by
  obtain ⟨A, cap, rfl, hmm⟩ := hv.shape
  have hl : ys.length = m := by have := hv.len; simpa using this
  have HL := Lib.hid hl
  have HC := Lib.hid hc
  have HV := Lib.hid hv
  have HNE := Lib.hid hne
  obtain ⟨x, hx⟩ : ∃ x, x = belowX xs m st := ⟨_, rfl⟩
  have hxm : x < m := by rw [hx]; exact belowX_lt xs st h0
  rw [← hx]
  have HX := Lib.hid hx
  clear hc hv hl hne hmm hx
  go_enter Try.func92, Try.ntmps92
  go_wp2_with fail
  refine (below_u v n xs st g m _ HC.out h0 (by omega)).mono ?_
  rw [← HX.out]
  rintro e w1 ⟨rfl, hc1, hg1⟩
  have hxl : x < ys.length := by have := HL.out; omega
  obtain ⟨b, off, cap', he, hbl, hmm, hcc⟩ := (HV.out.grew hg1 (fun _ => HNE.out)).full h0
  simp only [Value.slice.injEq] at he
  obtain ⟨rfl, _, rfl⟩ := he
  have c1 : w1.cell? ⟨b, off + x, none⟩ = some (.int .i64 (ys[x]'hxl)) := hcc x _ (getElem?_map_vn _ _ _)
  obtain ⟨y, hy⟩ : ∃ y, y = ys[x]'hxl := ⟨_, rfl⟩
  have HY : Hid (ys.getD x 0 = y) := Lib.hid (by rw [hy, List.getD_eq_getElem?_getD, List.getElem?_eq_getElem hxl]; rfl)
  rw [← hy] at c1
  have C1 := Lib.hid hc1
  have G1 := Lib.hid hg1
  clear hcc hc1 hg1 hy
  go_wp2
  go_ret
  exact ⟨ret_int HY.out.symm, C1.out, G1.out⟩
end Go.Proofs.Ytkgbkgonlopciaa
