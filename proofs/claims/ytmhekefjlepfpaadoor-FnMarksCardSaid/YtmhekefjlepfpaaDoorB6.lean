/- The walks: Digest. -/
import Derived.Test.YtmhekefjlepfpaaDoorProg
import Derived.Test.YtmhekefjlepfpaaDoorK
import Derived.Test.YtmhekefjlepfpaaDoorK2
import Derived.Test.YtmhekefjlepfpaaDoorK3
import Derived.Test.YtmhekefjlepfpaaDoorK4
import Derived.Test.YtmhekefjlepfpaaDoorS
import Derived.Test.YtmhekefjlepfpaaDoorS2
import Derived.Test.YtmhekefjlepfpaaDoorA1
import Derived.Test.YtmhekefjlepfpaaDoorA4
import Derived.Test.YtmhekefjlepfpaaDoorB1
import Derived.Test.YtmhekefjlepfpaaDoorB2
import Derived.Test.YtmhekefjlepfpaaDoorB3
import Derived.Test.YtmhekefjlepfpaaDoorB4
import Derived.Test.YtmhekefjlepfpaaDoorB5
import Derived.Test.YtmhekefjlepfpaaDoorM1
import Derived.StillTailTactics
import Derived.Outline
namespace Go.Proofs.YtmhekefjlepfpaaDoor
open Go.RowKit
set_option linter.unusedVariables false
set_option linter.unusedSimpArgs false

theorem ext_data (s : ByteArray) (a b : Nat) (h : b ≤ s.size) : (s.extract a b).data.toList = (s.data.toList.drop a).take (b - a) := by
  rw [ByteArray.data_extract, Array.toList_extract, List.extract_eq_take_drop]
theorem str_add (a b : List UInt8) : str a ++ str b = str (a ++ b) := by
  unfold str
  simp [ByteArray.ext_iff]
/-- the first k words in bytes -/
def wordB (s : St) (k : Nat) : List UInt8 := ((stl s).take k).flatMap fun x => be x 4
theorem wordB_len {s : St} : ∀ {k : Nat}, k ≤ 8 → (wordB s k).length = 4 * k := by
  intro k hk
  rcases (show k = 0 ∨ k = 1 ∨ k = 2 ∨ k = 3 ∨ k = 4 ∨ k = 5 ∨ k = 6 ∨ k = 7 ∨ k = 8 by omega) with rfl | rfl | rfl | rfl | rfl | rfl | rfl | rfl | rfl <;> simp [wordB, stl, be_len]
theorem wordB_succ {s : St} {k : Nat} (h : k < 8) : wordB s (k + 1) = wordB s k ++ be ((stl s).getD k 0) 4 := by
  have hl : k < (stl s).length := by simp [stl]; omega
  unfold wordB
  rw [List.take_succ_eq_append_getElem hl, List.flatMap_append, List.getD_eq_getElem?_getD, List.getElem?_eq_getElem hl]
  simp
theorem wordB_all (s : St) : wordB s 8 = stB s := by simp [wordB, stl, stB]

/-- a whole array read out of a block that is known whole, in a region that only reads -/
theorem still_load_row {P : Program} {ops : Array Oper} {w : World} {Q : Act → Prop} {a : Act} {o : Oper} {rest : List Oper} (hgd : o.guard = none) (ty : TypeId) (x : Operand) (ho : o.op = .load ty x)
    (g : Nat) (hx : a.eval x = .pointer (some ⟨g, 0, none⟩)) (t : TypeId) (cs : Array Value) (fr : Nat × Nat) (d : TypeDesc) (hg : w.heap[g]? = some (.cells cs t fr))
    (hu : P.underlying ty = some d) (hd : (match d with | .struct _ | .array _ _ => true | _ => false) = true) (hi : (P.info? ty).map (·.size) = some cs.size)
    (h : wpStill P ops w Q rest (a.put o.dst (.agg cs))) : wpStill P ops w Q (o :: rest) a := by
  refine wpStill_step (fun K hK => ?_)
  rw [if_pos (by simp [Region.wanted, hgd])]
  unfold Oper.still execOp
  simp only [ho, hx, Instr.loadAt, Instr.sureAddr, Sem.run_bind, Sem.run_pure, Result.andThen_ok, run_loadVar_row w g t ty cs fr d hg hu hd hi]
  rw [Oper.stillUpon_value]
  exact hK _ h

theorem Obs.of_blk {w : World} {g B n : Nat} {t : TypeId} {cs : List Value} (h : Blk w g t cs) (hB : B ≤ g) (hn : cs.length = n) (hm : n ≤ maxLen) : Obs w B 1 (.slice (some ⟨g, 0, none⟩) n n) n cs :=
  ⟨by omega, .inr ⟨g, n, rfl, hB, h.lt, Nat.le_refl _, hm, fun j hj => ⟨by rw [h.cell, List.getElem?_eq_getElem (by omega)]; rfl, h.frozen j⟩, fun j u hu => by rw [h.cell]; exact hu⟩⟩
theorem set4 (L : List UInt8) (m : Nat) (b0 b1 b2 b3 : UInt8) :
    (((((L ++ List.replicate (m + 4) 0).map vb).set L.length (vb b0)).set (L.length + 1) (vb b1)).set (L.length + 2) (vb b2)).set (L.length + 3) (vb b3) = (L ++ [b0, b1, b2, b3] ++ List.replicate m 0).map vb := by
  simp [List.replicate_succ, List.set_append_right]
theorem be4 (x : Nat) : be x 4 = [UInt8.ofNat (x / 16777216), UInt8.ofNat (x / 65536), UInt8.ofNat (x / 256), UInt8.ofNat x] := by
  rw [be_head, be_head, be_head, be_head]
  simp [be]

set_option maxHeartbeats 2000000 in
theorem digest_i (s : ByteArray) (w : World) (hs : s.size ≤ 100000000) (hK : HoldsK w) (hS : HoldsS w) :
    Calls Tryd.prog 27 #[.string s] w fun e w' => e = .returned (.string (str (digL s.data.toList))) ∧ Below w.heap.size w w' := by
  obtain ⟨D, hD⟩ : ∃ D, D = digL s.data.toList := ⟨_, rfl⟩
  rw [← hD]
  have HD := Lib.hid hD
  clear hD
  obtain ⟨P, hP⟩ : ∃ P, P = str (padL s.data.toList) := ⟨_, rfl⟩
  obtain ⟨B, hB⟩ : ∃ B, P.size = 64 * B := ⟨P.size / 64, by have := padL_mod s.data.toList; rw [hP, str_size]; omega⟩
  have hPm : P.size ≤ 200000000 := by rw [hP, str_size, padL_len]; unfold padN; simp; omega
  have HD2 : Hid (D = stB (stF P.data.toList B)) := Lib.hid (by rw [HD.out, hP, str_toList]; unfold digL; congr 2; rw [hP, str_size] at hB; omega)
  have HB := Lib.hid hB
  have HK := Lib.hid hK
  have HP := Lib.hid hP
  obtain ⟨s0, hs0⟩ : ∃ s0, s0 = start0 := ⟨_, rfl⟩
  have hok : s0.ok := by rw [hs0]; exact start0_ok
  obtain ⟨hlt, hc⟩ := hS
  rw [← hs0] at hc
  have c0 : w.cell? ⟨0, 0, none⟩ = some (.int .u32 (s0.a : Int)) := hc 0 (by omega)
  have c1 : w.cell? ⟨0, 1, none⟩ = some (.int .u32 (s0.b : Int)) := hc 1 (by omega)
  have c2 : w.cell? ⟨0, 2, none⟩ = some (.int .u32 (s0.c : Int)) := hc 2 (by omega)
  have c3 : w.cell? ⟨0, 3, none⟩ = some (.int .u32 (s0.d : Int)) := hc 3 (by omega)
  have c4 : w.cell? ⟨0, 4, none⟩ = some (.int .u32 (s0.e : Int)) := hc 4 (by omega)
  have c5 : w.cell? ⟨0, 5, none⟩ = some (.int .u32 (s0.f : Int)) := hc 5 (by omega)
  have c6 : w.cell? ⟨0, 6, none⟩ = some (.int .u32 (s0.g : Int)) := hc 6 (by omega)
  have c7 : w.cell? ⟨0, 7, none⟩ = some (.int .u32 (s0.h : Int)) := hc 7 (by omega)
  have HS0 := Lib.hid hs0
  clear hc hs0 hB hP HD hK
  go_enter Tryd.func27, Tryd.ntmps27
  go_wp2_with (go_at_call 58; refine (padText_i s _ (by omega)).mono ?_; rintro e w1 ⟨rfl, hb1⟩)
  rw [← HP.out]
  clear c0 c1 c2 c3 c4 c5 c6 c7
  have B0 : Hid (Blk w1 w.heap.size 53 (stv (stF P.data.toList 0)).toList) := Lib.hid (by
    have := (Blk.new w 53 (stv s0)).below hb1 (by simp)
    rw [HS0.out] at this
    exact this)
  have L0 : Hid (Below w.heap.size w w1) := Lib.hid (((Below.refl _ w).alloc (Nat.le_refl _) (.cells (stv s0) 53)).trans (hb1.mono (by simp)))
  clear hb1
  have hsz1 : 0 < w.heap.size := hlt
  go_loopw [5] (fun i wr => ∃ k : Nat, k ≤ B ∧ i = .int .i64 (64 * (k : Int)) ∧ Hid (Blk wr w.heap.size 53 (stv (stF P.data.toList k)).toList) ∧ Hid (Below w.heap.size w wr)) (fun i _ => 64 * B - (intOf i).toNat)
  case atStart => exact ⟨0, Nat.zero_le _, rfl, B0, L0⟩
  case round =>
    clear B0 L0
    obtain ⟨k, hk, rfl, BK, LK⟩ := hrel
    by_cases hlt : k < B
    · obtain ⟨t, ht⟩ : ∃ t, t = stF P.data.toList k := ⟨_, rfl⟩
      have tok : t.ok := by rw [ht]; exact stF_ok _ _
      obtain ⟨blk, hblk⟩ : ∃ blk, blk = P.extract (64 * k) (64 * k + 64) := ⟨_, rfl⟩
      have hbs : blk.size = 64 := by rw [hblk]; have := HB.out; simp; omega
      obtain ⟨r, hr⟩ : ∃ r, r = compS t blk.data.toList := ⟨_, rfl⟩
      have HR : Hid (stF P.data.toList (k + 1) = r) := Lib.hid (by
        rw [hr, ht, hblk, ext_data _ _ _ (by have := HB.out; omega), show 64 * k + 64 - 64 * k = 64 by omega]
        rfl)
      rw [← ht] at BK
      have c0 : wr.cell? ⟨w.heap.size, 0, none⟩ = some (.int .u32 (t.a : Int)) := BK.out.cell 0
      have c1 : wr.cell? ⟨w.heap.size, 1, none⟩ = some (.int .u32 (t.b : Int)) := BK.out.cell 1
      have c2 : wr.cell? ⟨w.heap.size, 2, none⟩ = some (.int .u32 (t.c : Int)) := BK.out.cell 2
      have c3 : wr.cell? ⟨w.heap.size, 3, none⟩ = some (.int .u32 (t.d : Int)) := BK.out.cell 3
      have c4 : wr.cell? ⟨w.heap.size, 4, none⟩ = some (.int .u32 (t.e : Int)) := BK.out.cell 4
      have c5 : wr.cell? ⟨w.heap.size, 5, none⟩ = some (.int .u32 (t.f : Int)) := BK.out.cell 5
      have c6 : wr.cell? ⟨w.heap.size, 6, none⟩ = some (.int .u32 (t.g : Int)) := BK.out.cell 6
      have c7 : wr.cell? ⟨w.heap.size, 7, none⟩ = some (.int .u32 (t.h : Int)) := BK.out.cell 7
      have hx1 : 64 * (k : Int) < (P.size : Int) := by have := HB.out; omega
      have hx2 : 64 * (k : Int) + 64 ≤ (P.size : Int) := by have := HB.out; omega
      have hx3 : IntKind.i64.wrap (64 * (k : Int) + 64) = 64 * (k : Int) + 64 := IntWalk.i64_in _ (by omega)
      have hx4 : (64 * (k : Int)).toNat = 64 * k := by omega
      have hx5 : (64 * (k : Int) + 64).toNat = 64 * k + 64 := by omega
      have hx6 : (0 : Int) ≤ 64 * (k : Int) := by omega
      have hx7 : (0 : Int) ≤ 64 * (k : Int) + 64 := by omega
      have hx8 : 64 * (k : Int) ≤ 64 * (k : Int) + 64 := by omega
      have HBLK := Lib.hid hblk
      have HRR := Lib.hid hr
      have HBS := Lib.hid hbs
      clear ht hblk hr hbs
      go_wp2
      refine wp_region_still_tail 6 (by kernel_rfl) (by kernel_rfl) ?_
      simp only [List.take_succ_cons, List.take_zero, List.drop_succ_cons, List.drop_zero]
      change wpStill _ _ (World.drew wr) (fun a' => wpList _ _ _ _ a' (World.drew wr)) _ _
      repeat still_step
      refine wpStill_nil ?_
      rw [← HBLK.out]
      go_wp2_with fail
      refine (compress_i' t tok blk HBS.out r HRR.out _ (HK.out.below LK.out.drew)).mono ?_
      rintro e w2 ⟨rfl, hb2⟩
      have BK2 := BK.out.drew.below hb2 BK.out.lt
      have L2 := Lib.hid (LK.out.drew.trans (hb2.mono LK.out.size))
      have d0 : w2.cell? ⟨w.heap.size, 0, none⟩ = some (.int .u32 (t.a : Int)) := BK2.cell 0
      have d1 : w2.cell? ⟨w.heap.size, 1, none⟩ = some (.int .u32 (t.b : Int)) := BK2.cell 1
      have d2 : w2.cell? ⟨w.heap.size, 2, none⟩ = some (.int .u32 (t.c : Int)) := BK2.cell 2
      have d3 : w2.cell? ⟨w.heap.size, 3, none⟩ = some (.int .u32 (t.d : Int)) := BK2.cell 3
      have d4 : w2.cell? ⟨w.heap.size, 4, none⟩ = some (.int .u32 (t.e : Int)) := BK2.cell 4
      have d5 : w2.cell? ⟨w.heap.size, 5, none⟩ = some (.int .u32 (t.f : Int)) := BK2.cell 5
      have d6 : w2.cell? ⟨w.heap.size, 6, none⟩ = some (.int .u32 (t.g : Int)) := BK2.cell 6
      have d7 : w2.cell? ⟨w.heap.size, 7, none⟩ = some (.int .u32 (t.h : Int)) := BK2.cell 7
      have f0 := BK2.frozen 0
      have f1 := BK2.frozen 1
      have f2 := BK2.frozen 2
      have f3 := BK2.frozen 3
      have f4 := BK2.frozen 4
      have f5 := BK2.frozen 5
      have f6 := BK2.frozen 6
      have f7 := BK2.frozen 7
      have hsz2 := BK2.lt
      have B2 := Lib.hid BK2
      clear hb2 BK2
      go_wp2
      go_roundw
      case rel =>
        refine ⟨k + 1, by omega, by go_num, ?_, ?_⟩
        · rw [HR.out]; exact Lib.hid (put8_same (s' := r) B2.out)
        · exact Lib.hid (put8_below (s := r) L2.out (Nat.le_refl _))
      case measure => simp [intOf]; omega
    · have hkB : k = B := by omega
      obtain ⟨t, ht⟩ : ∃ t, t = stF P.data.toList k := ⟨_, rfl⟩
      have tok : t.ok := by rw [ht]; exact stF_ok _ _
      rw [← ht] at BK
      have c0 : wr.cell? ⟨w.heap.size, 0, none⟩ = some (.int .u32 (t.a : Int)) := BK.out.cell 0
      have c1 : wr.cell? ⟨w.heap.size, 1, none⟩ = some (.int .u32 (t.b : Int)) := BK.out.cell 1
      have c2 : wr.cell? ⟨w.heap.size, 2, none⟩ = some (.int .u32 (t.c : Int)) := BK.out.cell 2
      have c3 : wr.cell? ⟨w.heap.size, 3, none⟩ = some (.int .u32 (t.d : Int)) := BK.out.cell 3
      have c4 : wr.cell? ⟨w.heap.size, 4, none⟩ = some (.int .u32 (t.e : Int)) := BK.out.cell 4
      have c5 : wr.cell? ⟨w.heap.size, 5, none⟩ = some (.int .u32 (t.f : Int)) := BK.out.cell 5
      have c6 : wr.cell? ⟨w.heap.size, 6, none⟩ = some (.int .u32 (t.g : Int)) := BK.out.cell 6
      have c7 : wr.cell? ⟨w.heap.size, 7, none⟩ = some (.int .u32 (t.h : Int)) := BK.out.cell 7
      have HT : Hid (D = wordB t 8) := Lib.hid (by rw [HD2.out, ht, hkB, wordB_all])
      have hge : ¬ 64 * (k : Int) < (P.size : Int) := by have := HB.out; omega
      have hix : ∀ (k : Nat) (W : World), k < 8 → Sem.run Tryd.prog (Instr.index 53 (.agg #[.int .u32 (t.a : Int), .int .u32 (t.b : Int), .int .u32 (t.c : Int), .int .u32 (t.d : Int), .int .u32 (t.e : Int), .int .u32 (t.f : Int), .int .u32 (t.g : Int), .int .u32 (t.h : Int)]) (.int .i64 (k : Int))) W = .ok (.int .u32 ((stl t).getD k 0 : Nat)) W := by
        intro k W hk
        rcases (show k = 0 ∨ k = 1 ∨ k = 2 ∨ k = 3 ∨ k = 4 ∨ k = 5 ∨ k = 6 ∨ k = 7 by omega) with rfl | rfl | rfl | rfl | rfl | rfl | rfl | rfl <;> kernel_rfl
      have HX := Lib.hid hix
      clear hix ht
      obtain ⟨wo, rfl⟩ : ∃ wo : World, wo = wr := ⟨_, rfl⟩
      go_wp2
      clear c0 c1 c2 c3 c4 c5 c6 c7
      go_loopw [6, 26] (fun v i wr => ∃ j : Nat, j ≤ 8 ∧ i = .int .i64 (j : Int) ∧ v = .string (str (wordB t j)) ∧ Hid (Below w.heap.size w wr)) (fun _ i _ => 8 - (intOf i).toNat)
      case atStart => exact ⟨0, Nat.zero_le _, rfl, rfl, LK⟩
      case round =>
        clear BK LK
        obtain ⟨j, hj, rfl, rfl, LK⟩ := hrel
        by_cases hlt8 : j < 8
        · have h1 := HX.out j wr hlt8
          obtain ⟨x, hx⟩ : ∃ x, x = (stl t).getD j 0 := ⟨_, rfl⟩
          rw [← hx] at h1
          have hx32 : x < 4294967296 := by rw [hx]; exact stl_lt tok j
          have HW : Hid (str (wordB t j) ++ str (be x 4) = str (wordB t (j + 1))) := Lib.hid (by rw [str_add, wordB_succ hlt8, hx])
          have s1 : (str (wordB t j)).size = 4 * j := by rw [str_size, wordB_len hj]
          have s2 : (str (be x 4)).size = 4 := by rw [str_size, be_len]
          clear hx
          go_wp2_with fail
          refine (bigEndian_i x 4 _ (by omega) (by omega) (by omega)).mono ?_
          rintro e w2 ⟨rfl, hb2⟩
          have L2 := Lib.hid (LK.out.trans (hb2.mono LK.out.size))
          clear hb2
          go_wp2
          go_roundw
          case rel => exact ⟨j + 1, by omega, by go_num, by rw [← HW.out], L2⟩
          case measure => simp [intOf]; omega
        · obtain rfl : j = 8 := by omega
          go_wp2
          go_ret
          exact ⟨ret_str (by rw [HT.out]), LK.out⟩
set_option maxRecDepth 100000 in
set_option maxHeartbeats 2000000 in
theorem digest_s (s : ByteArray) (w : World) (hs : s.size ≤ 100000000) :
    Calls Tryd.prog 26 #[.string s] w fun e w' => e = .returned (.string (str (digL s.data.toList))) ∧ Below w.heap.size w w' := by
  obtain ⟨D, hD⟩ : ∃ D, D = digL s.data.toList := ⟨_, rfl⟩
  rw [← hD]
  have HD := Lib.hid hD
  clear hD
  obtain ⟨P, hP⟩ : ∃ P, P = str (padL s.data.toList) := ⟨_, rfl⟩
  obtain ⟨B, hB⟩ : ∃ B, P.size = 64 * B := ⟨P.size / 64, by have := padL_mod s.data.toList; rw [hP, str_size]; omega⟩
  have hPm : P.size ≤ 200000000 := by rw [hP, str_size, padL_len]; unfold padN; simp; omega
  have HD2 : Hid (D = stB (stF P.data.toList B)) := Lib.hid (by rw [HD.out, hP, str_toList]; unfold digL; congr 2; rw [hP, str_size] at hB; omega)
  have HB := Lib.hid hB
  have HP := Lib.hid hP
  obtain ⟨s0, hs0⟩ : ∃ s0, s0 = start0 := ⟨_, rfl⟩
  have hok : s0.ok := by rw [hs0]; exact start0_ok
  have HS0 := Lib.hid hs0
  obtain ⟨i0, hi, hz0, hz1, hz2⟩ := info_parts u8_info
  have hmk := make_eq (P := Tryd.prog) 44 5 i0 (.int .u8 0) Tryd.underlying44 hi hz0 32 (by rw [hz2]; omega) (by unfold maxLen; omega)
  rw [hz1, show ((32 : Nat) : Int) = 32 from rfl] at hmk
  clear hs0 hB hP HD
  go_enter Tryd.func26, Tryd.ntmps26
  go_wp2_with fail
  refine (first_s' s0 HS0.out _).mono ?_
  rintro e w1 ⟨rfl, hb1⟩
  go_wp2_with fail
  refine (keys_s _).mono ?_
  rintro e w2 ⟨rfl, hb2⟩
  go_wp2_with (first | ((with_reducible refine store_fresh rfl 56 _ _ rfl _ keyC.toArray _ ?hx ?hy ?hi ?hs ?h1 ?hh); (case hx => rfl); (case hy => rfl); (case hi => as_aux_lemma => kernel_rfl); (case hs => as_aux_lemma => kernel_rfl); (case h1 => as_aux_lemma => kernel_rfl)) | (go_at_call 65; refine (padText_s s _ (by omega)).mono ?_; rintro e w3 ⟨rfl, hb3⟩))
  rw [← HP.out]
  have B0 : Hid (Blk w3 w1.heap.size 53 (stv (stF P.data.toList 0)).toList) := Lib.hid (by
    have := (((Blk.new w1 53 (stv s0)).below hb2 (by simp)).alloc (.cells keyC.toArray 56)).below hb3 (by have := hb2.size; simp at this ⊢; omega)
    rw [HS0.out] at this
    exact this)
  have K0 : Hid (Blk w3 w2.heap.size 56 keyC) := Lib.hid ((Blk.new w2 56 keyC.toArray).below hb3 (by simp))
  have L0 : Hid (Below w.heap.size w w3) := Lib.hid ((((hb1.alloc hb1.size (.cells (stv s0) 53)).trans (hb2.mono (by have := hb1.size; simp; omega))).alloc (by have := hb1.size; have := hb2.size; simp at this; omega) (.cells keyC.toArray 56)).trans (hb3.mono (by have := hb1.size; have := hb2.size; simp at this ⊢; omega)))
  have hg12 : w1.heap.size < w2.heap.size := by have := hb2.size; simp at this; omega
  have hg01 : w.heap.size ≤ w1.heap.size := hb1.size
  clear hb1 hb2 hb3
  go_loopw [6] (fun i wr => ∃ k : Nat, k ≤ B ∧ i = .int .i64 (64 * (k : Int)) ∧ Hid (Blk wr w1.heap.size 53 (stv (stF P.data.toList k)).toList) ∧ Hid (Blk wr w2.heap.size 56 keyC) ∧ Hid (Below w.heap.size w wr)) (fun i _ => 64 * B - (intOf i).toNat)
  case atStart => exact ⟨0, Nat.zero_le _, rfl, B0, K0, L0⟩
  case round =>
    clear B0 K0 L0
    obtain ⟨k, hk, rfl, BK, KK, LK⟩ := hrel
    by_cases hlt : k < B
    · obtain ⟨t, ht⟩ : ∃ t, t = stF P.data.toList k := ⟨_, rfl⟩
      have tok : t.ok := by rw [ht]; exact stF_ok _ _
      obtain ⟨blk, hblk⟩ : ∃ blk, blk = P.extract (64 * k) (64 * k + 64) := ⟨_, rfl⟩
      have hbs : blk.size = 64 := by rw [hblk]; have := HB.out; simp; omega
      obtain ⟨r, hr⟩ : ∃ r, r = compS t blk.data.toList := ⟨_, rfl⟩
      have HR : Hid (stF P.data.toList (k + 1) = r) := Lib.hid (by
        rw [hr, ht, hblk, ext_data _ _ _ (by have := HB.out; omega), show 64 * k + 64 - 64 * k = 64 by omega]
        rfl)
      rw [← ht] at BK
      have c0 : wr.cell? ⟨w1.heap.size, 0, none⟩ = some (.int .u32 (t.a : Int)) := BK.out.cell 0
      have c1 : wr.cell? ⟨w1.heap.size, 1, none⟩ = some (.int .u32 (t.b : Int)) := BK.out.cell 1
      have c2 : wr.cell? ⟨w1.heap.size, 2, none⟩ = some (.int .u32 (t.c : Int)) := BK.out.cell 2
      have c3 : wr.cell? ⟨w1.heap.size, 3, none⟩ = some (.int .u32 (t.d : Int)) := BK.out.cell 3
      have c4 : wr.cell? ⟨w1.heap.size, 4, none⟩ = some (.int .u32 (t.e : Int)) := BK.out.cell 4
      have c5 : wr.cell? ⟨w1.heap.size, 5, none⟩ = some (.int .u32 (t.f : Int)) := BK.out.cell 5
      have c6 : wr.cell? ⟨w1.heap.size, 6, none⟩ = some (.int .u32 (t.g : Int)) := BK.out.cell 6
      have c7 : wr.cell? ⟨w1.heap.size, 7, none⟩ = some (.int .u32 (t.h : Int)) := BK.out.cell 7
      have hx1 : 64 * (k : Int) < (P.size : Int) := by have := HB.out; omega
      have hx2 : 64 * (k : Int) + 64 ≤ (P.size : Int) := by have := HB.out; omega
      have hx3 : IntKind.i64.wrap (64 * (k : Int) + 64) = 64 * (k : Int) + 64 := IntWalk.i64_in _ (by omega)
      have hx4 : (64 * (k : Int)).toNat = 64 * k := by omega
      have hx5 : (64 * (k : Int) + 64).toNat = 64 * k + 64 := by omega
      have hx6 : (0 : Int) ≤ 64 * (k : Int) := by omega
      have hx7 : (0 : Int) ≤ 64 * (k : Int) + 64 := by omega
      have hx8 : 64 * (k : Int) ≤ 64 * (k : Int) + 64 := by omega
      have HBLK := Lib.hid hblk
      have HRR := Lib.hid hr
      have HBS := Lib.hid hbs
      clear ht hblk hr hbs
      go_wp2
      refine wp_region_still_tail 7 (by kernel_rfl) (by kernel_rfl) ?_
      simp only [List.take_succ_cons, List.take_zero, List.drop_succ_cons, List.drop_zero]
      change wpStill _ _ (World.drew wr) (fun a' => wpList _ _ _ _ a' (World.drew wr)) _ _
      iterate 6 still_step
      with_reducible refine still_load_row rfl 56 _ rfl w2.heap.size ?zx 56 keyC.toArray (0, 0) _ ?zg Tryd.underlying56 ?zd ?zi ?zz
      case zx => rfl
      case zg => exact KK.out.drew
      case zd => rfl
      case zi => as_aux_lemma => kernel_rfl
      refine wpStill_nil ?_
      rw [← HBLK.out]
      go_wp2_with fail
      refine (block_s' t tok blk HBS.out r HRR.out _).mono ?_
      rintro e w4 ⟨rfl, hb4⟩
      have BK2 := BK.out.drew.below hb4 BK.out.lt
      have K2 := Lib.hid (KK.out.drew.below hb4 KK.out.lt)
      have L2 := Lib.hid (LK.out.drew.trans (hb4.mono LK.out.size))
      have d0 : w4.cell? ⟨w1.heap.size, 0, none⟩ = some (.int .u32 (t.a : Int)) := BK2.cell 0
      have d1 : w4.cell? ⟨w1.heap.size, 1, none⟩ = some (.int .u32 (t.b : Int)) := BK2.cell 1
      have d2 : w4.cell? ⟨w1.heap.size, 2, none⟩ = some (.int .u32 (t.c : Int)) := BK2.cell 2
      have d3 : w4.cell? ⟨w1.heap.size, 3, none⟩ = some (.int .u32 (t.d : Int)) := BK2.cell 3
      have d4 : w4.cell? ⟨w1.heap.size, 4, none⟩ = some (.int .u32 (t.e : Int)) := BK2.cell 4
      have d5 : w4.cell? ⟨w1.heap.size, 5, none⟩ = some (.int .u32 (t.f : Int)) := BK2.cell 5
      have d6 : w4.cell? ⟨w1.heap.size, 6, none⟩ = some (.int .u32 (t.g : Int)) := BK2.cell 6
      have d7 : w4.cell? ⟨w1.heap.size, 7, none⟩ = some (.int .u32 (t.h : Int)) := BK2.cell 7
      have f0 := BK2.frozen 0
      have f1 := BK2.frozen 1
      have f2 := BK2.frozen 2
      have f3 := BK2.frozen 3
      have f4 := BK2.frozen 4
      have f5 := BK2.frozen 5
      have f6 := BK2.frozen 6
      have f7 := BK2.frozen 7
      have hsz2 := BK2.lt
      have B2 := Lib.hid BK2
      clear hb4 BK2
      go_wp2
      go_roundw
      case rel =>
        refine ⟨k + 1, by omega, by go_num, ?_, ?_, ?_⟩
        · rw [HR.out]; exact Lib.hid (put8_same (s' := r) B2.out)
        · exact Lib.hid (put8_far (s := r) K2.out (by omega))
        · exact Lib.hid (put8_below (s := r) L2.out hg01)
      case measure => simp [intOf]; omega
    · have hkB : k = B := by omega
      obtain ⟨t, ht⟩ : ∃ t, t = stF P.data.toList k := ⟨_, rfl⟩
      have tok : t.ok := by rw [ht]; exact stF_ok _ _
      rw [← ht] at BK
      have HT : Hid (D = wordB t 8) := Lib.hid (by rw [HD2.out, ht, hkB, wordB_all])
      have hge : ¬ 64 * (k : Int) < (P.size : Int) := by have := HB.out; omega
      have hltw := BK.out.lt
      have hszw := LK.out.size
      clear ht
      obtain ⟨wo, rfl⟩ : ∃ wo : World, wo = wr := ⟨_, rfl⟩
      go_wp2
      have e0 : (madeCells #[Value.int IntKind.u8 0] 32).toList = (wordB t 0 ++ List.replicate 32 0).map vb := by
        rw [show (32 : Nat) = 32 * 1 from rfl, toList_madeCells_one]
        simp [wordB, vb]
      have b0 := Blk.new wo 5 (madeCells #[Value.int IntKind.u8 0] 32)
      rw [e0] at b0
      have B0 := Lib.hid b0
      have H0 := Lib.hid (BK.out.alloc (.cells (madeCells #[Value.int IntKind.u8 0] 32) 5))
      have L0 := Lib.hid (LK.out.alloc LK.out.size (.cells (madeCells #[Value.int IntKind.u8 0] 32) 5))
      clear b0 e0
      go_loopw [8] (fun i wr => ∃ j : Nat, j ≤ 8 ∧ i = .int .i64 (j : Int) ∧ Hid (Blk wr wo.heap.size 5 ((wordB t j ++ List.replicate (32 - 4 * j) 0).map vb)) ∧ Hid (Blk wr w1.heap.size 53 (stv t).toList) ∧ Hid (Below w.heap.size w wr)) (fun i _ => 8 - (intOf i).toNat)
      case atStart => exact ⟨0, Nat.zero_le _, rfl, B0, H0, L0⟩
      case round =>
        clear B0 H0 L0 BK KK LK
        obtain ⟨j, hj, rfl, BO, BH, LK⟩ := hrel
        by_cases hlt8 : j < 8
        · obtain ⟨x, hx⟩ : ∃ x, x = (stl t).getD j 0 := ⟨_, rfl⟩
          have hx32 : x < 4294967296 := by rw [hx]; exact stl_lt tok j
          have c1 : wr.cell? ⟨w1.heap.size, j, none⟩ = some (.int .u32 (x : Int)) := by rw [hx]; exact (BH.out.cell j).trans (stl_get hlt8)
          have hlen : ((wordB t j ++ List.replicate (32 - 4 * j) 0).map vb).length = 32 := by simp [wordB_len hj]; omega
          have k0 : wr.cell? ⟨wo.heap.size, 4 * j, none⟩ = some _ := (BO.out.cell (4 * j)).trans (List.getElem?_eq_getElem (by rw [hlen]; omega))
          have k1 : wr.cell? ⟨wo.heap.size, 4 * j + 1, none⟩ = some _ := (BO.out.cell (4 * j + 1)).trans (List.getElem?_eq_getElem (by rw [hlen]; omega))
          have k2 : wr.cell? ⟨wo.heap.size, 4 * j + 2, none⟩ = some _ := (BO.out.cell (4 * j + 2)).trans (List.getElem?_eq_getElem (by rw [hlen]; omega))
          have k3 : wr.cell? ⟨wo.heap.size, 4 * j + 3, none⟩ = some _ := (BO.out.cell (4 * j + 3)).trans (List.getElem?_eq_getElem (by rw [hlen]; omega))
          have f0 := BO.out.frozen (4 * j)
          have f1 := BO.out.frozen (4 * j + 1)
          have f2 := BO.out.frozen (4 * j + 2)
          have f3 := BO.out.frozen (4 * j + 3)
          have hszo := BO.out.lt
          have t0 : (4 * (j : Int)).toNat = 4 * j := by omega
          have t1 : (4 * (j : Int) + 1).toNat = 4 * j + 1 := by omega
          have t2 : (4 * (j : Int) + 2).toNat = 4 * j + 2 := by omega
          have t3 : (4 * (j : Int) + 3).toNat = 4 * j + 3 := by omega
          have y0 : Value.int .u8 ((x : Int) / 16777216) = vb (UInt8.ofNat (x / 16777216)) := by rw [← vb_mod]; congr 1; omega
          have y1 : Value.int .u8 ((x : Int) / 65536 % 256) = vb (UInt8.ofNat (x / 65536)) := by rw [show (x : Int) / 65536 = ((x / 65536 : Nat) : Int) by omega, vb_mod]
          have y2 : Value.int .u8 ((x : Int) / 256 % 256) = vb (UInt8.ofNat (x / 256)) := by rw [show (x : Int) / 256 = ((x / 256 : Nat) : Int) by omega, vb_mod]
          have y3 : Value.int .u8 ((x : Int) % 256) = vb (UInt8.ofNat x) := vb_mod x
          have HB4 : Hid (Blk ((((wr.setCell ⟨wo.heap.size, 4 * j, none⟩ (Value.int .u8 ((x : Int) / 16777216))).setCell ⟨wo.heap.size, 4 * j + 1, none⟩ (Value.int .u8 ((x : Int) / 65536 % 256))).setCell ⟨wo.heap.size, 4 * j + 2, none⟩ (Value.int .u8 ((x : Int) / 256 % 256))).setCell ⟨wo.heap.size, 4 * j + 3, none⟩ (Value.int .u8 ((x : Int) % 256))) wo.heap.size 5 ((wordB t (j + 1) ++ List.replicate (32 - 4 * (j + 1)) 0).map vb)) := Lib.hid (by
            have h4 := (((BO.out.set_ (4 * j) (Value.int .u8 ((x : Int) / 16777216))).set_ (4 * j + 1) (Value.int .u8 ((x : Int) / 65536 % 256))).set_ (4 * j + 2) (Value.int .u8 ((x : Int) / 256 % 256))).set_ (4 * j + 3) (Value.int .u8 ((x : Int) % 256))
            refine h4.eq ?_
            have h5 := set4 (wordB t j) (32 - 4 * (j + 1)) (UInt8.ofNat (x / 16777216)) (UInt8.ofNat (x / 65536)) (UInt8.ofNat (x / 256)) (UInt8.ofNat x)
            rw [wordB_len hj, show 32 - 4 * (j + 1) + 4 = 32 - 4 * j by omega] at h5
            rw [y0, y1, y2, y3, h5, wordB_succ hlt8, ← hx, be4])
          have HH4 := Lib.hid ((((BH.out.far (p := ⟨wo.heap.size, 4 * j, none⟩) (by dsimp only; omega) (Value.int .u8 ((x : Int) / 16777216))).far (p := ⟨wo.heap.size, 4 * j + 1, none⟩) (by dsimp only; omega) (Value.int .u8 ((x : Int) / 65536 % 256))).far (p := ⟨wo.heap.size, 4 * j + 2, none⟩) (by dsimp only; omega) (Value.int .u8 ((x : Int) / 256 % 256))).far (p := ⟨wo.heap.size, 4 * j + 3, none⟩) (by dsimp only; omega) (Value.int .u8 ((x : Int) % 256)))
          have HL4 := Lib.hid ((((LK.out.setCell (p := ⟨wo.heap.size, 4 * j, none⟩) (by dsimp only; omega) (Value.int .u8 ((x : Int) / 16777216))).setCell (p := ⟨wo.heap.size, 4 * j + 1, none⟩) (by dsimp only; omega) (Value.int .u8 ((x : Int) / 65536 % 256))).setCell (p := ⟨wo.heap.size, 4 * j + 2, none⟩) (by dsimp only; omega) (Value.int .u8 ((x : Int) / 256 % 256))).setCell (p := ⟨wo.heap.size, 4 * j + 3, none⟩) (by dsimp only; omega) (Value.int .u8 ((x : Int) % 256)))
          clear y0 y1 y2 y3
          clear hx BO BH LK
          go_wp2
          go_roundw
          case rel => exact ⟨j + 1, by omega, by go_num, HB4, HH4, HL4⟩
          case measure => simp [intOf]; omega
        · obtain rfl : j = 8 := by omega
          have hob : Obs wr w.heap.size 1 (.slice (some ⟨wo.heap.size, 0, none⟩) 32 32) 32 ((wordB t 8).map vb) := by
            have hb8 := BO.out
            rw [show 32 - 4 * 8 = 0 from rfl, List.replicate_zero, List.append_nil] at hb8
            exact Obs.of_blk hb8 (by omega) (by rw [List.length_map, wordB_len (Nat.le_refl _)]) (by unfold maxLen; omega)
          have hst := obs_string (P := Tryd.prog) wr 44 9 5 Tryd.underlying44 Tryd.underlying5 Tryd.underlying9 hob
          rw [← HT.out] at hst
          clear hob BO BH
          go_wp2
          go_ret
          exact ⟨rfl, LK.out⟩
end Go.Proofs.YtmhekefjlepfpaaDoor
