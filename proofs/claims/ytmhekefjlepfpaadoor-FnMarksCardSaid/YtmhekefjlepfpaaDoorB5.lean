/- The walks: ShaStart and Digest. -/
import Derived.Test.YtmhekefjlepfpaaDoorProg
import Derived.Test.YtmhekefjlepfpaaDoorK
import Derived.Test.YtmhekefjlepfpaaDoorK2
import Derived.Test.YtmhekefjlepfpaaDoorK3
import Derived.Test.YtmhekefjlepfpaaDoorK4
import Derived.Test.YtmhekefjlepfpaaDoorS
import Derived.Test.YtmhekefjlepfpaaDoorS2
import Derived.Test.YtmhekefjlepfpaaDoorA1
import Derived.Test.YtmhekefjlepfpaaDoorA4
import Derived.Test.YtmhekefjlepfpaaDoorB1
import Derived.Test.YtmhekefjlepfpaaDoorB2
import Derived.Test.YtmhekefjlepfpaaDoorB3
import Derived.Test.YtmhekefjlepfpaaDoorB4
import Derived.Test.YtmhekefjlepfpaaDoorM1
import Derived.StillTailTactics
import Derived.Outline
namespace Go.Proofs.YtmhekefjlepfpaaDoor
open Go.RowKit
set_option linter.unusedVariables false
set_option linter.unusedSimpArgs false

theorem first_s' (s0 : St) (h : s0 = start0) (w : World) : Calls Tryd.prog 62 #[] w fun e w' => e = .returned (.agg #[.int .u32 (s0.a : Int), .int .u32 (s0.b : Int), .int .u32 (s0.c : Int), .int .u32 (s0.d : Int), .int .u32 (s0.e : Int), .int .u32 (s0.f : Int), .int .u32 (s0.g : Int), .int .u32 (s0.h : Int)]) ∧ Below w.heap.size w w' := by
  subst h; exact first_s w
theorem compress_i' (s : St) (hs : s.ok) (blk : ByteArray) (hb : blk.size = 64) (r : St) (hr : r = compS s blk.data.toList) (w : World) (hK : HoldsK w) :
    Calls Tryd.prog 67 #[.agg #[.int .u32 (s.a : Int), .int .u32 (s.b : Int), .int .u32 (s.c : Int), .int .u32 (s.d : Int), .int .u32 (s.e : Int), .int .u32 (s.f : Int), .int .u32 (s.g : Int), .int .u32 (s.h : Int)], .string blk] w fun e w' => e = .returned (.agg #[.int .u32 (r.a : Int), .int .u32 (r.b : Int), .int .u32 (r.c : Int), .int .u32 (r.d : Int), .int .u32 (r.e : Int), .int .u32 (r.f : Int), .int .u32 (r.g : Int), .int .u32 (r.h : Int)]) ∧ Below w.heap.size w w' := by
  subst hr; exact compress_i s hs blk hb w hK
theorem block_s' (s : St) (hs : s.ok) (blk : ByteArray) (hb : blk.size = 64) (r : St) (hr : r = compS s blk.data.toList) (w : World) :
    Calls Tryd.prog 66 #[.agg #[.int .u32 (s.a : Int), .int .u32 (s.b : Int), .int .u32 (s.c : Int), .int .u32 (s.d : Int), .int .u32 (s.e : Int), .int .u32 (s.f : Int), .int .u32 (s.g : Int), .int .u32 (s.h : Int)], .string blk, .agg keyC.toArray] w fun e w' => e = .returned (.agg #[.int .u32 (r.a : Int), .int .u32 (r.b : Int), .int .u32 (r.c : Int), .int .u32 (r.d : Int), .int .u32 (r.e : Int), .int .u32 (r.f : Int), .int .u32 (r.g : Int), .int .u32 (r.h : Int)]) ∧ Below w.heap.size w w' := by
  subst hr; exact block_s s hs blk hb w

theorem stl_lt {s : St} (hs : s.ok) (k : Nat) : (stl s).getD k 0 < 4294967296 := by
  by_cases h : k < 8
  · rcases (show k = 0 ∨ k = 1 ∨ k = 2 ∨ k = 3 ∨ k = 4 ∨ k = 5 ∨ k = 6 ∨ k = 7 by omega) with rfl | rfl | rfl | rfl | rfl | rfl | rfl | rfl
    · exact hs.1
    · exact hs.2.1
    · exact hs.2.2.1
    · exact hs.2.2.2.1
    · exact hs.2.2.2.2.1
    · exact hs.2.2.2.2.2.1
    · exact hs.2.2.2.2.2.2.1
    · exact hs.2.2.2.2.2.2.2
  · rw [List.getD_eq_getElem?_getD, List.getElem?_eq_none (by simp [stl]; omega)]; simp
theorem stl_take {s : St} {k : Nat} (h : k < 8) : ((stl s).take (k + 1)).map vu = ((stl s).take k).map vu ++ [.int .i64 (((stl s).getD k 0 : Nat) : Int)] := by
  have hl : k < (stl s).length := by simp [stl]; omega
  rw [List.take_succ_eq_append_getElem hl, List.map_append, List.getD_eq_getElem?_getD, List.getElem?_eq_getElem hl]
  rfl
theorem obs_empty (w : World) (e : TypeId) (size B : Nat) (hB : B ≤ w.heap.size) : Obs (w.alloc (.cells #[] e)) B size (.slice (some ⟨w.heap.size, 0, none⟩) 0 0) 0 [] :=
  ⟨by simp, .inr ⟨w.heap.size, 0, rfl, hB, by simp, Nat.le_refl _, Nat.zero_le _, fun j hj => absurd hj (by simp), fun j u hu => by simp at hu⟩⟩

theorem shaStart_i (w : World) (hS : HoldsS w) : Calls Tryd.prog 22 #[] w (GivesRow 1 8 ((stl start0).map vu) w) := by
  obtain ⟨s0, hs0⟩ : ∃ s0, s0 = start0 := ⟨_, rfl⟩
  have hok : s0.ok := by rw [hs0]; exact start0_ok
  obtain ⟨hlt, hc⟩ := hS
  rw [← hs0] at hc ⊢
  have c0 : w.cell? ⟨0, 0, none⟩ = some (.int .u32 (s0.a : Int)) := hc 0 (by omega)
  have c1 : w.cell? ⟨0, 1, none⟩ = some (.int .u32 (s0.b : Int)) := hc 1 (by omega)
  have c2 : w.cell? ⟨0, 2, none⟩ = some (.int .u32 (s0.c : Int)) := hc 2 (by omega)
  have c3 : w.cell? ⟨0, 3, none⟩ = some (.int .u32 (s0.d : Int)) := hc 3 (by omega)
  have c4 : w.cell? ⟨0, 4, none⟩ = some (.int .u32 (s0.e : Int)) := hc 4 (by omega)
  have c5 : w.cell? ⟨0, 5, none⟩ = some (.int .u32 (s0.f : Int)) := hc 5 (by omega)
  have c6 : w.cell? ⟨0, 6, none⟩ = some (.int .u32 (s0.g : Int)) := hc 6 (by omega)
  have c7 : w.cell? ⟨0, 7, none⟩ = some (.int .u32 (s0.h : Int)) := hc 7 (by omega)
  clear hc hs0
  go_enter Tryd.func22, Tryd.ntmps22
  go_wp2_with (go_at_call 63; refine (stateInts_i s0 hok _).mono ?_; rintro e w' ⟨v, rfl, ho, hb⟩)
  go_ret
  exact ⟨v, rfl, ho, hb⟩
set_option maxHeartbeats 1000000 in
theorem shaStart_s (w : World) : Calls Tryd.prog 21 #[] w (GivesRow 1 8 ((stl start0).map vu) w) := by
  obtain ⟨i0, hi, hz0, hz1, hz2⟩ := info_parts i64_info
  obtain ⟨s, hs0⟩ : ∃ s, s = start0 := ⟨_, rfl⟩
  have hs : s.ok := by rw [hs0]; exact start0_ok
  rw [← hs0]
  have HS0 := Lib.hid hs0
  clear hs0
  go_enter Tryd.func21, Tryd.ntmps21
  go_wp2_with (go_at_call 62; refine (first_s' s HS0.out _).mono ?_; rintro e w1 ⟨rfl, hb1⟩)
  have b0 := Lib.hid ((Blk.new w1 53 (stv s)).alloc (.cells #[] 3))
  have o0 : Obs ((w1.alloc (.cells (stv s) 53)).alloc (.cells #[] 3)) (w1.heap.size + 1) 1 (.slice (some ⟨w1.heap.size + 1, 0, none⟩) 0 0) 0 [] := by
    have := obs_empty (w1.alloc (.cells (stv s) 53)) 3 1 (w1.heap.size + 1) (by simp)
    simpa using this
  have O0 := Lib.hid o0
  have l0 : Below w.heap.size w ((w1.alloc (.cells (stv s) 53)).alloc (.cells #[] 3)) := (hb1.alloc hb1.size _).alloc (by have := hb1.size; simp; omega) _
  have L0 := Lib.hid l0
  clear o0 l0
  go_loopw [2, 3] (fun v i wr => ∃ k : Nat, k ≤ 8 ∧ i = .int .i64 (k : Int) ∧ Hid (Blk wr w1.heap.size 53 (stv s).toList) ∧ Hid (Obs wr (w1.heap.size + 1) 1 v k (((stl s).take k).map vu)) ∧ Hid (Below w.heap.size w wr)) (fun _ i _ => 8 - (intOf i).toNat)
  case atStart => exact ⟨0, Nat.zero_le _, rfl, b0, O0, L0⟩
  case round =>
    clear b0 O0 L0
    obtain ⟨k, hk, rfl, HB, HO, HN⟩ := hrel
    by_cases hlt : k < 8
    · obtain ⟨x, hx⟩ : ∃ x, x = (stl s).getD k 0 := ⟨_, rfl⟩
      have hx32 : x < 4294967296 := by rw [hx]; exact stl_lt hs k
      have c1 : wr.cell? ⟨w1.heap.size, k, none⟩ = some (.int .u32 (x : Int)) := by rw [hx]; exact (HB.out.cell k).trans (stl_get hlt)
      have HS : Hid (((stl s).take (k + 1)).map vu = ((stl s).take k).map vu ++ [.int .i64 (x : Int)]) := Lib.hid (by rw [hx]; exact stl_take hlt)
      have hsz := HB.out.lt
      have hszw := HN.out.size
      clear hx
      go_wp2_with (at_builtin; refine wpList_append_obs _ rfl _ _ 22 rfl (w1.heap.size + 1) 3 i0 (.int .i64 0) 1 8 Tryd.underlying22 hi hz0 hz1 hz2 rfl (by decide) _ _ _ rfl (HO.out.alloc _) ⟨wr.heap.size, 0, none⟩ 1 1 [.int .i64 (x : Int)] rfl rfl (new_cells _ _ _) (by simp [Value.oneCell']) (by unfold maxLen; omega) (by omega) (by simp; omega) ?_; intro v1 w2 hown1 hb2 hg1)
      have H1 : Hid (Obs w2 (w1.heap.size + 1) 1 v1 (k + 1) (((stl s).take (k + 1)).map vu)) := Lib.hid (by rw [HS.out]; exact hown1)
      have H2 := Lib.hid ((HN.out.alloc HN.out.size _).trans (hb2.mono (by have := hb1.size; omega)))
      have H3 := Lib.hid ((HB.out.alloc (.cells #[.int .i64 (x : Int)] 3)).below hb2 (by omega))
      clear hown1 hb2 hg1 HO HN HS HB
      go_wp2
      go_roundw
      case rel => exact ⟨k + 1, by omega, by go_num, H3, H1, H2⟩
      case measure => simp [intOf]; omega
    · obtain rfl : k = 8 := by omega
      have hm := HO.out.mono (B' := w.heap.size) (by have := hb1.size; omega)
      have HM := Lib.hid hm
      clear hm
      go_wp2
      go_ret
      exact ⟨_, rfl, HM.out, HN.out⟩
end Go.Proofs.YtmhekefjlepfpaaDoor
