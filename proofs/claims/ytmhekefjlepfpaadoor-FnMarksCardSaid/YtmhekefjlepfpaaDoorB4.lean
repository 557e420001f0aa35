/- The walks: the first words, the keys, the words as numbers. -/
import Derived.Test.YtmhekefjlepfpaaDoorProg
import Derived.Test.YtmhekefjlepfpaaDoorK
import Derived.Test.YtmhekefjlepfpaaDoorK2
import Derived.Test.YtmhekefjlepfpaaDoorK3
import Derived.Test.YtmhekefjlepfpaaDoorK4
import Derived.Test.YtmhekefjlepfpaaDoorS
import Derived.Test.YtmhekefjlepfpaaDoorS2
import Derived.Test.YtmhekefjlepfpaaDoorB1
import Derived.Test.YtmhekefjlepfpaaDoorB3
import Derived.Test.YtmhekefjlepfpaaDoorM1
namespace Go.Proofs.YtmhekefjlepfpaaDoor
open Go.RowKit
set_option linter.unusedVariables false
set_option linter.unusedSimpArgs false

/-- a word as a number -/
def vu (x : Nat) : Value := .int .i64 (x : Int)
/-- the variable startWords holds what it was laid with -/
def HoldsS (w : World) : Prop := 0 < w.heap.size ∧ ∀ k, k < 8 → w.cell? ⟨0, k, none⟩ = some (vw ((stl start0).getD k 0))
theorem HoldsS.below {w w' : World} (h : HoldsS w) (hb : Below w.heap.size w w') : HoldsS w' :=
  ⟨Nat.lt_of_lt_of_le h.1 hb.size, fun k hk => (hb.cell (p := ⟨0, k, none⟩) h.1).trans (h.2 k hk)⟩
theorem setRow_alloc (w : World) (old cells : Array Value) (t : TypeId) : (w.alloc (.cells old t)).setRow w.heap.size cells = w.alloc (.cells cells t) := by
  unfold World.setRow World.alloc
  dsimp only
  congr 1
  apply Array.ext
  · simp
  · intro k h1 h2
    simp only [Array.getElem_modify, Array.getElem_push]
    split
    · rename_i e; subst e
      simp
    · rename_i e
      have : k < w.heap.size := by simp at h1; omega
      rw [dif_pos this, dif_pos this]
theorem store_fresh {P : Program} {ops : Array Oper} {rest : List Oper} {o : Oper} {a : Act} {w : World} {Q : Exit → Act → World → Prop} (hgd : o.guard = none) (ty : TypeId) (x y : Operand) (ho : o.op = .store ty x y)
    (old cells : Array Value) (t : TypeId) (hx : a.eval x = .pointer (some ⟨w.heap.size, 0, none⟩)) (hy : a.eval y = .agg cells)
    (hi : (P.info? ty).map (·.size) = some cells.size) (hs : old.size = cells.size)
    (h1 : cells.all (·.oneCell') = true)
    (h : wpList P ops Q rest (a.put o.dst undef) (w.alloc (.cells cells t))) : wpList P ops Q (o :: rest) a (w.alloc (.cells old t)) := by
  refine wpList_store_row hgd ty x y ho w.heap.size cells hx hy t old ?_ hi hs h1 (by rw [setRow_alloc]; exact h)
  show (w.heap.push _)[w.heap.size]? = _
  simp

theorem first_s (w : World) : Calls Tryd.prog 62 #[] w fun e w' => e = .returned (.agg (stv start0)) ∧ Below w.heap.size w w' := by
  go_enter Tryd.func62, Tryd.ntmps62
  go_wp2
  exact bodyPost_ret (v := .agg (stv start0)) (by simp [results, Tryd.results62, go_sem]; rfl) rfl ⟨rfl, (Below.refl _ _).alloc (Nat.le_refl _) _⟩

theorem wp_build {P : Program} {o : Oper} {a : Act} {w : World} {K : Act → World → Prop} {Q : Exit → Act → World → Prop} (ty : TypeId) (parts : Array (Nat × Operand)) (ho : o.op = .build ty parts) (v : Value)
    (hr : Sem.run P (Instr.build ty (parts.map fun x => (x.1, a.eval x.2))) w = .ok v w) (h : K (a.put o.dst v) w) : o.wp P a w K Q := by
  unfold Oper.wp execOp
  simp only [ho, Sem.run_bind, hr, Result.andThen_ok, Sem.run_pure]
  exact h
theorem wpList_build {P : Program} {ops : Array Oper} {rest : List Oper} {o : Oper} {a : Act} {w : World} {Q : Exit → Act → World → Prop} (hgd : o.guard = none) (ty : TypeId) (parts : Array (Nat × Operand)) (ho : o.op = .build ty parts) (v : Value)
    (hr : Sem.run P (Instr.build ty (parts.map fun x => (x.1, a.eval x.2))) w = .ok v w) (h : wpList P ops Q rest (a.put o.dst v) w) : wpList P ops Q (o :: rest) a w :=
  wpList_plain hgd fun _ hK => wp_build ty parts ho v hr (hK _ _ h)

set_option maxRecDepth 100000 in
theorem keys_s (w : World) : Calls Tryd.prog 64 #[] w fun e w' => e = .returned (.agg keyC.toArray) ∧ Below w.heap.size w w' := by
  go_enter Tryd.func64, Tryd.ntmps64
  go_wp2_with (first | ((with_reducible refine wpList_build rfl 56 _ rfl (.agg keyC.toArray) ?hr ?_); (case hr => as_aux_lemma => kernel_rfl)) | ((with_reducible refine store_fresh rfl 56 _ _ rfl _ keyC.toArray _ ?hx ?hy ?hi ?hs ?h1 ?hh); (case hx => rfl); (case hy => rfl); (case hi => as_aux_lemma => kernel_rfl); (case hs => as_aux_lemma => kernel_rfl); (case h1 => as_aux_lemma => kernel_rfl)))
  exact bodyPost_ret (v := .agg keyC.toArray) (results_cell_row Tryd.results64 _ _ w.heap.size 56 keyC.toArray (0, 0) _ rfl (heap_alloc_new w _) Tryd.underlying56 rfl (by kernel_rfl)) rfl ⟨rfl, (Below.refl _ _).alloc (Nat.le_refl _) _⟩

set_option maxHeartbeats 1000000 in
theorem stateInts_i (s : St) (hs : s.ok) (w : World) :
    Calls Tryd.prog 63 #[.agg (stv s)] w (GivesRow 1 8 ((stl s).map vu) w) := by
  obtain ⟨i0, hi, hz0, hz1, hz2⟩ := info_parts i64_info
  have hix : ∀ (k : Nat) (W : World), k < 8 → Sem.run Tryd.prog (Instr.index 53 (.agg #[.int .u32 (s.a : Int), .int .u32 (s.b : Int), .int .u32 (s.c : Int), .int .u32 (s.d : Int), .int .u32 (s.e : Int), .int .u32 (s.f : Int), .int .u32 (s.g : Int), .int .u32 (s.h : Int)]) (.int .i64 (k : Int))) W = .ok (.int .u32 ((stl s).getD k 0 : Nat)) W := by
    intro k W hk
    rcases (show k = 0 ∨ k = 1 ∨ k = 2 ∨ k = 3 ∨ k = 4 ∨ k = 5 ∨ k = 6 ∨ k = 7 by omega) with rfl | rfl | rfl | rfl | rfl | rfl | rfl | rfl <;> kernel_rfl
  have HX := Lib.hid hix
  clear hix
  unfold stv vw
  go_enter Tryd.func63, Tryd.ntmps63
  go_wp2
  have hnx0 : Below w.heap.size w (w.alloc (.cells (stv s) 53)) := (Below.refl _ _).alloc (Nat.le_refl _) _
  have HN0 := Lib.hid hnx0
  clear hnx0
  go_loopw [3, 7] (fun v i wr => ∃ k : Nat, k ≤ 8 ∧ i = .int .i64 (k : Int) ∧ Hid (Obs wr w.heap.size 1 v k (((stl s).take k).map vu)) ∧ Hid (Below w.heap.size w wr)) (fun _ i _ => 8 - (intOf i).toNat)
  case atStart => exact ⟨0, Nat.zero_le _, rfl, Lib.hid (Obs.nil _ _ _), HN0⟩
  case round =>
    clear HN0
    obtain ⟨k, hk, rfl, HO, HN⟩ := hrel
    by_cases hlt : k < 8
    · have h1 := HX.out k wr hlt
      obtain ⟨x, hx⟩ : ∃ x, x = (stl s).getD k 0 := ⟨_, rfl⟩
      rw [← hx] at h1
      have hx32 : x < 4294967296 := by
        rw [hx]
        rcases (show k = 0 ∨ k = 1 ∨ k = 2 ∨ k = 3 ∨ k = 4 ∨ k = 5 ∨ k = 6 ∨ k = 7 by omega) with rfl | rfl | rfl | rfl | rfl | rfl | rfl | rfl
        · exact hs.1
        · exact hs.2.1
        · exact hs.2.2.1
        · exact hs.2.2.2.1
        · exact hs.2.2.2.2.1
        · exact hs.2.2.2.2.2.1
        · exact hs.2.2.2.2.2.2.1
        · exact hs.2.2.2.2.2.2.2
      have HS : Hid (((stl s).take (k + 1)).map vu = ((stl s).take k).map vu ++ [.int .i64 (x : Int)]) := Lib.hid (by
        have hl : k < (stl s).length := by simp [stl]; omega
        rw [List.take_succ_eq_append_getElem hl, List.map_append, hx, List.getD_eq_getElem?_getD, List.getElem?_eq_getElem hl]
        rfl)
      clear hx
      go_wp2_with (at_builtin; refine wpList_append_obs _ rfl _ _ 22 rfl w.heap.size 3 i0 (.int .i64 0) 1 8 Tryd.underlying22 hi hz0 hz1 hz2 rfl (by decide) _ _ _ rfl (HO.out.alloc _) ⟨wr.heap.size, 0, none⟩ 1 1 [.int .i64 (x : Int)] rfl rfl (new_cells _ _ _) (by simp [Value.oneCell']) (by unfold maxLen; omega) (by omega) (by have := HN.out.size; simp; omega) ?_; intro v1 w1 hown1 hb1 hg1)
      have H1 : Hid (Obs w1 w.heap.size 1 v1 (k + 1) (((stl s).take (k + 1)).map vu)) := Lib.hid (by rw [HS.out]; exact hown1)
      have H2 := Lib.hid ((HN.out.alloc HN.out.size _).trans hb1)
      clear hown1 hb1 hg1 HO HN HS
      go_wp2
      go_roundw
      case rel => exact ⟨k + 1, by omega, by go_num, H1, H2⟩
      case measure => simp [intOf]; omega
    · obtain rfl : k = 8 := by omega
      go_wp2
      go_ret
      exact ⟨_, rfl, HO.out, HN.out⟩
end Go.Proofs.YtmhekefjlepfpaaDoor
