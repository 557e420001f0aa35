/- The rows of the laws: each law returns true for every input, and each argument reads as before. -/
import Derived.Test.YtkgbkgonlopciaaRows
import Derived.Test.YtkgbkgonlopciaaF
import Derived.Test.YtkgbkgonlopciaaF2
import Derived.Test.YtkgbkgonlopciaaF5
import Derived.Test.YtkgbkgonlopciaaF4
import Derived.Test.YtkgbkgonlopciaaF3
import Derived.Test.YtkgbkgonlopciaaL24
namespace Go.Proofs.Ytkgbkgonlopciaa
open Go.ChangeShapes Go.WideShapes Go.ChangeAt Go.RowKit
open Go.ChangeMaps (open_string shut_string)
set_option linter.unusedVariables false
set_option linter.unusedSimpArgs false

theorem own : ownKnob Try.prog.godebug = none := by kernel_rfl
theorem laid_out : laidOutB Try.prog = true := by kernel_rfl
theorem rd_s : Try.prog.readableRec 9 = true ∧ 9 < Try.prog.types.size := ⟨by kernel_rfl, of_decide_eq_true (by kernel_rfl)⟩
theorem rd_i : Try.prog.readableRec 3 = true ∧ 3 < Try.prog.types.size := ⟨by kernel_rfl, of_decide_eq_true (by kernel_rfl)⟩
theorem rd_G : Try.prog.readableRec 32 = true ∧ 32 < Try.prog.types.size := ⟨by kernel_rfl, of_decide_eq_true (by kernel_rfl)⟩

set_option maxRecDepth 100000 in
theorem lifted_FirstOpt (walk : ∀ (x0 : SD) (ov0 : Value) (n0 : Nat) (vs0 : List Value) (a1 : Int) (W : World) (w0 : RdO W ov0 n0 x0.ops vs0) (z0 : x0.wf) (w1 : (Lit.int .i64 a1).wf = true), Calls Try.prog 6 #[vx x0 ov0, .int .i64 a1] W fun e w' => e = .returned (.bool true) ∧ Below W.heap.size W w') (os : Os) (started : os.Started) (H : Type) (enc : TypeId × Value → H) :
    ReturnsInHanded {} Try.checked os 6 .any (Rows.fnExactFirstOptSpec.pre6 enc Try.prog Try.f6 Rows.fnExactFirstOptRow.domain false) (Rows.fnExactFirstOptSpec.post enc Try.prog Try.f6 false true false false) := by
  refine returnsInHanded_of_change (C := Try.checked) own started (by kernel_rfl) Try.func6
    (ChangeSpec.witness6 (enc := enc) (C := Try.checked) false ⟨#[], #[.agg #[.int .i64 0, .int .i64 0, .int .i64 0, .int .i64 0, .int .i64 0, .int .i64 0, .int .i64 0, .slice none 0 0, .string ByteArray.empty], .int .i64 0], []⟩ 8 (by kernel_rfl) (by kernel_rfl) (by kernel_rfl) (by kernel_rfl)) ?_
  intro W base args ds gs before hval0 hW hcnd _
  have hval : ∀ (j : Nat) t v, Try.f6.params[j]? = some t → args[j]? = some v → Value.okWide Try.prog W .any base t v := hval0
  have hW' := hW
  obtain ⟨p, q, hA0, hV, rfl, hfz, hnd⟩ := hW
  have hA : DataW.TrodAll enc Try.prog W 0 (fun _ => true) true Try.f6.params.toList args.toList ds p := hA0
  rw [Try.params6] at hA hval
  obtain ⟨v0, vs0, d0, ds0, p0, q0, hargs, rfl, rfl, h0, r0⟩ := trodAll_cons hA
  obtain ⟨v1, vs1, d1, ds1, p1, q1, rfl, rfl, rfl, h1, r1⟩ := trodAll_cons r0
  obtain ⟨rfl, rfl, rfl⟩ := trodAll_nil r1
  obtain rfl : args = #[v0, v1] := by cases args; simp_all
  obtain ⟨rfl, rfl⟩ := trodVars_none hV
  obtain ⟨x0, ov0, n0, vs0, rfl, w0, z0⟩ := rd_seg Try.underlying32 (by kernel_rfl) (by kernel_rfl) (by kernel_rfl) (by kernel_rfl) Try.underlying30 Try.underlying24 (by kernel_rfl) (by kernel_rfl) (by kernel_rfl) (hval 0 32 v0 rfl rfl) h0
  obtain ⟨a1, rfl, rfl, rfl, w1⟩ := open_int Try.underlying3 (hval 1 3 v1 rfl rfl) h1
  clear hA0 hval0
  refine (walk x0 ov0 n0 vs0 a1 W w0 z0 w1).mono fun e W' ⟨he, hg⟩ => ?_
  subst he
  exact ⟨_, rfl, law_post (P := Try.prog) Try.underlying4 rfl rfl laid_out (by rw [Try.params6]; exact List.forall_mem_cons.2 ⟨rd_G, List.forall_mem_cons.2 ⟨rd_i, List.forall_mem_nil _⟩⟩) hW' rfl rfl rfl hg⟩

theorem over_FirstOpt (walk : ∀ (x0 : SD) (ov0 : Value) (n0 : Nat) (vs0 : List Value) (a1 : Int) (W : World) (w0 : RdO W ov0 n0 x0.ops vs0) (z0 : x0.wf) (w1 : (Lit.int .i64 a1).wf = true), Calls Try.prog 6 #[vx x0 ov0, .int .i64 a1] W fun e w' => e = .returned (.bool true) ∧ Below W.heap.size W w') : Rows.FnExactFirstOptSaid :=
  OpenClaim.holds_of_wide 6 Try.f6 rfl rfl rfl rfl rfl rfl rfl ⟨rfl, rfl, rfl, rfl, rfl⟩ rfl rfl rfl rfl rfl (by kernel_rfl) Try.func6 (by kernel_rfl)
    (of_decide_eq_true (by kernel_rfl)) (by unfold Func.isWrapper; first | (rw [if_pos (by decide +kernel)]; kernel_rfl) | (rw [if_neg (by decide +kernel)]; exact ⟨rfl, rfl⟩))
    (fun os started H enc _ => lifted_FirstOpt walk os started H enc)

theorem FirstOpt_holds : Rows.FnExactFirstOptSaid := over_FirstOpt law_FirstOpt
#print axioms FirstOpt_holds

end Go.Proofs.Ytkgbkgonlopciaa
