/- The rows of the laws: each law returns true for every input, and each argument reads as before. -/
import Derived.Test.YtkgbkgonlopciaaRows
import Derived.Test.YtkgbkgonlopciaaF
import Derived.Test.YtkgbkgonlopciaaF2
import Derived.Test.YtkgbkgonlopciaaL26
namespace Go.Proofs.Ytkgbkgonlopciaa
open Go.ChangeShapes Go.WideShapes Go.ChangeAt Go.RowKit
open Go.ChangeMaps (open_string shut_string)
set_option linter.unusedVariables false
set_option linter.unusedSimpArgs false

theorem own : ownKnob Try.prog.godebug = none := by kernel_rfl
theorem laid_out : laidOutB Try.prog = true := by kernel_rfl
theorem rd_s : Try.prog.readableRec 9 = true ∧ 9 < Try.prog.types.size := ⟨by kernel_rfl, of_decide_eq_true (by kernel_rfl)⟩
theorem rd_i : Try.prog.readableRec 3 = true ∧ 3 < Try.prog.types.size := ⟨by kernel_rfl, of_decide_eq_true (by kernel_rfl)⟩
theorem rd_B : Try.prog.readableRec 40 = true ∧ 40 < Try.prog.types.size := ⟨by kernel_rfl, of_decide_eq_true (by kernel_rfl)⟩
theorem cells_u8 : Try.prog.cellsOf 5 = 1 := by kernel_rfl

set_option maxRecDepth 100000 in
theorem lifted_FnOptions (walk : ∀ (v0 : Value) (n0 : Nat) (x0 : List Int) (W : World) (w0 : Rd W 1 v0 n0 (x0.map (Value.int .u8))) (z0 : ∀ x ∈ x0, (Lit.int .u8 x).wf = true), Calls Try.prog 11 #[v0] W fun e w' => e = .returned (.bool true) ∧ Below W.heap.size W w') (os : Os) (started : os.Started) (H : Type) (enc : TypeId × Value → H) :
    ReturnsInHanded {} Try.checked os 11 .any (Rows.fnOptionsSpec.pre6 enc Try.prog Try.f11 Rows.fnOptionsRow.domain false) (Rows.fnOptionsSpec.post enc Try.prog Try.f11 false true false false) := by
  refine returnsInHanded_of_change (C := Try.checked) own started (by kernel_rfl) Try.func11
    (ChangeSpec.witness6 (enc := enc) (C := Try.checked) false ⟨#[], #[.slice none 0 0], []⟩ 8 (by kernel_rfl) (by kernel_rfl) (by kernel_rfl) (by kernel_rfl)) ?_
  intro W base args ds gs before hval0 hW hcnd _
  have hval : ∀ (j : Nat) t v, Try.f11.params[j]? = some t → args[j]? = some v → Value.okWide Try.prog W .any base t v := hval0
  have hW' := hW
  obtain ⟨p, q, hA0, hV, rfl, hfz, hnd⟩ := hW
  have hA : DataW.TrodAll enc Try.prog W 0 (fun _ => true) true Try.f11.params.toList args.toList ds p := hA0
  rw [Try.params11] at hA hval
  obtain ⟨v0, vs0, d0, ds0, p0, q0, hargs, rfl, rfl, h0, r0⟩ := trodAll_cons hA
  obtain ⟨rfl, rfl, rfl⟩ := trodAll_nil r0
  obtain rfl : args = #[v0] := by cases args; simp_all
  obtain ⟨rfl, rfl⟩ := trodVars_none hV
  obtain ⟨n0, x0, w0, z0⟩ := rd_ints Try.underlying40 Try.underlying5 cells_u8 (hval 0 40 v0 rfl rfl) h0
  clear hA0 hval0
  refine (walk v0 n0 x0 W w0 z0).mono fun e W' ⟨he, hg⟩ => ?_
  subst he
  exact ⟨_, rfl, law_post (P := Try.prog) Try.underlying4 rfl rfl laid_out (by rw [Try.params11]; exact List.forall_mem_cons.2 ⟨rd_B, List.forall_mem_nil _⟩) hW' rfl rfl rfl hg⟩

theorem over_FnOptions (walk : ∀ (v0 : Value) (n0 : Nat) (x0 : List Int) (W : World) (w0 : Rd W 1 v0 n0 (x0.map (Value.int .u8))) (z0 : ∀ x ∈ x0, (Lit.int .u8 x).wf = true), Calls Try.prog 11 #[v0] W fun e w' => e = .returned (.bool true) ∧ Below W.heap.size W w') : Rows.FnOptionsSaid :=
  OpenClaim.holds_of_wide 11 Try.f11 rfl rfl rfl rfl rfl rfl rfl ⟨rfl, rfl, rfl, rfl, rfl⟩ rfl rfl rfl rfl rfl (by kernel_rfl) Try.func11 (by kernel_rfl)
    (of_decide_eq_true (by kernel_rfl)) (by unfold Func.isWrapper; first | (rw [if_pos (by decide +kernel)]; kernel_rfl) | (rw [if_neg (by decide +kernel)]; exact ⟨rfl, rfl⟩))
    (fun os started H enc _ => lifted_FnOptions walk os started H enc)

theorem FnOptions_holds : Rows.FnOptionsSaid := over_FnOptions law_FnOptions
#print axioms FnOptions_holds

end Go.Proofs.Ytkgbkgonlopciaa
