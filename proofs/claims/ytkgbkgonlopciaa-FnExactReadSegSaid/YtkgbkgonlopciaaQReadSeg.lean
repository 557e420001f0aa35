/- The rows of the laws: each law returns true for every input, and each argument reads as before. -/
import Derived.Test.YtkgbkgonlopciaaRows
import Derived.Test.YtkgbkgonlopciaaF
import Derived.Test.YtkgbkgonlopciaaL25
namespace Go.Proofs.Ytkgbkgonlopciaa
open Go.ChangeShapes Go.WideShapes Go.ChangeAt Go.RowKit
open Go.ChangeMaps (open_string shut_string)
set_option linter.unusedVariables false
set_option linter.unusedSimpArgs false

theorem own : ownKnob Try.prog.godebug = none := by kernel_rfl
theorem laid_out : laidOutB Try.prog = true := by kernel_rfl
theorem rd_s : Try.prog.readableRec 9 = true ∧ 9 < Try.prog.types.size := ⟨by kernel_rfl, of_decide_eq_true (by kernel_rfl)⟩
theorem rd_i : Try.prog.readableRec 3 = true ∧ 3 < Try.prog.types.size := ⟨by kernel_rfl, of_decide_eq_true (by kernel_rfl)⟩

set_option maxRecDepth 100000 in
theorem lifted_ReadSeg (walk : ∀ (a0 : ByteArray) (W : World) (w0 : a0.size ≤ maxLen), Calls Try.prog 14 #[.string a0] W fun e w' => e = .returned (.bool true) ∧ Below W.heap.size W w') (os : Os) (started : os.Started) (H : Type) (enc : TypeId × Value → H) :
    ReturnsInHanded {} Try.checked os 14 .any (Rows.fnExactReadSegSpec.pre6 enc Try.prog Try.f14 Rows.fnExactReadSegRow.domain false) (Rows.fnExactReadSegSpec.post enc Try.prog Try.f14 false true false false) := by
  refine returnsInHanded_of_change (C := Try.checked) own started (by kernel_rfl) Try.func14
    (ChangeSpec.witness6 (enc := enc) (C := Try.checked) false ⟨#[], #[.string ByteArray.empty], []⟩ 8 (by kernel_rfl) (by kernel_rfl) (by kernel_rfl) (by kernel_rfl)) ?_
  intro W base args ds gs before hval0 hW hcnd _
  have hval : ∀ (j : Nat) t v, Try.f14.params[j]? = some t → args[j]? = some v → Value.okWide Try.prog W .any base t v := hval0
  have hW' := hW
  obtain ⟨p, q, hA0, hV, rfl, hfz, hnd⟩ := hW
  have hA : DataW.TrodAll enc Try.prog W 0 (fun _ => true) true Try.f14.params.toList args.toList ds p := hA0
  rw [Try.params14] at hA hval
  obtain ⟨v0, vs0, d0, ds0, p0, q0, hargs, rfl, rfl, h0, r0⟩ := trodAll_cons hA
  obtain ⟨rfl, rfl, rfl⟩ := trodAll_nil r0
  obtain rfl : args = #[v0] := by cases args; simp_all
  obtain ⟨rfl, rfl⟩ := trodVars_none hV
  obtain ⟨a0, rfl, rfl, rfl, w0⟩ := open_string Try.underlying9 (hval 0 9 v0 rfl rfl) h0
  clear hA0 hval0
  refine (walk a0 W w0).mono fun e W' ⟨he, hg⟩ => ?_
  subst he
  exact ⟨_, rfl, law_post (P := Try.prog) Try.underlying4 rfl rfl laid_out (by rw [Try.params14]; exact List.forall_mem_cons.2 ⟨rd_s, List.forall_mem_nil _⟩) hW' rfl rfl rfl hg⟩

theorem over_ReadSeg (walk : ∀ (a0 : ByteArray) (W : World) (w0 : a0.size ≤ maxLen), Calls Try.prog 14 #[.string a0] W fun e w' => e = .returned (.bool true) ∧ Below W.heap.size W w') : Rows.FnExactReadSegSaid :=
  OpenClaim.holds_of_wide 14 Try.f14 rfl rfl rfl rfl rfl rfl rfl ⟨rfl, rfl, rfl, rfl, rfl⟩ rfl rfl rfl rfl rfl (by kernel_rfl) Try.func14 (by kernel_rfl)
    (of_decide_eq_true (by kernel_rfl)) (by unfold Func.isWrapper; first | (rw [if_pos (by decide +kernel)]; kernel_rfl) | (rw [if_neg (by decide +kernel)]; exact ⟨rfl, rfl⟩))
    (fun os started H enc _ => lifted_ReadSeg walk os started H enc)

theorem ReadSeg_holds : Rows.FnExactReadSegSaid := over_ReadSeg law_ReadSeg
#print axioms ReadSeg_holds

end Go.Proofs.Ytkgbkgonlopciaa
