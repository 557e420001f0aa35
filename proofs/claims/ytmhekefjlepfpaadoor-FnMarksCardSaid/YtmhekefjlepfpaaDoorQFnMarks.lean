/- The card of the law FnMarks: for every input the law returns true and each argument reads as before, where the listed tables hold what the program text lays. -/
import Derived.Test.YtmhekefjlepfpaaDoorCards
import Derived.Test.YtmhekefjlepfpaaDoorTie
import Derived.Test.YtmhekefjlepfpaaDoorF2
import Derived.Stop.LaidErr
import Derived.Test.YtmhekefjlepfpaaDoorFC
import Derived.Test.YtmhekefjlepfpaaDoorL29
namespace Go.Proofs.YtmhekefjlepfpaaDoor
open Go.ChangeShapes Go.WideShapes Go.ChangeAt Go.RowKit
open Go.ChangeMaps (open_string shut_string)
set_option linter.unusedVariables false
set_option linter.unusedSimpArgs false

theorem contract (H : Type) (enc : TypeId × Value → H) (W : World) (base : Nat) (args : Array Value) (ds gs : List (DataW H)) (before : List MemPlace)
    (hval : ∀ (j : Nat) t v, Tryd.f20.params[j]? = some t → args[j]? = some v → Value.okWide Tryd.prog W .any base t v)
    (hW : DataW.Whole enc Tryd.prog Tryd.f20.params.toList Rows.fnMarksSpec.vars false W args.toList ds gs before) (hL : laidMetH Tryd.prog Rows.fnMarksRow.laid W) :
    Calls Tryd.prog 20 args W fun e W' => ∃ v, e = .returned v ∧ Rows.fnMarksSpec.post enc Tryd.prog Tryd.f20 false true false false W args v W' := by
  have hW' := hW
  obtain ⟨p, q, hA0, hV, rfl, hfz, hnd⟩ := hW
  have hA : DataW.TrodAll enc Tryd.prog W 0 (fun _ => true) true Tryd.f20.params.toList args.toList ds p := hA0
  rw [Tryd.params20] at hA hval
  obtain ⟨v0, vs0, d0, ds0, p0, q0, hargs, rfl, rfl, h0, r0⟩ := trodAll_cons hA
  obtain ⟨rfl, rfl, rfl⟩ := trodAll_nil r0
  obtain rfl : args = #[v0] := by cases args; simp_all
  obtain ⟨_, _, _, _, _, _, _, _, _, _, _, _, rfl, _⟩ := trodVars_two hV
  obtain ⟨n0, x0, w0, z0⟩ := rd_ints Tryd.underlying44 Tryd.underlying5 cells_u8 (hval 0 44 v0 rfl rfl) h0
  clear hA0
  refine (law_FnMarks v0 n0 x0 W w0 z0 (tabK hL) (tabS (laidMet.tail hL))).mono fun e W' ⟨he, hg⟩ => ?_
  subst he
  exact ⟨_, rfl, law_postV (P := Tryd.prog) Tryd.underlying4 rfl (List.forall_mem_cons.2 ⟨⟨0, 53, gS, gSType, rdvS.1, rdvS.2⟩, List.forall_mem_cons.2 ⟨⟨1, 56, gK, gKType, rdvK.1, rdvK.2⟩, List.forall_mem_nil _⟩⟩) laid_out (by rw [Tryd.params20]; exact List.forall_mem_cons.2 ⟨rd_B, List.forall_mem_nil _⟩) hW' rfl rfl rfl hg⟩

noncomputable def laidWorld (os : Os) : World := { World.holding Tryd.prog os ⟨#[], #[], []⟩ with heap := (((World.holding Tryd.prog os ⟨#[], #[], []⟩).heap.modify 0 fun | .cells _ t fr => .cells ((stl start0).map vw).toArray t fr | o => o).modify 1 fun | .cells _ t fr => .cells ((roundK).map vw).toArray t fr | o => o) }
set_option maxRecDepth 100000 in
theorem laid_met (os : Os) : laidMet Tryd.prog Rows.fnMarksRow.laid ((laidWorld os).forCall (fun _ _ => 0) ⟨#[], #[.slice none 0 0], []⟩).memory :=
  laidMet_of_run' 8 (by kernel_rfl) (by kernel_rfl)
theorem reads (os : Os) {H : Type} (enc : TypeId × Value → H) : DataW.whole enc Tryd.prog ((laidWorld os).forCall (fun _ _ => 0) ⟨#[], #[.slice none 0 0], []⟩).memory Tryd.f20.params.toList Rows.fnMarksSpec.vars false (#[.slice none 0 0] : Array Value).toList 8 = some ([.nil], [Rows.laid_loop_example_g00967_impl_startWords, Rows.laid_loop_example_g00967_impl_roundWords], MemPlace.row ⟨0, 0, none⟩ 8 ++ [] ++ (MemPlace.row ⟨1, 0, none⟩ 64 ++ [] ++ ([]))) := by kernel_rfl

set_option maxRecDepth 100000 in
theorem lifted (os : Os) (started : os.Started) (H : Type) (enc : TypeId × Value → H) (F : Stop.Interp) :
    ReturnsInHanded {} Tryd.checked os 20 .any ((OpenSpec.ofChange Rows.fnMarksSpec).preRow enc Tryd.prog Tryd.f20 Rows.fnMarksRow.domain false Rows.fnMarksRow.laid) (((OpenSpec.ofChange Rows.fnMarksSpec).at F).post enc Tryd.prog Tryd.f20 false true false false) := by
  refine returnsInHanded_of_row (C := Tryd.checked) (s := OpenSpec.ofChange Rows.fnMarksSpec) own started (by kernel_rfl) Tryd.func20
    (witness_row_at (enc := enc) (C := Tryd.checked) false (laidWorld os) #[.slice none 0 0] rfl (by kernel_rfl) (by kernel_rfl) (by kernel_rfl)
      (OpenSpec.preRow_of_cond 8 (reads os enc) (by kernel_rfl) (fun k hk => by cases hk) (by kernel_rfl) (laid_met os))) ?_
  intro W base args ds gs before hval hW _ _ _ hL _ _
  exact contract H enc W base args ds gs before hval hW hL

set_option maxHeartbeats 4000000 in
theorem closed : joinedFacts Tryd.pinned.checked.prog 20 Tryd.f20 (OpenSpec.ofChange Rows.fnMarksSpec).bare Rows.fnMarksRow = true := by
  unfold joinedFacts
  rw [may_enter, lifts_eq, make_eq_]
  repeat' (with_reducible refine (Bool.and_eq_true_iff).2 ⟨?_, ?_⟩)
  all_goals as_aux_lemma => kernel_rfl
theorem named : Tryd.pinned.checked.prog.funcNamed Rows.fnMarksRow.func = some 20 := by kernel_rfl
theorem inst : Func.isInstance Tryd.pinned.checked.prog Tryd.f20 Rows.fnMarksRow.origin Rows.fnMarksRow.targs := of_decide_eq_true (by kernel_rfl)
theorem said : Rows.FnMarksSaid :=
  OpenClaim.holds_of_cond 20 Tryd.f20 rfl rfl rfl rfl rfl rfl rfl ⟨rfl, rfl, rfl, rfl, rfl⟩ rfl rfl rfl rfl rfl named Tryd.func20 closed
    inst (by unfold Func.isWrapper; first | (rw [if_pos (by decide +kernel)]; kernel_rfl) | (rw [if_neg (by decide +kernel)]; exact ⟨rfl, rfl⟩))
    (fun os started H enc _ F => by rw [OpenClaim.pre_eq_preRow]; exact lifted os started H enc F)

/-- no parameter wants a stand-in; the program's own looks are off -/
theorem plain (f : FuncId) (fn : Func) (hf : Tryd.pinned.checked.prog.funcNamed "loop.example/g00967/laws.FnMarks" = some f) (hfn : Tryd.pinned.checked.prog.funcs[f]? = some fn) :
    false = Tryd.pinned.checked.prog.looks [] ∧ ∀ (j : Nat) t, fn.params[j]? = some t → Tryd.pinned.checked.prog.wantsStandIn t = false := by
  obtain rfl : f = 20 := Option.some.inj ((show Tryd.prog.funcNamed "loop.example/g00967/laws.FnMarks" = some 20 by kernel_rfl).symm.trans hf) |>.symm
  obtain rfl : fn = Tryd.f20 := (Option.some.inj (Tryd.func20.symm.trans hfn)).symm
  refine ⟨by kernel_rfl, fun j t ht => ?_⟩
  rw [Tryd.params20] at ht
  have hall : ∀ t ∈ ([44] : List TypeId), Tryd.prog.wantsStandIn t = false := List.forall_mem_cons.2 ⟨by kernel_rfl, List.forall_mem_nil _⟩
  exact hall t (by have hm := Array.mem_of_getElem? ht; revert hm; simp)

theorem wf_text : Rows.fnMarksRow.wfByText (OpenSpec.ofChange Rows.fnMarksSpec) = true := by kernel_rfl
theorem main_is : Tryd.pinned.checked.prog.mainIs = some (Rows.fnMarksCard.stood.harness.1, Rows.fnMarksCard.stood.harness.2.toList) := by kernel_rfl
theorem goes : false = Rows.fnMarksRow.goesBy Tryd.pinned.checked.prog := by kernel_rfl
theorem FnMarks_holds : Rows.FnMarksCardSaid :=
  Claim7.holds_tied_plain_at .later [] _ _ _ _ said (fun _ h => by cases h) wf_text (fun _ h => by cases h) fnMarks_row_tie rfl ⟨rfl, rfl⟩ main_is rfl plain goes
#print axioms FnMarks_holds
end Go.Proofs.YtmhekefjlepfpaaDoor
