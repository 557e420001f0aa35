/- The card of the law FnExactShaStart: for every input the law returns true and each argument reads as before, where the listed tables hold what the program text lays. -/
import Derived.Test.YtmhekefjlepfpaaDoorCards
import Derived.Test.YtmhekefjlepfpaaDoorTie
import Derived.Test.YtmhekefjlepfpaaDoorF2
import Derived.Test.YtmhekefjlepfpaaDoorL4
namespace Go.Proofs.YtmhekefjlepfpaaDoor
open Go.ChangeShapes Go.WideShapes Go.ChangeAt Go.RowKit
open Go.ChangeMaps (open_string shut_string)
set_option linter.unusedVariables false
set_option linter.unusedSimpArgs false

theorem own : ownKnob Tryd.prog.godebug = none := by kernel_rfl
theorem laid_out : laidOutB Tryd.prog = true := by kernel_rfl
theorem cells_u32 : Tryd.prog.cellsOf 52 = 1 := by kernel_rfl
theorem getD_cast (l : List Nat) (k : Nat) : (l.map fun (x : Nat) => (x : Int)).getD k 0 = ((l.getD k 0 : Nat) : Int) := by
  simp only [List.getD_eq_getElem?_getD, List.getElem?_map]
  cases l[k]? <;> rfl
theorem gS : Tryd.prog.globalNamed "loop.example/g00967/impl.startWords" = some 0 := by kernel_rfl
theorem gSType : (Tryd.prog.globals[0]?).map (·.type) = some 53 := by kernel_rfl
theorem cells8 : Tryd.prog.cellsOf 53 = 8 := by kernel_rfl
theorem rdvS : Tryd.prog.readableRec 53 = true ∧ 53 < Tryd.prog.types.size := ⟨by kernel_rfl, of_decide_eq_true (by kernel_rfl)⟩
set_option maxRecDepth 100000 in
theorem tabS {W : World} {rest : List (String × DataW Unit)} (h : laidMet Tryd.prog (("loop.example/g00967/impl.startWords", Rows.laid_loop_example_g00967_impl_startWords) :: rest) W) : HoldsS W := by
  have ht : Lib.TabIs Tryd.prog W "loop.example/g00967/impl.startWords" .u32 ((stl start0).map fun (x : Nat) => (x : Int)) := Lib.tabIs_of_head (rest := rest) gS gSType Tryd.underlying53 Tryd.underlying52 cells_u32 cells8 h
  have hc : ∀ k, k < 8 → W.cell? ⟨0, k, none⟩ = some (vw ((stl start0).getD k 0)) := fun k hk => by
    have := ht.cell gS k (by rw [List.length_map]; exact hk)
    rw [getD_cast] at this
    exact this
  exact ⟨block_lt_of_cell (hc 0 (by omega)), hc⟩

theorem contract (H : Type) (enc : TypeId × Value → H) (W : World) (base : Nat) (args : Array Value) (ds gs : List (DataW H)) (before : List MemPlace)
    (hval : ∀ (j : Nat) t v, Tryd.f3.params[j]? = some t → args[j]? = some v → Value.okWide Tryd.prog W .any base t v)
    (hW : DataW.Whole enc Tryd.prog Tryd.f3.params.toList Rows.fnExactShaStartSpec.vars false W args.toList ds gs before) (hL : laidMetH Tryd.prog Rows.fnExactShaStartRow.laid W) :
    Calls Tryd.prog 3 args W fun e W' => ∃ v, e = .returned v ∧ Rows.fnExactShaStartSpec.post enc Tryd.prog Tryd.f3 false true false false W args v W' := by
  have hW' := hW
  obtain ⟨p, q, hA0, hV, rfl, hfz, hnd⟩ := hW
  have hA : DataW.TrodAll enc Tryd.prog W 0 (fun _ => true) true Tryd.f3.params.toList args.toList ds p := hA0
  rw [Tryd.params3] at hA hval
  obtain ⟨rfl, rfl, rfl⟩ := trodAll_none hA
  obtain ⟨_, _, _, _, _, _, rfl, _⟩ := trodVars_one hV
  clear hA0
  refine (law_ShaStart  W  (tabS hL)).mono fun e W' ⟨he, hg⟩ => ?_
  subst he
  exact ⟨_, rfl, law_postV (P := Tryd.prog) Tryd.underlying4 rfl (List.forall_mem_cons.2 ⟨⟨0, 53, gS, gSType, rdvS.1, rdvS.2⟩, List.forall_mem_nil _⟩) laid_out (by rw [Tryd.params3]; exact List.forall_mem_nil _) hW' rfl rfl rfl hg⟩

noncomputable def laidWorld (os : Os) : World := { World.holding Tryd.prog os ⟨#[], #[], []⟩ with heap := ((World.holding Tryd.prog os ⟨#[], #[], []⟩).heap.modify 0 fun | .cells _ t fr => .cells ((stl start0).map vw).toArray t fr | o => o) }
set_option maxRecDepth 100000 in
theorem laid_met (os : Os) : laidMet Tryd.prog Rows.fnExactShaStartRow.laid ((laidWorld os).forCall (fun _ _ => 0) ⟨#[], #[], []⟩).memory :=
  laidMet_of_run' 8 (by kernel_rfl) (by kernel_rfl)
theorem reads (os : Os) {H : Type} (enc : TypeId × Value → H) : DataW.whole enc Tryd.prog ((laidWorld os).forCall (fun _ _ => 0) ⟨#[], #[], []⟩).memory Tryd.f3.params.toList Rows.fnExactShaStartSpec.vars false (#[] : Array Value).toList 8 = some ([], [Rows.laid_loop_example_g00967_impl_startWords], MemPlace.row ⟨0, 0, none⟩ 8 ++ [] ++ ([])) := by kernel_rfl

set_option maxRecDepth 100000 in
theorem lifted (os : Os) (started : os.Started) (H : Type) (enc : TypeId × Value → H) (F : Stop.Interp) :
    ReturnsInHanded {} Tryd.checked os 3 .any ((OpenSpec.ofChange Rows.fnExactShaStartSpec).preRow enc Tryd.prog Tryd.f3 Rows.fnExactShaStartRow.domain false Rows.fnExactShaStartRow.laid) (((OpenSpec.ofChange Rows.fnExactShaStartSpec).at F).post enc Tryd.prog Tryd.f3 false true false false) := by
  refine returnsInHanded_of_row (C := Tryd.checked) (s := OpenSpec.ofChange Rows.fnExactShaStartSpec) own started (by kernel_rfl) Tryd.func3
    (witness_row_at (enc := enc) (C := Tryd.checked) false (laidWorld os) #[] rfl (by kernel_rfl) (by kernel_rfl) (by kernel_rfl)
      (OpenSpec.preRow_of_cond 8 (reads os enc) (by kernel_rfl) (fun k hk => by cases hk) (by kernel_rfl) (laid_met os))) ?_
  intro W base args ds gs before hval hW _ _ _ hL _ _
  exact contract H enc W base args ds gs before hval hW hL

set_option maxHeartbeats 4000000 in
theorem closed : joinedFacts Tryd.pinned.checked.prog 3 Tryd.f3 (OpenSpec.ofChange Rows.fnExactShaStartSpec).bare Rows.fnExactShaStartRow = true := by
  unfold joinedFacts
  repeat' (with_reducible refine (Bool.and_eq_true_iff).2 ⟨?_, ?_⟩)
  all_goals as_aux_lemma => kernel_rfl
theorem named : Tryd.pinned.checked.prog.funcNamed Rows.fnExactShaStartRow.func = some 3 := by kernel_rfl
theorem inst : Func.isInstance Tryd.pinned.checked.prog Tryd.f3 Rows.fnExactShaStartRow.origin Rows.fnExactShaStartRow.targs := of_decide_eq_true (by kernel_rfl)
theorem said : Rows.FnExactShaStartSaid :=
  OpenClaim.holds_of_cond 3 Tryd.f3 rfl rfl rfl rfl rfl rfl rfl ⟨rfl, rfl, rfl, rfl, rfl⟩ rfl rfl rfl rfl rfl named Tryd.func3 closed
    inst (by unfold Func.isWrapper; first | (rw [if_pos (by decide +kernel)]; kernel_rfl) | (rw [if_neg (by decide +kernel)]; exact ⟨rfl, rfl⟩))
    (fun os started H enc _ F => by rw [OpenClaim.pre_eq_preRow]; exact lifted os started H enc F)

/-- no parameter wants a stand-in; the program's own looks are off -/
theorem plain (f : FuncId) (fn : Func) (hf : Tryd.pinned.checked.prog.funcNamed "loop.example/g00967/laws.FnExactShaStart" = some f) (hfn : Tryd.pinned.checked.prog.funcs[f]? = some fn) :
    false = Tryd.pinned.checked.prog.looks [] ∧ ∀ (j : Nat) t, fn.params[j]? = some t → Tryd.pinned.checked.prog.wantsStandIn t = false := by
  obtain rfl : f = 3 := Option.some.inj ((show Tryd.prog.funcNamed "loop.example/g00967/laws.FnExactShaStart" = some 3 by kernel_rfl).symm.trans hf) |>.symm
  obtain rfl : fn = Tryd.f3 := (Option.some.inj (Tryd.func3.symm.trans hfn)).symm
  refine ⟨by kernel_rfl, fun j t ht => ?_⟩
  rw [Tryd.params3] at ht
  have hall : ∀ t ∈ ([] : List TypeId), Tryd.prog.wantsStandIn t = false := List.forall_mem_nil _
  exact hall t (by have hm := Array.mem_of_getElem? ht; revert hm; simp)

theorem wf_text : Rows.fnExactShaStartRow.wfByText (OpenSpec.ofChange Rows.fnExactShaStartSpec) = true := by kernel_rfl
theorem main_is : Tryd.pinned.checked.prog.mainIs = some (Rows.fnExactShaStartCard.stood.harness.1, Rows.fnExactShaStartCard.stood.harness.2.toList) := by kernel_rfl
theorem goes : false = Rows.fnExactShaStartRow.goesBy Tryd.pinned.checked.prog := by kernel_rfl
theorem ShaStart_holds : Rows.FnExactShaStartCardSaid :=
  Claim7.holds_tied_plain_at .later [] _ _ _ _ said (fun _ h => by cases h) wf_text (fun _ h => by cases h) fnExactShaStart_row_tie rfl ⟨rfl, rfl⟩ main_is rfl plain goes
#print axioms ShaStart_holds
end Go.Proofs.YtmhekefjlepfpaaDoor
