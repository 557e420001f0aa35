/- The card of the law FnExactDoneMark: for every input the law returns true and each argument reads as before, where the listed tables hold what the program text lays. -/
import Derived.Test.YtmhekefjlepfpaaDoorCards
import Derived.Test.YtmhekefjlepfpaaDoorTie
import Derived.Test.YtmhekefjlepfpaaDoorF2
import Derived.Stop.LaidErr
import Derived.Test.YtmhekefjlepfpaaDoorFC
import Derived.Test.YtmhekefjlepfpaaDoorL6
namespace Go.Proofs.YtmhekefjlepfpaaDoor
open Go.ChangeShapes Go.WideShapes Go.ChangeAt Go.RowKit
open Go.ChangeMaps (open_string shut_string)
set_option linter.unusedVariables false
set_option linter.unusedSimpArgs false

theorem contract (H : Type) (enc : TypeId × Value → H) (W : World) (base : Nat) (args : Array Value) (ds gs : List (DataW H)) (before : List MemPlace)
    (hval : ∀ (j : Nat) t v, Tryd.f17.params[j]? = some t → args[j]? = some v → Value.okWide Tryd.prog W .any base t v)
    (hW : DataW.Whole enc Tryd.prog Tryd.f17.params.toList Rows.fnExactDoneMarkSpec.vars false W args.toList ds gs before) (hL : laidMetH Tryd.prog Rows.fnExactDoneMarkRow.laid W) :
    Calls Tryd.prog 17 args W fun e W' => ∃ v, e = .returned v ∧ Rows.fnExactDoneMarkSpec.post enc Tryd.prog Tryd.f17 false true false false W args v W' := by
  have hW' := hW
  obtain ⟨p, q, hA0, hV, rfl, hfz, hnd⟩ := hW
  have hA : DataW.TrodAll enc Tryd.prog W 0 (fun _ => true) true Tryd.f17.params.toList args.toList ds p := hA0
  rw [Tryd.params17] at hA hval
  obtain ⟨v0, vs0, d0, ds0, p0, q0, hargs, rfl, rfl, h0, r0⟩ := trodAll_cons hA
  obtain ⟨v1, vs1, d1, ds1, p1, q1, rfl, rfl, rfl, h1, r1⟩ := trodAll_cons r0
  obtain ⟨v2, vs2, d2, ds2, p2, q2, rfl, rfl, rfl, h2, r2⟩ := trodAll_cons r1
  obtain ⟨v3, vs3, d3, ds3, p3, q3, rfl, rfl, rfl, h3, r3⟩ := trodAll_cons r2
  obtain ⟨rfl, rfl, rfl⟩ := trodAll_nil r3
  obtain rfl : args = #[v0, v1, v2, v3] := by cases args; simp_all
  obtain ⟨_, _, _, _, _, _, _, _, _, _, _, _, rfl, _⟩ := trodVars_two hV
  obtain ⟨a0, rfl, rfl, rfl, w0⟩ := open_string Tryd.underlying9 (hval 0 9 v0 rfl rfl) h0
  obtain ⟨a1, rfl, rfl, rfl, w1⟩ := open_string Tryd.underlying9 (hval 1 9 v1 rfl rfl) h1
  obtain ⟨a2, rfl, rfl, rfl, w2⟩ := open_int Tryd.underlying3 (hval 2 3 v2 rfl rfl) h2
  obtain ⟨a3, rfl, rfl, rfl, w3⟩ := open_int Tryd.underlying3 (hval 3 3 v3 rfl rfl) h3
  clear hA0
  refine (law_DoneMark a0 a1 a2 a3 W w0 w1 w2 w3 (tabK hL) (tabS (laidMet.tail hL))).mono fun e W' ⟨he, hg⟩ => ?_
  subst he
  exact ⟨_, rfl, law_postV (P := Tryd.prog) Tryd.underlying4 rfl (List.forall_mem_cons.2 ⟨⟨0, 53, gS, gSType, rdvS.1, rdvS.2⟩, List.forall_mem_cons.2 ⟨⟨1, 56, gK, gKType, rdvK.1, rdvK.2⟩, List.forall_mem_nil _⟩⟩) laid_out (by rw [Tryd.params17]; exact List.forall_mem_cons.2 ⟨rd_s, List.forall_mem_cons.2 ⟨rd_s, List.forall_mem_cons.2 ⟨rd_i, List.forall_mem_cons.2 ⟨rd_i, List.forall_mem_nil _⟩⟩⟩⟩) hW' rfl rfl rfl hg⟩

noncomputable def laidWorld (os : Os) : World := { World.holding Tryd.prog os ⟨#[], #[], []⟩ with heap := (((World.holding Tryd.prog os ⟨#[], #[], []⟩).heap.modify 0 fun | .cells _ t fr => .cells ((stl start0).map vw).toArray t fr | o => o).modify 1 fun | .cells _ t fr => .cells ((roundK).map vw).toArray t fr | o => o) }
set_option maxRecDepth 100000 in
theorem laid_met (os : Os) : laidMet Tryd.prog Rows.fnExactDoneMarkRow.laid ((laidWorld os).forCall (fun _ _ => 0) ⟨#[], #[.string ByteArray.empty, .string ByteArray.empty, .int .i64 0, .int .i64 0], []⟩).memory :=
  laidMet_of_run' 8 (by kernel_rfl) (by kernel_rfl)
theorem reads (os : Os) {H : Type} (enc : TypeId × Value → H) : DataW.whole enc Tryd.prog ((laidWorld os).forCall (fun _ _ => 0) ⟨#[], #[.string ByteArray.empty, .string ByteArray.empty, .int .i64 0, .int .i64 0], []⟩).memory Tryd.f17.params.toList Rows.fnExactDoneMarkSpec.vars false (#[.string ByteArray.empty, .string ByteArray.empty, .int .i64 0, .int .i64 0] : Array Value).toList 8 = some ([.lit (.string []), .lit (.string []), .lit (.int .i64 0), .lit (.int .i64 0)], [Rows.laid_loop_example_g00967_impl_startWords, Rows.laid_loop_example_g00967_impl_roundWords], MemPlace.row ⟨0, 0, none⟩ 8 ++ [] ++ (MemPlace.row ⟨1, 0, none⟩ 64 ++ [] ++ ([]))) := by kernel_rfl

set_option maxRecDepth 100000 in
theorem lifted (os : Os) (started : os.Started) (H : Type) (enc : TypeId × Value → H) (F : Stop.Interp) :
    ReturnsInHanded {} Tryd.checked os 17 .any ((OpenSpec.ofChange Rows.fnExactDoneMarkSpec).preRow enc Tryd.prog Tryd.f17 Rows.fnExactDoneMarkRow.domain false Rows.fnExactDoneMarkRow.laid) (((OpenSpec.ofChange Rows.fnExactDoneMarkSpec).at F).post enc Tryd.prog Tryd.f17 false true false false) := by
  refine returnsInHanded_of_row (C := Tryd.checked) (s := OpenSpec.ofChange Rows.fnExactDoneMarkSpec) own started (by kernel_rfl) Tryd.func17
    (witness_row_at (enc := enc) (C := Tryd.checked) false (laidWorld os) #[.string ByteArray.empty, .string ByteArray.empty, .int .i64 0, .int .i64 0] rfl (by kernel_rfl) (by kernel_rfl) (by kernel_rfl)
      (OpenSpec.preRow_of_cond 8 (reads os enc) (by kernel_rfl) (fun k hk => by cases hk) (by kernel_rfl) (laid_met os))) ?_
  intro W base args ds gs before hval hW _ _ _ hL _ _
  exact contract H enc W base args ds gs before hval hW hL

set_option maxHeartbeats 4000000 in
theorem closed : joinedFacts Tryd.pinned.checked.prog 17 Tryd.f17 (OpenSpec.ofChange Rows.fnExactDoneMarkSpec).bare Rows.fnExactDoneMarkRow = true := by
  unfold joinedFacts
  rw [may_enter, lifts_eq, make_eq_]
  repeat' (with_reducible refine (Bool.and_eq_true_iff).2 ⟨?_, ?_⟩)
  all_goals as_aux_lemma => kernel_rfl
theorem named : Tryd.pinned.checked.prog.funcNamed Rows.fnExactDoneMarkRow.func = some 17 := by kernel_rfl
theorem inst : Func.isInstance Tryd.pinned.checked.prog Tryd.f17 Rows.fnExactDoneMarkRow.origin Rows.fnExactDoneMarkRow.targs := of_decide_eq_true (by kernel_rfl)
theorem said : Rows.FnExactDoneMarkSaid :=
  OpenClaim.holds_of_cond 17 Tryd.f17 rfl rfl rfl rfl rfl rfl rfl ⟨rfl, rfl, rfl, rfl, rfl⟩ rfl rfl rfl rfl rfl named Tryd.func17 closed
    inst (by unfold Func.isWrapper; first | (rw [if_pos (by decide +kernel)]; kernel_rfl) | (rw [if_neg (by decide +kernel)]; exact ⟨rfl, rfl⟩))
    (fun os started H enc _ F => by rw [OpenClaim.pre_eq_preRow]; exact lifted os started H enc F)

/-- no parameter wants a stand-in; the program's own looks are off -/
theorem plain (f : FuncId) (fn : Func) (hf : Tryd.pinned.checked.prog.funcNamed "loop.example/g00967/laws.FnExactDoneMark" = some f) (hfn : Tryd.pinned.checked.prog.funcs[f]? = some fn) :
    false = Tryd.pinned.checked.prog.looks [] ∧ ∀ (j : Nat) t, fn.params[j]? = some t → Tryd.pinned.checked.prog.wantsStandIn t = false := by
  obtain rfl : f = 17 := Option.some.inj ((show Tryd.prog.funcNamed "loop.example/g00967/laws.FnExactDoneMark" = some 17 by kernel_rfl).symm.trans hf) |>.symm
  obtain rfl : fn = Tryd.f17 := (Option.some.inj (Tryd.func17.symm.trans hfn)).symm
  refine ⟨by kernel_rfl, fun j t ht => ?_⟩
  rw [Tryd.params17] at ht
  have hall : ∀ t ∈ ([9, 9, 3, 3] : List TypeId), Tryd.prog.wantsStandIn t = false := List.forall_mem_cons.2 ⟨by kernel_rfl, List.forall_mem_cons.2 ⟨by kernel_rfl, List.forall_mem_cons.2 ⟨by kernel_rfl, List.forall_mem_cons.2 ⟨by kernel_rfl, List.forall_mem_nil _⟩⟩⟩⟩
  exact hall t (by have hm := Array.mem_of_getElem? ht; revert hm; simp)

theorem wf_text : Rows.fnExactDoneMarkRow.wfByText (OpenSpec.ofChange Rows.fnExactDoneMarkSpec) = true := by kernel_rfl
theorem main_is : Tryd.pinned.checked.prog.mainIs = some (Rows.fnExactDoneMarkCard.stood.harness.1, Rows.fnExactDoneMarkCard.stood.harness.2.toList) := by kernel_rfl
theorem goes : false = Rows.fnExactDoneMarkRow.goesBy Tryd.pinned.checked.prog := by kernel_rfl
theorem DoneMark_holds : Rows.FnExactDoneMarkCardSaid :=
  Claim7.holds_tied_plain_at .later [] _ _ _ _ said (fun _ h => by cases h) wf_text (fun _ h => by cases h) fnExactDoneMark_row_tie rfl ⟨rfl, rfl⟩ main_is rfl plain goes
#print axioms DoneMark_holds
end Go.Proofs.YtmhekefjlepfpaaDoor
