/- The frame of the cards of this seat: what all of them share. -/
import Derived.Test.YtmhekefjlepfpaaDoorRows
import Derived.Test.YtmhekefjlepfpaaDoorF2
import Derived.Test.YtmhekefjlepfpaaDoorB1
import Derived.Test.YtmhekefjlepfpaaDoorB4
namespace Go.Proofs.YtmhekefjlepfpaaDoor
open Go.ChangeShapes Go.WideShapes Go.ChangeAt Go.RowKit
set_option linter.unusedVariables false
set_option linter.unusedSimpArgs false

theorem own : ownKnob Tryd.prog.godebug = none := by kernel_rfl
theorem laid_out : laidOutB Tryd.prog = true := by kernel_rfl
theorem may_enter : Tryd.pinned.checked.prog.mayEnter = true := by kernel_rfl
theorem lifts_eq : Tryd.pinned.checked.prog.liftsFinal = Rows.fnExactDigestRow.lifted := by kernel_rfl
theorem make_eq_ : Tryd.pinned.checked.prog.make = some Rows.fnExactDigestRow.make := by kernel_rfl
theorem cells_u32 : Tryd.prog.cellsOf 52 = 1 := by kernel_rfl
theorem cells_int : Tryd.prog.cellsOf 3 = 1 := by kernel_rfl
theorem cells_u8 : Tryd.prog.cellsOf 5 = 1 := by kernel_rfl
theorem getD_cast (l : List Nat) (k : Nat) : (l.map fun (x : Nat) => (x : Int)).getD k 0 = ((l.getD k 0 : Nat) : Int) := by
  simp only [List.getD_eq_getElem?_getD, List.getElem?_map]
  cases l[k]? <;> rfl
theorem rd_s : Tryd.prog.readableRec 9 = true ∧ 9 < Tryd.prog.types.size := ⟨by kernel_rfl, of_decide_eq_true (by kernel_rfl)⟩
theorem rd_i : Tryd.prog.readableRec 3 = true ∧ 3 < Tryd.prog.types.size := ⟨by kernel_rfl, of_decide_eq_true (by kernel_rfl)⟩
theorem rd_I : Tryd.prog.readableRec 22 = true ∧ 22 < Tryd.prog.types.size := ⟨by kernel_rfl, of_decide_eq_true (by kernel_rfl)⟩
theorem rd_B : Tryd.prog.readableRec 44 = true ∧ 44 < Tryd.prog.types.size := ⟨by kernel_rfl, of_decide_eq_true (by kernel_rfl)⟩
theorem gS : Tryd.prog.globalNamed "loop.example/g00967/impl.startWords" = some 0 := by kernel_rfl
theorem gSType : (Tryd.prog.globals[0]?).map (·.type) = some 53 := by kernel_rfl
theorem cells8 : Tryd.prog.cellsOf 53 = 8 := by kernel_rfl
theorem rdvS : Tryd.prog.readableRec 53 = true ∧ 53 < Tryd.prog.types.size := ⟨by kernel_rfl, of_decide_eq_true (by kernel_rfl)⟩
set_option maxRecDepth 100000 in
theorem tabS {W : World} {rest : List (String × DataW Unit)} (h : laidMet Tryd.prog (("loop.example/g00967/impl.startWords", Rows.laid_loop_example_g00967_impl_startWords) :: rest) W) : HoldsS W := by
  have ht : Lib.TabIs Tryd.prog W "loop.example/g00967/impl.startWords" .u32 ((stl start0).map fun (x : Nat) => (x : Int)) := Lib.tabIs_of_head (rest := rest) gS gSType Tryd.underlying53 Tryd.underlying52 cells_u32 cells8 h
  have hc : ∀ k, k < 8 → W.cell? ⟨0, k, none⟩ = some (vw ((stl start0).getD k 0)) := fun k hk => by
    have := ht.cell gS k (by rw [List.length_map]; exact hk)
    rw [getD_cast] at this
    exact this
  exact ⟨block_lt_of_cell (hc 0 (by omega)), hc⟩
theorem gK : Tryd.prog.globalNamed "loop.example/g00967/impl.roundWords" = some 1 := by kernel_rfl
theorem gKType : (Tryd.prog.globals[1]?).map (·.type) = some 56 := by kernel_rfl
theorem cells64 : Tryd.prog.cellsOf 56 = 64 := by kernel_rfl
theorem rdvK : Tryd.prog.readableRec 56 = true ∧ 56 < Tryd.prog.types.size := ⟨by kernel_rfl, of_decide_eq_true (by kernel_rfl)⟩
set_option maxRecDepth 100000 in
theorem tabK {W : World} {rest : List (String × DataW Unit)} (h : laidMet Tryd.prog (("loop.example/g00967/impl.roundWords", Rows.laid_loop_example_g00967_impl_roundWords) :: rest) W) : HoldsK W := by
  have ht : Lib.TabIs Tryd.prog W "loop.example/g00967/impl.roundWords" .u32 ((roundK).map fun (x : Nat) => (x : Int)) := Lib.tabIs_of_head (rest := rest) gK gKType Tryd.underlying56 Tryd.underlying52 cells_u32 cells64 h
  have hc : ∀ k, k < 64 → W.cell? ⟨1, k, none⟩ = some (vw ((roundK).getD k 0)) := fun k hk => by
    have := ht.cell gK k (by rw [List.length_map]; exact hk)
    rw [getD_cast] at this
    exact this
  exact ⟨block_lt_of_cell (hc 0 (by omega)), hc⟩
end Go.Proofs.YtmhekefjlepfpaaDoor
