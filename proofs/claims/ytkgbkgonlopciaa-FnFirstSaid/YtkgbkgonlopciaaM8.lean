/- The walks of the laws' helpers: the numbers of an option marked, looked at again. -/
import Derived.Test.YtkgbkgonlopciaaK6
import Derived.Deep.Cut
namespace Go.Proofs.Ytkgbkgonlopciaa
open Go.RowKit
set_option linter.unusedVariables false
set_option linter.unusedSimpArgs false
theorem Only.after {w w1 w2 : World} {v : Value} (hb : Below w.heap.size w w1) (h : Only w1 w2 v) : Only w w2 v :=
  ⟨h.os.trans hb.os, h.tape.trans hb.tape, h.output.trans hb.output, Nat.le_trans hb.size h.size, fun k hk hne => (h.block k (Nat.lt_of_lt_of_le hk hb.size) hne).trans (hb.block k hk)⟩
theorem Bx.only {w w' : World} {b : Nat} {cs : List Value} {v : Value} (h : Bx w b cs) (ho : Only w w' v) (hne : ∀ g, v.ownBlock = some g → b ≠ g) : Bx w' b cs :=
  ⟨Nat.lt_of_lt_of_le h.1 ho.size, fun j u hj => (World.cell?_of_block (w := w) (a := ⟨b, j, none⟩) (ho.block b h.1 (by intro e; exact hne b e.symm rfl))).trans (h.2 j u hj)⟩
set_option maxRecDepth 100000 in
theorem markOpt_l (o : OD) (A : Option Addr) (n cp k B : Nat) (xs : List Int) (w : World) (hB : B ≤ w.heap.size) (h : Obs w B 1 (.slice A n cp) n (xs.map vn)) (hn : n ≤ 4294967296) (hk : k ≤ 4294967296) :
    Calls Try.prog 33 #[vo o (.slice A n cp), .int .i64 k] w fun e w' => e = .returned (.int .i64 (k + n : Nat)) ∧ Obs w' B 1 (.slice A n cp) n ((marks k n).map vn) ∧ Only w w' (.slice A n cp) := by
  have H := Lib.hid h
  clear h
  go_enter Try.func33, Try.ntmps33
  go_upto_region 1 with (fail)
  obtain ⟨W, hW⟩ : ∃ W, W = w.alloc (.cells (voC o (.slice A n cp)).toArray 27) := ⟨_, rfl⟩
  change Code.wp _ _ _ _ (w.alloc (.cells (voC o (.slice A n cp)).toArray 27))
  rw [← hW]
  have L0 := Lib.hid ((Below.refl w.heap.size w).alloc (Nat.le_refl _) (.cells (voC o (.slice A n cp)).toArray 27))
  have X1 := Lib.hid (Bx.new w (voC o (.slice A n cp)).toArray 27)
  rw [← hW] at L0 X1
  clear hW
  have x13 : W.cell? ⟨w.heap.size, 13, none⟩ = some (.slice A n cp) := X1.out.2 13 _ rfl
  go_wp2_with fail
  refine (markIntS_l _ n xs k B _ (Nat.le_trans hB L0.out.size) (H.out.below L0.out) hn hk).mono ?_
  rintro e w2 ⟨rfl, ho, hg⟩
  have HO := Lib.hid ho
  have HG := Lib.hid (Only.after L0.out hg)
  clear ho hg x13
  go_wp2
  go_ret
  exact ⟨rfl, HO.out, HG.out⟩
set_option maxRecDepth 100000 in
theorem heldOpt_l (o : OD) (A : Option Addr) (n cp k : Nat) (w : World) (h : Rd w 1 (.slice A n cp) n ((marks k n).map vn)) (hn : n ≤ 4294967296) (hk : k ≤ 4294967296) :
    Calls Try.prog 34 #[vo o (.slice A n cp), .int .i64 k] w fun e w' => e = .returned (.int .i64 (k + n : Nat)) ∧ Below w.heap.size w w' := by
  have H := Lib.hid h
  clear h
  go_enter Try.func34, Try.ntmps34
  go_upto_region 1 with (fail)
  obtain ⟨W, hW⟩ : ∃ W, W = w.alloc (.cells (voC o (.slice A n cp)).toArray 27) := ⟨_, rfl⟩
  change Code.wp _ _ _ _ (w.alloc (.cells (voC o (.slice A n cp)).toArray 27))
  rw [← hW]
  have L0 := Lib.hid ((Below.refl w.heap.size w).alloc (Nat.le_refl _) (.cells (voC o (.slice A n cp)).toArray 27))
  have X1 := Lib.hid (Bx.new w (voC o (.slice A n cp)).toArray 27)
  rw [← hW] at L0 X1
  clear hW
  have x13 : W.cell? ⟨w.heap.size, 13, none⟩ = some (.slice A n cp) := X1.out.2 13 _ rfl
  go_wp2_with fail
  refine (heldIntS_l _ n k _ (H.out.below L0.out) hn hk).mono ?_
  rintro e w2 ⟨rfl, rfl⟩
  have hkn : ¬ (((k + n : Nat) : Int) < 0) := by omega
  clear x13
  go_wp2
  go_ret
  exact ⟨rfl, L0.out⟩
end Go.Proofs.Ytkgbkgonlopciaa
