/- The walk of the reference's l06Put: a field laid into an option. -/
import Derived.Test.YtkgbkgonlopciaaA15
import Derived.Test.YtkgbkgonlopciaaA17
import Derived.Deep.Cut
import Derived.Outline
namespace Go.Proofs.Ytkgbkgonlopciaa
open Go.RowKit
set_option linter.unusedVariables false
set_option linter.unusedSimpArgs false
set_option maxRecDepth 100000 in
theorem put_s1 (o : OD) (A : Option Addr) (n c N : Nat) (t : ByteArray) (w : World) : Calls Try.prog 89 #[vo o (.slice A n c), .int .u8 105, .int .i64 (N : Int), .string t] w fun e w' => e = .returned (vo (o.put 1 (N : Int) (N != 0) t) (.slice A n c)) ∧ Below w.heap.size w w' := by
  obtain ⟨u, hu⟩ : ∃ u, u = o.put 1 (N : Int) (N != 0) t := ⟨_, rfl⟩
  rw [← hu]
  have HU := Lib.hid hu
  clear hu
  go_enter Try.func89, Try.ntmps89
  go_upto_region 1 with (fail)
  obtain ⟨W, hW⟩ : ∃ W, W = (w.alloc (.cells (voC o (.slice A n c)).toArray 27)).alloc (.cells (voC (OD.new 0 []) (.slice none 0 0)).toArray 27) := ⟨_, rfl⟩
  change Code.wp _ _ _ _ ((w.alloc (.cells (voC o (.slice A n c)).toArray 27)).alloc (.cells (voC (OD.new 0 []) (.slice none 0 0)).toArray 27))
  rw [← hW]
  have L0 := Lib.hid (((Below.refl w.heap.size w).alloc (Nat.le_refl _) (.cells (voC o (.slice A n c)).toArray 27)).alloc (by simp) (.cells (voC (OD.new 0 []) (.slice none 0 0)).toArray 27))
  have X1 := Lib.hid ((Blk.new w 27 (voC o (.slice A n c)).toArray).alloc (.cells (voC (OD.new 0 []) (.slice none 0 0)).toArray 27))
  have X2 := Lib.hid (Blk.new (w.alloc (.cells (voC o (.slice A n c)).toArray 27)) 27 (voC (OD.new 0 []) (.slice none 0 0)).toArray)
  rw [← hW] at L0 X1 X2
  rw [World.size_alloc] at X2
  clear hW
  have y0 : W.cell? ⟨w.heap.size, 1, none⟩ = _ := X1.out.cell 1
  have fz := X1.out.frozen 1
  go_upto_region 26 with (fail)
  obtain ⟨V, hV⟩ : ∃ V, V = W.setCell ⟨w.heap.size, 1, none⟩ (.int .i64 (N : Int)) := ⟨_, rfl⟩
  rw [← hV]
  have Y1 : Hid (Blk V w.heap.size 27 (voC u (.slice A n c))) := Lib.hid (by rw [hV, HU.out]; exact (X1.out.set_ 1 _).eq rfl)
  have Y2 : Hid (Blk V (w.heap.size + 1) 27 (voC (OD.new 0 []) (.slice none 0 0))) := Lib.hid (by rw [hV]; exact X2.out.far (by dsimp only; omega) _)
  have L1 : Hid (Below w.heap.size w V) := Lib.hid (by rw [hV]; exact L0.out.setCell (by dsimp only; omega) _)
  clear hV y0 fz X1 X2
  go_wp2_with (first | (refine wpl_opt (o := u) rfl (by rfl) (by rfl) (Bx.of_blk Y1.out) ?_) | (refine wpl_store_optM (o := u) rfl (by rfl) (by rfl) (by rfl) Y2.out rfl ?_))
  have B2 := Bx.setCells (vs := voC u (.slice A n c)) Y2.out rfl
  refine bodyPost_ret (results_opt rfl (by rfl) B2) rfl ⟨rfl, Below.setCells' L1.out (by omega) _ _⟩
set_option maxRecDepth 100000 in
theorem put_s2 (o : OD) (A : Option Addr) (n c N : Nat) (t : ByteArray) (w : World) : Calls Try.prog 89 #[vo o (.slice A n c), .int .u8 100, .int .i64 (N : Int), .string t] w fun e w' => e = .returned (vo (o.put 2 (N : Int) (N != 0) t) (.slice A n c)) ∧ Below w.heap.size w w' := by
  obtain ⟨u, hu⟩ : ∃ u, u = o.put 2 (N : Int) (N != 0) t := ⟨_, rfl⟩
  rw [← hu]
  have HU := Lib.hid hu
  clear hu
  go_enter Try.func89, Try.ntmps89
  go_upto_region 1 with (fail)
  obtain ⟨W, hW⟩ : ∃ W, W = (w.alloc (.cells (voC o (.slice A n c)).toArray 27)).alloc (.cells (voC (OD.new 0 []) (.slice none 0 0)).toArray 27) := ⟨_, rfl⟩
  change Code.wp _ _ _ _ ((w.alloc (.cells (voC o (.slice A n c)).toArray 27)).alloc (.cells (voC (OD.new 0 []) (.slice none 0 0)).toArray 27))
  rw [← hW]
  have L0 := Lib.hid (((Below.refl w.heap.size w).alloc (Nat.le_refl _) (.cells (voC o (.slice A n c)).toArray 27)).alloc (by simp) (.cells (voC (OD.new 0 []) (.slice none 0 0)).toArray 27))
  have X1 := Lib.hid ((Blk.new w 27 (voC o (.slice A n c)).toArray).alloc (.cells (voC (OD.new 0 []) (.slice none 0 0)).toArray 27))
  have X2 := Lib.hid (Blk.new (w.alloc (.cells (voC o (.slice A n c)).toArray 27)) 27 (voC (OD.new 0 []) (.slice none 0 0)).toArray)
  rw [← hW] at L0 X1 X2
  rw [World.size_alloc] at X2
  clear hW
  have y0 : W.cell? ⟨w.heap.size, 2, none⟩ = _ := X1.out.cell 2
  have fz := X1.out.frozen 2
  go_upto_region 26 with (fail)
  obtain ⟨V, hV⟩ : ∃ V, V = W.setCell ⟨w.heap.size, 2, none⟩ (.int .i64 (N : Int)) := ⟨_, rfl⟩
  rw [← hV]
  have Y1 : Hid (Blk V w.heap.size 27 (voC u (.slice A n c))) := Lib.hid (by rw [hV, HU.out]; exact (X1.out.set_ 2 _).eq rfl)
  have Y2 : Hid (Blk V (w.heap.size + 1) 27 (voC (OD.new 0 []) (.slice none 0 0))) := Lib.hid (by rw [hV]; exact X2.out.far (by dsimp only; omega) _)
  have L1 : Hid (Below w.heap.size w V) := Lib.hid (by rw [hV]; exact L0.out.setCell (by dsimp only; omega) _)
  clear hV y0 fz X1 X2
  go_wp2_with (first | (refine wpl_opt (o := u) rfl (by rfl) (by rfl) (Bx.of_blk Y1.out) ?_) | (refine wpl_store_optM (o := u) rfl (by rfl) (by rfl) (by rfl) Y2.out rfl ?_))
  have B2 := Bx.setCells (vs := voC u (.slice A n c)) Y2.out rfl
  refine bodyPost_ret (results_opt rfl (by rfl) B2) rfl ⟨rfl, Below.setCells' L1.out (by omega) _ _⟩
set_option maxRecDepth 100000 in
theorem put_s3 (o : OD) (A : Option Addr) (n c N : Nat) (t : ByteArray) (w : World) : Calls Try.prog 89 #[vo o (.slice A n c), .int .u8 112, .int .i64 (N : Int), .string t] w fun e w' => e = .returned (vo (o.put 3 (N : Int) (N != 0) t) (.slice A n c)) ∧ Below w.heap.size w w' := by
  obtain ⟨u, hu⟩ : ∃ u, u = o.put 3 (N : Int) (N != 0) t := ⟨_, rfl⟩
  rw [← hu]
  have HU := Lib.hid hu
  clear hu
  go_enter Try.func89, Try.ntmps89
  go_upto_region 1 with (fail)
  obtain ⟨W, hW⟩ : ∃ W, W = (w.alloc (.cells (voC o (.slice A n c)).toArray 27)).alloc (.cells (voC (OD.new 0 []) (.slice none 0 0)).toArray 27) := ⟨_, rfl⟩
  change Code.wp _ _ _ _ ((w.alloc (.cells (voC o (.slice A n c)).toArray 27)).alloc (.cells (voC (OD.new 0 []) (.slice none 0 0)).toArray 27))
  rw [← hW]
  have L0 := Lib.hid (((Below.refl w.heap.size w).alloc (Nat.le_refl _) (.cells (voC o (.slice A n c)).toArray 27)).alloc (by simp) (.cells (voC (OD.new 0 []) (.slice none 0 0)).toArray 27))
  have X1 := Lib.hid ((Blk.new w 27 (voC o (.slice A n c)).toArray).alloc (.cells (voC (OD.new 0 []) (.slice none 0 0)).toArray 27))
  have X2 := Lib.hid (Blk.new (w.alloc (.cells (voC o (.slice A n c)).toArray 27)) 27 (voC (OD.new 0 []) (.slice none 0 0)).toArray)
  rw [← hW] at L0 X1 X2
  rw [World.size_alloc] at X2
  clear hW
  have y0 : W.cell? ⟨w.heap.size, 3, none⟩ = _ := X1.out.cell 3
  have fz := X1.out.frozen 3
  go_upto_region 26 with (fail)
  obtain ⟨V, hV⟩ : ∃ V, V = W.setCell ⟨w.heap.size, 3, none⟩ (.int .i64 (N : Int)) := ⟨_, rfl⟩
  rw [← hV]
  have Y1 : Hid (Blk V w.heap.size 27 (voC u (.slice A n c))) := Lib.hid (by rw [hV, HU.out]; exact (X1.out.set_ 3 _).eq rfl)
  have Y2 : Hid (Blk V (w.heap.size + 1) 27 (voC (OD.new 0 []) (.slice none 0 0))) := Lib.hid (by rw [hV]; exact X2.out.far (by dsimp only; omega) _)
  have L1 : Hid (Below w.heap.size w V) := Lib.hid (by rw [hV]; exact L0.out.setCell (by dsimp only; omega) _)
  clear hV y0 fz X1 X2
  go_wp2_with (first | (refine wpl_opt (o := u) rfl (by rfl) (by rfl) (Bx.of_blk Y1.out) ?_) | (refine wpl_store_optM (o := u) rfl (by rfl) (by rfl) (by rfl) Y2.out rfl ?_))
  have B2 := Bx.setCells (vs := voC u (.slice A n c)) Y2.out rfl
  refine bodyPost_ret (results_opt rfl (by rfl) B2) rfl ⟨rfl, Below.setCells' L1.out (by omega) _ _⟩
set_option maxRecDepth 100000 in
theorem put_s4 (o : OD) (A : Option Addr) (n c N : Nat) (t : ByteArray) (w : World) : Calls Try.prog 89 #[vo o (.slice A n c), .int .u8 116, .int .i64 (N : Int), .string t] w fun e w' => e = .returned (vo (o.put 4 (N : Int) (N != 0) t) (.slice A n c)) ∧ Below w.heap.size w w' := by
  obtain ⟨u, hu⟩ : ∃ u, u = o.put 4 (N : Int) (N != 0) t := ⟨_, rfl⟩
  rw [← hu]
  have HU := Lib.hid hu
  clear hu
  go_enter Try.func89, Try.ntmps89
  go_upto_region 1 with (fail)
  obtain ⟨W, hW⟩ : ∃ W, W = (w.alloc (.cells (voC o (.slice A n c)).toArray 27)).alloc (.cells (voC (OD.new 0 []) (.slice none 0 0)).toArray 27) := ⟨_, rfl⟩
  change Code.wp _ _ _ _ ((w.alloc (.cells (voC o (.slice A n c)).toArray 27)).alloc (.cells (voC (OD.new 0 []) (.slice none 0 0)).toArray 27))
  rw [← hW]
  have L0 := Lib.hid (((Below.refl w.heap.size w).alloc (Nat.le_refl _) (.cells (voC o (.slice A n c)).toArray 27)).alloc (by simp) (.cells (voC (OD.new 0 []) (.slice none 0 0)).toArray 27))
  have X1 := Lib.hid ((Blk.new w 27 (voC o (.slice A n c)).toArray).alloc (.cells (voC (OD.new 0 []) (.slice none 0 0)).toArray 27))
  have X2 := Lib.hid (Blk.new (w.alloc (.cells (voC o (.slice A n c)).toArray 27)) 27 (voC (OD.new 0 []) (.slice none 0 0)).toArray)
  rw [← hW] at L0 X1 X2
  rw [World.size_alloc] at X2
  clear hW
  have y0 : W.cell? ⟨w.heap.size, 4, none⟩ = _ := X1.out.cell 4
  have fz := X1.out.frozen 4
  go_upto_region 26 with (fail)
  obtain ⟨V, hV⟩ : ∃ V, V = W.setCell ⟨w.heap.size, 4, none⟩ (.int .i64 (N : Int)) := ⟨_, rfl⟩
  rw [← hV]
  have Y1 : Hid (Blk V w.heap.size 27 (voC u (.slice A n c))) := Lib.hid (by rw [hV, HU.out]; exact (X1.out.set_ 4 _).eq rfl)
  have Y2 : Hid (Blk V (w.heap.size + 1) 27 (voC (OD.new 0 []) (.slice none 0 0))) := Lib.hid (by rw [hV]; exact X2.out.far (by dsimp only; omega) _)
  have L1 : Hid (Below w.heap.size w V) := Lib.hid (by rw [hV]; exact L0.out.setCell (by dsimp only; omega) _)
  clear hV y0 fz X1 X2
  go_wp2_with (first | (refine wpl_opt (o := u) rfl (by rfl) (by rfl) (Bx.of_blk Y1.out) ?_) | (refine wpl_store_optM (o := u) rfl (by rfl) (by rfl) (by rfl) Y2.out rfl ?_))
  have B2 := Bx.setCells (vs := voC u (.slice A n c)) Y2.out rfl
  refine bodyPost_ret (results_opt rfl (by rfl) B2) rfl ⟨rfl, Below.setCells' L1.out (by omega) _ _⟩
set_option maxRecDepth 100000 in
theorem put_s5 (o : OD) (A : Option Addr) (n c N : Nat) (t : ByteArray) (w : World) : Calls Try.prog 89 #[vo o (.slice A n c), .int .u8 110, .int .i64 (N : Int), .string t] w fun e w' => e = .returned (vo (o.put 5 (N : Int) (N != 0) t) (.slice A n c)) ∧ Below w.heap.size w w' := by
  obtain ⟨u, hu⟩ : ∃ u, u = o.put 5 (N : Int) (N != 0) t := ⟨_, rfl⟩
  rw [← hu]
  have HU := Lib.hid hu
  clear hu
  go_enter Try.func89, Try.ntmps89
  go_upto_region 1 with (fail)
  obtain ⟨W, hW⟩ : ∃ W, W = (w.alloc (.cells (voC o (.slice A n c)).toArray 27)).alloc (.cells (voC (OD.new 0 []) (.slice none 0 0)).toArray 27) := ⟨_, rfl⟩
  change Code.wp _ _ _ _ ((w.alloc (.cells (voC o (.slice A n c)).toArray 27)).alloc (.cells (voC (OD.new 0 []) (.slice none 0 0)).toArray 27))
  rw [← hW]
  have L0 := Lib.hid (((Below.refl w.heap.size w).alloc (Nat.le_refl _) (.cells (voC o (.slice A n c)).toArray 27)).alloc (by simp) (.cells (voC (OD.new 0 []) (.slice none 0 0)).toArray 27))
  have X1 := Lib.hid ((Blk.new w 27 (voC o (.slice A n c)).toArray).alloc (.cells (voC (OD.new 0 []) (.slice none 0 0)).toArray 27))
  have X2 := Lib.hid (Blk.new (w.alloc (.cells (voC o (.slice A n c)).toArray 27)) 27 (voC (OD.new 0 []) (.slice none 0 0)).toArray)
  rw [← hW] at L0 X1 X2
  rw [World.size_alloc] at X2
  clear hW
  have y0 : W.cell? ⟨w.heap.size, 5, none⟩ = _ := X1.out.cell 5
  have fz := X1.out.frozen 5
  go_upto_region 26 with (fail)
  obtain ⟨V, hV⟩ : ∃ V, V = W.setCell ⟨w.heap.size, 5, none⟩ (.int .i64 (N : Int)) := ⟨_, rfl⟩
  rw [← hV]
  have Y1 : Hid (Blk V w.heap.size 27 (voC u (.slice A n c))) := Lib.hid (by rw [hV, HU.out]; exact (X1.out.set_ 5 _).eq rfl)
  have Y2 : Hid (Blk V (w.heap.size + 1) 27 (voC (OD.new 0 []) (.slice none 0 0))) := Lib.hid (by rw [hV]; exact X2.out.far (by dsimp only; omega) _)
  have L1 : Hid (Below w.heap.size w V) := Lib.hid (by rw [hV]; exact L0.out.setCell (by dsimp only; omega) _)
  clear hV y0 fz X1 X2
  go_wp2_with (first | (refine wpl_opt (o := u) rfl (by rfl) (by rfl) (Bx.of_blk Y1.out) ?_) | (refine wpl_store_optM (o := u) rfl (by rfl) (by rfl) (by rfl) Y2.out rfl ?_))
  have B2 := Bx.setCells (vs := voC u (.slice A n c)) Y2.out rfl
  refine bodyPost_ret (results_opt rfl (by rfl) B2) rfl ⟨rfl, Below.setCells' L1.out (by omega) _ _⟩
set_option maxRecDepth 100000 in
theorem put_s6 (o : OD) (A : Option Addr) (n c N : Nat) (t : ByteArray) (w : World) : Calls Try.prog 89 #[vo o (.slice A n c), .int .u8 115, .int .i64 (N : Int), .string t] w fun e w' => e = .returned (vo (o.put 6 (N : Int) (N != 0) t) (.slice A n c)) ∧ Below w.heap.size w w' := by
  obtain ⟨u, hu⟩ : ∃ u, u = o.put 6 (N : Int) (N != 0) t := ⟨_, rfl⟩
  rw [← hu]
  have HU := Lib.hid hu
  clear hu
  go_enter Try.func89, Try.ntmps89
  go_upto_region 1 with (fail)
  obtain ⟨W, hW⟩ : ∃ W, W = (w.alloc (.cells (voC o (.slice A n c)).toArray 27)).alloc (.cells (voC (OD.new 0 []) (.slice none 0 0)).toArray 27) := ⟨_, rfl⟩
  change Code.wp _ _ _ _ ((w.alloc (.cells (voC o (.slice A n c)).toArray 27)).alloc (.cells (voC (OD.new 0 []) (.slice none 0 0)).toArray 27))
  rw [← hW]
  have L0 := Lib.hid (((Below.refl w.heap.size w).alloc (Nat.le_refl _) (.cells (voC o (.slice A n c)).toArray 27)).alloc (by simp) (.cells (voC (OD.new 0 []) (.slice none 0 0)).toArray 27))
  have X1 := Lib.hid ((Blk.new w 27 (voC o (.slice A n c)).toArray).alloc (.cells (voC (OD.new 0 []) (.slice none 0 0)).toArray 27))
  have X2 := Lib.hid (Blk.new (w.alloc (.cells (voC o (.slice A n c)).toArray 27)) 27 (voC (OD.new 0 []) (.slice none 0 0)).toArray)
  rw [← hW] at L0 X1 X2
  rw [World.size_alloc] at X2
  clear hW
  have y0 : W.cell? ⟨w.heap.size, 6, none⟩ = _ := X1.out.cell 6
  have fz := X1.out.frozen 6
  go_upto_region 26 with (fail)
  obtain ⟨V, hV⟩ : ∃ V, V = W.setCell ⟨w.heap.size, 6, none⟩ (.int .i64 (N : Int)) := ⟨_, rfl⟩
  rw [← hV]
  have Y1 : Hid (Blk V w.heap.size 27 (voC u (.slice A n c))) := Lib.hid (by rw [hV, HU.out]; exact (X1.out.set_ 6 _).eq rfl)
  have Y2 : Hid (Blk V (w.heap.size + 1) 27 (voC (OD.new 0 []) (.slice none 0 0))) := Lib.hid (by rw [hV]; exact X2.out.far (by dsimp only; omega) _)
  have L1 : Hid (Below w.heap.size w V) := Lib.hid (by rw [hV]; exact L0.out.setCell (by dsimp only; omega) _)
  clear hV y0 fz X1 X2
  go_wp2_with (first | (refine wpl_opt (o := u) rfl (by rfl) (by rfl) (Bx.of_blk Y1.out) ?_) | (refine wpl_store_optM (o := u) rfl (by rfl) (by rfl) (by rfl) Y2.out rfl ?_))
  have B2 := Bx.setCells (vs := voC u (.slice A n c)) Y2.out rfl
  refine bodyPost_ret (results_opt rfl (by rfl) B2) rfl ⟨rfl, Below.setCells' L1.out (by omega) _ _⟩
set_option maxRecDepth 100000 in
theorem put_s7 (o : OD) (A : Option Addr) (n c N : Nat) (t : ByteArray) (w : World) : Calls Try.prog 89 #[vo o (.slice A n c), .int .u8 117, .int .i64 (N : Int), .string t] w fun e w' => e = .returned (vo (o.put 7 (N : Int) (N != 0) t) (.slice A n c)) ∧ Below w.heap.size w w' := by
  obtain ⟨u, hu⟩ : ∃ u, u = o.put 7 (N : Int) (N != 0) t := ⟨_, rfl⟩
  rw [← hu]
  have HU := Lib.hid hu
  clear hu
  go_enter Try.func89, Try.ntmps89
  go_upto_region 1 with (fail)
  obtain ⟨W, hW⟩ : ∃ W, W = (w.alloc (.cells (voC o (.slice A n c)).toArray 27)).alloc (.cells (voC (OD.new 0 []) (.slice none 0 0)).toArray 27) := ⟨_, rfl⟩
  change Code.wp _ _ _ _ ((w.alloc (.cells (voC o (.slice A n c)).toArray 27)).alloc (.cells (voC (OD.new 0 []) (.slice none 0 0)).toArray 27))
  rw [← hW]
  have L0 := Lib.hid (((Below.refl w.heap.size w).alloc (Nat.le_refl _) (.cells (voC o (.slice A n c)).toArray 27)).alloc (by simp) (.cells (voC (OD.new 0 []) (.slice none 0 0)).toArray 27))
  have X1 := Lib.hid ((Blk.new w 27 (voC o (.slice A n c)).toArray).alloc (.cells (voC (OD.new 0 []) (.slice none 0 0)).toArray 27))
  have X2 := Lib.hid (Blk.new (w.alloc (.cells (voC o (.slice A n c)).toArray 27)) 27 (voC (OD.new 0 []) (.slice none 0 0)).toArray)
  rw [← hW] at L0 X1 X2
  rw [World.size_alloc] at X2
  clear hW
  have y0 : W.cell? ⟨w.heap.size, 7, none⟩ = _ := X1.out.cell 7
  have fz := X1.out.frozen 7
  go_upto_region 26 with (fail)
  obtain ⟨V, hV⟩ : ∃ V, V = W.setCell ⟨w.heap.size, 7, none⟩ (.int .i64 (N : Int)) := ⟨_, rfl⟩
  rw [← hV]
  have Y1 : Hid (Blk V w.heap.size 27 (voC u (.slice A n c))) := Lib.hid (by rw [hV, HU.out]; exact (X1.out.set_ 7 _).eq rfl)
  have Y2 : Hid (Blk V (w.heap.size + 1) 27 (voC (OD.new 0 []) (.slice none 0 0))) := Lib.hid (by rw [hV]; exact X2.out.far (by dsimp only; omega) _)
  have L1 : Hid (Below w.heap.size w V) := Lib.hid (by rw [hV]; exact L0.out.setCell (by dsimp only; omega) _)
  clear hV y0 fz X1 X2
  go_wp2_with (first | (refine wpl_opt (o := u) rfl (by rfl) (by rfl) (Bx.of_blk Y1.out) ?_) | (refine wpl_store_optM (o := u) rfl (by rfl) (by rfl) (by rfl) Y2.out rfl ?_))
  have B2 := Bx.setCells (vs := voC u (.slice A n c)) Y2.out rfl
  refine bodyPost_ret (results_opt rfl (by rfl) B2) rfl ⟨rfl, Below.setCells' L1.out (by omega) _ _⟩
set_option maxRecDepth 100000 in
theorem put_s8 (o : OD) (A : Option Addr) (n c N : Nat) (t : ByteArray) (w : World) : Calls Try.prog 89 #[vo o (.slice A n c), .int .u8 108, .int .i64 (N : Int), .string t] w fun e w' => e = .returned (vo (o.put 8 (N : Int) (N != 0) t) (.slice A n c)) ∧ Below w.heap.size w w' := by
  obtain ⟨u, hu⟩ : ∃ u, u = o.put 8 (N : Int) (N != 0) t := ⟨_, rfl⟩
  rw [← hu]
  have HU := Lib.hid hu
  clear hu
  go_enter Try.func89, Try.ntmps89
  go_upto_region 1 with (fail)
  obtain ⟨W, hW⟩ : ∃ W, W = (w.alloc (.cells (voC o (.slice A n c)).toArray 27)).alloc (.cells (voC (OD.new 0 []) (.slice none 0 0)).toArray 27) := ⟨_, rfl⟩
  change Code.wp _ _ _ _ ((w.alloc (.cells (voC o (.slice A n c)).toArray 27)).alloc (.cells (voC (OD.new 0 []) (.slice none 0 0)).toArray 27))
  rw [← hW]
  have L0 := Lib.hid (((Below.refl w.heap.size w).alloc (Nat.le_refl _) (.cells (voC o (.slice A n c)).toArray 27)).alloc (by simp) (.cells (voC (OD.new 0 []) (.slice none 0 0)).toArray 27))
  have X1 := Lib.hid ((Blk.new w 27 (voC o (.slice A n c)).toArray).alloc (.cells (voC (OD.new 0 []) (.slice none 0 0)).toArray 27))
  have X2 := Lib.hid (Blk.new (w.alloc (.cells (voC o (.slice A n c)).toArray 27)) 27 (voC (OD.new 0 []) (.slice none 0 0)).toArray)
  rw [← hW] at L0 X1 X2
  rw [World.size_alloc] at X2
  clear hW
  have y0 : W.cell? ⟨w.heap.size, 8, none⟩ = _ := X1.out.cell 8
  have fz := X1.out.frozen 8
  go_upto_region 26 with (fail)
  obtain ⟨V, hV⟩ : ∃ V, V = W.setCell ⟨w.heap.size, 8, none⟩ (.int .i64 (N : Int)) := ⟨_, rfl⟩
  rw [← hV]
  have Y1 : Hid (Blk V w.heap.size 27 (voC u (.slice A n c))) := Lib.hid (by rw [hV, HU.out]; exact (X1.out.set_ 8 _).eq rfl)
  have Y2 : Hid (Blk V (w.heap.size + 1) 27 (voC (OD.new 0 []) (.slice none 0 0))) := Lib.hid (by rw [hV]; exact X2.out.far (by dsimp only; omega) _)
  have L1 : Hid (Below w.heap.size w V) := Lib.hid (by rw [hV]; exact L0.out.setCell (by dsimp only; omega) _)
  clear hV y0 fz X1 X2
  go_wp2_with (first | (refine wpl_opt (o := u) rfl (by rfl) (by rfl) (Bx.of_blk Y1.out) ?_) | (refine wpl_store_optM (o := u) rfl (by rfl) (by rfl) (by rfl) Y2.out rfl ?_))
  have B2 := Bx.setCells (vs := voC u (.slice A n c)) Y2.out rfl
  refine bodyPost_ret (results_opt rfl (by rfl) B2) rfl ⟨rfl, Below.setCells' L1.out (by omega) _ _⟩
set_option maxRecDepth 100000 in
theorem put_s9 (o : OD) (A : Option Addr) (n c N : Nat) (t : ByteArray) (w : World) : Calls Try.prog 89 #[vo o (.slice A n c), .int .u8 97, .int .i64 (N : Int), .string t] w fun e w' => e = .returned (vo (o.put 9 (N : Int) (N != 0) t) (.slice A n c)) ∧ Below w.heap.size w w' := by
  obtain ⟨u, hu⟩ : ∃ u, u = o.put 9 (N : Int) (N != 0) t := ⟨_, rfl⟩
  rw [← hu]
  have HU := Lib.hid hu
  clear hu
  go_enter Try.func89, Try.ntmps89
  go_upto_region 1 with (fail)
  obtain ⟨W, hW⟩ : ∃ W, W = (w.alloc (.cells (voC o (.slice A n c)).toArray 27)).alloc (.cells (voC (OD.new 0 []) (.slice none 0 0)).toArray 27) := ⟨_, rfl⟩
  change Code.wp _ _ _ _ ((w.alloc (.cells (voC o (.slice A n c)).toArray 27)).alloc (.cells (voC (OD.new 0 []) (.slice none 0 0)).toArray 27))
  rw [← hW]
  have L0 := Lib.hid (((Below.refl w.heap.size w).alloc (Nat.le_refl _) (.cells (voC o (.slice A n c)).toArray 27)).alloc (by simp) (.cells (voC (OD.new 0 []) (.slice none 0 0)).toArray 27))
  have X1 := Lib.hid ((Blk.new w 27 (voC o (.slice A n c)).toArray).alloc (.cells (voC (OD.new 0 []) (.slice none 0 0)).toArray 27))
  have X2 := Lib.hid (Blk.new (w.alloc (.cells (voC o (.slice A n c)).toArray 27)) 27 (voC (OD.new 0 []) (.slice none 0 0)).toArray)
  rw [← hW] at L0 X1 X2
  rw [World.size_alloc] at X2
  clear hW
  have y0 : W.cell? ⟨w.heap.size, 9, none⟩ = _ := X1.out.cell 9
  have fz := X1.out.frozen 9
  go_upto_region 26 with (fail)
  obtain ⟨V, hV⟩ : ∃ V, V = W.setCell ⟨w.heap.size, 9, none⟩ (.int .i64 (N : Int)) := ⟨_, rfl⟩
  rw [← hV]
  have Y1 : Hid (Blk V w.heap.size 27 (voC u (.slice A n c))) := Lib.hid (by rw [hV, HU.out]; exact (X1.out.set_ 9 _).eq rfl)
  have Y2 : Hid (Blk V (w.heap.size + 1) 27 (voC (OD.new 0 []) (.slice none 0 0))) := Lib.hid (by rw [hV]; exact X2.out.far (by dsimp only; omega) _)
  have L1 : Hid (Below w.heap.size w V) := Lib.hid (by rw [hV]; exact L0.out.setCell (by dsimp only; omega) _)
  clear hV y0 fz X1 X2
  go_wp2_with (first | (refine wpl_opt (o := u) rfl (by rfl) (by rfl) (Bx.of_blk Y1.out) ?_) | (refine wpl_store_optM (o := u) rfl (by rfl) (by rfl) (by rfl) Y2.out rfl ?_))
  have B2 := Bx.setCells (vs := voC u (.slice A n c)) Y2.out rfl
  refine bodyPost_ret (results_opt rfl (by rfl) B2) rfl ⟨rfl, Below.setCells' L1.out (by omega) _ _⟩
set_option maxRecDepth 100000 in
theorem put_s10 (o : OD) (A : Option Addr) (n c N : Nat) (t : ByteArray) (w : World) : Calls Try.prog 89 #[vo o (.slice A n c), .int .u8 102, .int .i64 (N : Int), .string t] w fun e w' => e = .returned (vo (o.put 10 (N : Int) (N != 0) t) (.slice A n c)) ∧ Below w.heap.size w w' := by
  obtain ⟨u, hu⟩ : ∃ u, u = o.put 10 (N : Int) (N != 0) t := ⟨_, rfl⟩
  rw [← hu]
  have HU := Lib.hid hu
  clear hu
  have q1 : ((N : Int) != 0) = (N != 0) := by cases N <;> rfl
  obtain ⟨fb, hfb⟩ : ∃ fb, fb = (N != 0) := ⟨_, rfl⟩
  rw [← hfb] at q1
  have HFB := Lib.hid hfb
  clear hfb
  go_enter Try.func89, Try.ntmps89
  go_upto_region 1 with (fail)
  obtain ⟨W, hW⟩ : ∃ W, W = (w.alloc (.cells (voC o (.slice A n c)).toArray 27)).alloc (.cells (voC (OD.new 0 []) (.slice none 0 0)).toArray 27) := ⟨_, rfl⟩
  change Code.wp _ _ _ _ ((w.alloc (.cells (voC o (.slice A n c)).toArray 27)).alloc (.cells (voC (OD.new 0 []) (.slice none 0 0)).toArray 27))
  rw [← hW]
  have L0 := Lib.hid (((Below.refl w.heap.size w).alloc (Nat.le_refl _) (.cells (voC o (.slice A n c)).toArray 27)).alloc (by simp) (.cells (voC (OD.new 0 []) (.slice none 0 0)).toArray 27))
  have X1 := Lib.hid ((Blk.new w 27 (voC o (.slice A n c)).toArray).alloc (.cells (voC (OD.new 0 []) (.slice none 0 0)).toArray 27))
  have X2 := Lib.hid (Blk.new (w.alloc (.cells (voC o (.slice A n c)).toArray 27)) 27 (voC (OD.new 0 []) (.slice none 0 0)).toArray)
  rw [← hW] at L0 X1 X2
  rw [World.size_alloc] at X2
  clear hW
  have y0 : W.cell? ⟨w.heap.size, 10, none⟩ = _ := X1.out.cell 10
  have fz := X1.out.frozen 10
  go_upto_region 26 with (fail)
  obtain ⟨V, hV⟩ : ∃ V, V = W.setCell ⟨w.heap.size, 10, none⟩ (.bool fb) := ⟨_, rfl⟩
  rw [← hV]
  have Y1 : Hid (Blk V w.heap.size 27 (voC u (.slice A n c))) := Lib.hid (by rw [hV, HU.out, HFB.out]; exact (X1.out.set_ 10 _).eq rfl)
  have Y2 : Hid (Blk V (w.heap.size + 1) 27 (voC (OD.new 0 []) (.slice none 0 0))) := Lib.hid (by rw [hV]; exact X2.out.far (by dsimp only; omega) _)
  have L1 : Hid (Below w.heap.size w V) := Lib.hid (by rw [hV]; exact L0.out.setCell (by dsimp only; omega) _)
  clear hV y0 fz X1 X2
  go_wp2_with (first | (refine wpl_opt (o := u) rfl (by rfl) (by rfl) (Bx.of_blk Y1.out) ?_) | (refine wpl_store_optM (o := u) rfl (by rfl) (by rfl) (by rfl) Y2.out rfl ?_))
  have B2 := Bx.setCells (vs := voC u (.slice A n c)) Y2.out rfl
  refine bodyPost_ret (results_opt rfl (by rfl) B2) rfl ⟨rfl, Below.setCells' L1.out (by omega) _ _⟩
set_option maxRecDepth 100000 in
theorem put_s11 (o : OD) (A : Option Addr) (n c N : Nat) (t : ByteArray) (w : World) : Calls Try.prog 89 #[vo o (.slice A n c), .int .u8 107, .int .i64 (N : Int), .string t] w fun e w' => e = .returned (vo (o.put 11 (N : Int) (N != 0) t) (.slice A n c)) ∧ Below w.heap.size w w' := by
  obtain ⟨u, hu⟩ : ∃ u, u = o.put 11 (N : Int) (N != 0) t := ⟨_, rfl⟩
  rw [← hu]
  have HU := Lib.hid hu
  clear hu
  go_enter Try.func89, Try.ntmps89
  go_upto_region 1 with (fail)
  obtain ⟨W, hW⟩ : ∃ W, W = (w.alloc (.cells (voC o (.slice A n c)).toArray 27)).alloc (.cells (voC (OD.new 0 []) (.slice none 0 0)).toArray 27) := ⟨_, rfl⟩
  change Code.wp _ _ _ _ ((w.alloc (.cells (voC o (.slice A n c)).toArray 27)).alloc (.cells (voC (OD.new 0 []) (.slice none 0 0)).toArray 27))
  rw [← hW]
  have L0 := Lib.hid (((Below.refl w.heap.size w).alloc (Nat.le_refl _) (.cells (voC o (.slice A n c)).toArray 27)).alloc (by simp) (.cells (voC (OD.new 0 []) (.slice none 0 0)).toArray 27))
  have X1 := Lib.hid ((Blk.new w 27 (voC o (.slice A n c)).toArray).alloc (.cells (voC (OD.new 0 []) (.slice none 0 0)).toArray 27))
  have X2 := Lib.hid (Blk.new (w.alloc (.cells (voC o (.slice A n c)).toArray 27)) 27 (voC (OD.new 0 []) (.slice none 0 0)).toArray)
  rw [← hW] at L0 X1 X2
  rw [World.size_alloc] at X2
  clear hW
  have y0 : W.cell? ⟨w.heap.size, 11, none⟩ = _ := X1.out.cell 11
  have fz := X1.out.frozen 11
  go_upto_region 26 with (fail)
  obtain ⟨V, hV⟩ : ∃ V, V = W.setCell ⟨w.heap.size, 11, none⟩ (.string t) := ⟨_, rfl⟩
  rw [← hV]
  have Y1 : Hid (Blk V w.heap.size 27 (voC u (.slice A n c))) := Lib.hid (by rw [hV, HU.out]; exact (X1.out.set_ 11 _).eq rfl)
  have Y2 : Hid (Blk V (w.heap.size + 1) 27 (voC (OD.new 0 []) (.slice none 0 0))) := Lib.hid (by rw [hV]; exact X2.out.far (by dsimp only; omega) _)
  have L1 : Hid (Below w.heap.size w V) := Lib.hid (by rw [hV]; exact L0.out.setCell (by dsimp only; omega) _)
  clear hV y0 fz X1 X2
  go_wp2_with (first | (refine wpl_opt (o := u) rfl (by rfl) (by rfl) (Bx.of_blk Y1.out) ?_) | (refine wpl_store_optM (o := u) rfl (by rfl) (by rfl) (by rfl) Y2.out rfl ?_))
  have B2 := Bx.setCells (vs := voC u (.slice A n c)) Y2.out rfl
  refine bodyPost_ret (results_opt rfl (by rfl) B2) rfl ⟨rfl, Below.setCells' L1.out (by omega) _ _⟩
set_option maxRecDepth 100000 in
theorem put_s12 (o : OD) (A : Option Addr) (n c N : Nat) (t : ByteArray) (w : World) : Calls Try.prog 89 #[vo o (.slice A n c), .int .u8 109, .int .i64 (N : Int), .string t] w fun e w' => e = .returned (vo (o.put 12 (N : Int) (N != 0) t) (.slice A n c)) ∧ Below w.heap.size w w' := by
  obtain ⟨u, hu⟩ : ∃ u, u = o.put 12 (N : Int) (N != 0) t := ⟨_, rfl⟩
  rw [← hu]
  have HU := Lib.hid hu
  clear hu
  go_enter Try.func89, Try.ntmps89
  go_upto_region 1 with (fail)
  obtain ⟨W, hW⟩ : ∃ W, W = (w.alloc (.cells (voC o (.slice A n c)).toArray 27)).alloc (.cells (voC (OD.new 0 []) (.slice none 0 0)).toArray 27) := ⟨_, rfl⟩
  change Code.wp _ _ _ _ ((w.alloc (.cells (voC o (.slice A n c)).toArray 27)).alloc (.cells (voC (OD.new 0 []) (.slice none 0 0)).toArray 27))
  rw [← hW]
  have L0 := Lib.hid (((Below.refl w.heap.size w).alloc (Nat.le_refl _) (.cells (voC o (.slice A n c)).toArray 27)).alloc (by simp) (.cells (voC (OD.new 0 []) (.slice none 0 0)).toArray 27))
  have X1 := Lib.hid ((Blk.new w 27 (voC o (.slice A n c)).toArray).alloc (.cells (voC (OD.new 0 []) (.slice none 0 0)).toArray 27))
  have X2 := Lib.hid (Blk.new (w.alloc (.cells (voC o (.slice A n c)).toArray 27)) 27 (voC (OD.new 0 []) (.slice none 0 0)).toArray)
  rw [← hW] at L0 X1 X2
  rw [World.size_alloc] at X2
  clear hW
  have y0 : W.cell? ⟨w.heap.size, 12, none⟩ = _ := X1.out.cell 12
  have fz := X1.out.frozen 12
  go_upto_region 26 with (fail)
  obtain ⟨V, hV⟩ : ∃ V, V = W.setCell ⟨w.heap.size, 12, none⟩ (.string t) := ⟨_, rfl⟩
  rw [← hV]
  have Y1 : Hid (Blk V w.heap.size 27 (voC u (.slice A n c))) := Lib.hid (by rw [hV, HU.out]; exact (X1.out.set_ 12 _).eq rfl)
  have Y2 : Hid (Blk V (w.heap.size + 1) 27 (voC (OD.new 0 []) (.slice none 0 0))) := Lib.hid (by rw [hV]; exact X2.out.far (by dsimp only; omega) _)
  have L1 : Hid (Below w.heap.size w V) := Lib.hid (by rw [hV]; exact L0.out.setCell (by dsimp only; omega) _)
  clear hV y0 fz X1 X2
  go_wp2_with (first | (refine wpl_opt (o := u) rfl (by rfl) (by rfl) (Bx.of_blk Y1.out) ?_) | (refine wpl_store_optM (o := u) rfl (by rfl) (by rfl) (by rfl) Y2.out rfl ?_))
  have B2 := Bx.setCells (vs := voC u (.slice A n c)) Y2.out rfl
  refine bodyPost_ret (results_opt rfl (by rfl) B2) rfl ⟨rfl, Below.setCells' L1.out (by omega) _ _⟩
theorem put_s (o : OD) (A : Option Addr) (n c N i : Nat) (t : ByteArray) (w : World) (h1 : 1 ≤ i) (h12 : i ≤ 12) : Calls Try.prog 89 #[vo o (.slice A n c), .int .u8 ((ltr i).toNat : Int), .int .i64 (N : Int), .string t] w fun e w' => e = .returned (vo (o.put i (N : Int) (N != 0) t) (.slice A n c)) ∧ Below w.heap.size w w' := by
  rcases (show i = 1 ∨ i = 2 ∨ i = 3 ∨ i = 4 ∨ i = 5 ∨ i = 6 ∨ i = 7 ∨ i = 8 ∨ i = 9 ∨ i = 10 ∨ i = 11 ∨ i = 12 by omega) with rfl | rfl | rfl | rfl | rfl | rfl | rfl | rfl | rfl | rfl | rfl | rfl
  · exact put_s1 o A n c N t w
  · exact put_s2 o A n c N t w
  · exact put_s3 o A n c N t w
  · exact put_s4 o A n c N t w
  · exact put_s5 o A n c N t w
  · exact put_s6 o A n c N t w
  · exact put_s7 o A n c N t w
  · exact put_s8 o A n c N t w
  · exact put_s9 o A n c N t w
  · exact put_s10 o A n c N t w
  · exact put_s11 o A n c N t w
  · exact put_s12 o A n c N t w
end Go.Proofs.Ytkgbkgonlopciaa
