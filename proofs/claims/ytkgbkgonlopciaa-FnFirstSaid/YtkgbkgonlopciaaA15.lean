/- The walk of used: an option with the fields of its kind alone. -/
import Derived.Test.YtkgbkgonlopciaaA14
import Derived.Deep.Cut
import Derived.Outline
import Derived.Deep.QuietTactic
import Derived.BigQuiet
import Derived.Deep.RegionHeld
namespace Go.Proofs.Ytkgbkgonlopciaa
open Go.RowKit
set_option linter.unusedVariables false
set_option linter.unusedSimpArgs false
theorem Bx.of_blk {w : World} {g : Nat} {t : TypeId} {cs : List Value} (h : Blk w g t cs) : Bx w g cs := ⟨h.lt, fun j v hj => by rw [h.cell]; exact hj⟩
theorem Blk.there {w : World} {g : Nat} {t : TypeId} {cs : List Value} (h : Blk w g t cs) (n : Nat) (hn : n = cs.length) : w.there g 0 n := fun j hj => by
  rw [Nat.zero_add, h.cell, h.frozen]
  subst hn
  simp [hj]
theorem voC_one (o : OD) (A : Option Addr) (n c : Nat) : (voC o (.slice A n c)).toArray.all (·.oneCell') = true := by simp [voC, Value.oneCell']
theorem Obs.farS {w : World} {B size n : Nat} {v : Value} {xs : List Value} (h : Obs w B size v n xs) {b : Nat} (hb : b < B) (o : Nat) (vs : List Value) : Obs (w.setCells b o vs) B size v n xs :=
  h.same (by rw [setCells_size]; exact Nat.le_refl _) (fun g hg => setCells_heap b vs o w g (by have := (h.lt g hg).1; omega))
theorem Below.setCells' {B : Nat} {w w' : World} (h : Below B w w') {b : Nat} (hb : B ≤ b) (o : Nat) (vs : List Value) : Below B w (w'.setCells b o vs) :=
  h.trans ⟨(setCells_rest b vs o w').1, (setCells_rest b vs o w').2.1, (setCells_rest b vs o w').2.2, by rw [setCells_size]; exact Nat.le_refl _, fun k hk => setCells_heap b vs o w' k (by omega)⟩
theorem Bx.setCells {w : World} {b : Nat} {t : TypeId} {cs vs : List Value} (h : Blk w b t cs) (hl : vs.length = cs.length) : Bx (w.setCells b 0 vs) b vs := by
  have T := World.rangeAt_setCells_same w b 0 vs (h.there _ hl)
  exact ⟨by rw [setCells_size]; exact h.lt, fun j v hj => by have := T j v hj; rwa [Nat.zero_add] at this⟩
theorem used8 {o : OD} (h : o.k = 8) : used o = OD.new o.k o.ids := by
  unfold used
  rw [h]
  rfl
/-- an option of nothing but its kind, in a new variable -/
theorem results_opt {fn : Func} {t b : Nat} {o : OD} {iv : Value} {w : World} {tmps : Array Value} (h : fn.results = #[.cell t 27]) (ht : tmps[t]? = some (.pointer (some ⟨b, 0, none⟩))) (hB : Bx w b (voC o iv)) :
    (results fn tmps).run Try.prog w = .ok (vo o iv) w := by
  have hl := run_loadVar_mid (P := Try.prog) w b 0 27 (voC o iv) _ (fun j v hj => by rw [Nat.zero_add]; exact hB.2 j v hj) Try.underlying27 rfl (by kernel_rfl)
  simp [results, h, ht, hl, vo_voC, asAddr]
theorem wpl_store_optM {ops : Array Oper} {rest : List Oper} {op : Oper} {a : Act} {w : World} {Q : Exit → Act → World → Prop} {x y : Operand} {o : OD} {A : Option Addr} {n c b : Nat} {cs : List Value} (hgd : op.guard = none) (ho : op.op = .store 27 x y)
    (hx : a.eval x = .pointer (some ⟨b, 0, none⟩)) (hy : a.eval y = vo o (.slice A n c)) (hb : Blk w b 27 cs) (hl : cs.length = 14) (hK : wpList Try.prog ops Q rest (a.put op.dst undef) (w.setCells b 0 (voC o (.slice A n c)))) :
    wpList Try.prog ops Q (op :: rest) a w :=
  wpList_store_mid hgd 27 x y ho b 0 (voC o (.slice A n c)).toArray hx hy (hb.there _ (by rw [hl]; rfl)) (by kernel_rfl) (voC_one o A n c) hK
set_option maxRecDepth 100000 in
set_option maxHeartbeats 3200000 in
theorem used_i (o : OD) (A : Option Addr) (n cp : Nat) (w : World) (h : Rd w 1 (.slice A n cp) n (o.ids.map vn)) (hn : n ≤ 4294967296) :
    Calls Try.prog 77 #[vo o (.slice A n cp)] w (GivesOpt (used o) w) := by
  have H := Lib.hid h
  clear h
  go_enter Try.func77, Try.ntmps77
  go_upto_region 1 with (fail)
  obtain ⟨W, hW⟩ : ∃ W, W = (w.alloc (.cells (voC o (.slice A n cp)).toArray 27)).alloc (.cells (voC (OD.new 0 []) (.slice none 0 0)).toArray 27) := ⟨_, rfl⟩
  change Code.wp _ _ _ _ ((w.alloc (.cells (voC o (.slice A n cp)).toArray 27)).alloc (.cells (voC (OD.new 0 []) (.slice none 0 0)).toArray 27))
  rw [← hW]
  have L0 := Lib.hid (((Below.refl w.heap.size w).alloc (Nat.le_refl _) (.cells (voC o (.slice A n cp)).toArray 27)).alloc (by simp) (.cells (voC (OD.new 0 []) (.slice none 0 0)).toArray 27))
  have X1 := Lib.hid ((Blk.new w 27 (voC o (.slice A n cp)).toArray).alloc (.cells (voC (OD.new 0 []) (.slice none 0 0)).toArray 27))
  have X2 := Lib.hid (Blk.new (w.alloc (.cells (voC o (.slice A n cp)).toArray 27)) 27 (voC (OD.new 0 []) (.slice none 0 0)).toArray)
  have hws : W.heap.size = w.heap.size + 2 := by rw [hW]; simp
  rw [← hW] at L0 X1 X2
  rw [World.size_alloc] at X2
  clear hW
  have x0 : W.cell? ⟨w.heap.size, 0, none⟩ = some (.int .i64 o.k) := X1.out.cell 0
  go_upto_region 2 with (fail)
  obtain ⟨W1, hW1⟩ : ∃ W1, W1 = W.alloc (.cells (voC (OD.new o.k []) (.slice none 0 0)).toArray 27) := ⟨_, rfl⟩
  change Code.wp _ _ _ _ (W.alloc (.cells (voC (OD.new o.k []) (.slice none 0 0)).toArray 27))
  rw [← hW1]
  have X3 := Lib.hid (Blk.new W 27 (voC (OD.new o.k []) (.slice none 0 0)).toArray)
  rw [← hW1, hws] at X3
  have L1 : Hid (Below w.heap.size w W1) := Lib.hid (by rw [hW1]; exact L0.out.alloc L0.out.size _)
  have hws1 : W1.heap.size = w.heap.size + 3 := by rw [hW1]; simp; omega
  have Y1 : Hid (Blk W1 w.heap.size 27 (voC o (.slice A n cp))) := Lib.hid (by rw [hW1]; exact X1.out.alloc _)
  have Y2 : Hid (Blk W1 (w.heap.size + 1) 27 (voC (OD.new 0 []) (.slice none 0 0))) := Lib.hid (by rw [hW1]; exact X2.out.alloc _)
  have HWS := Lib.hid hws1
  clear hW1 hws x0 X1 X2 L0 hws1
  have x0 : W1.cell? ⟨w.heap.size, 0, none⟩ = some (.int .i64 o.k) := Y1.out.cell 0
  by_cases h8 : o.k = 8
  · have q1 : (o.k == 8) = true := by simp [h8]
    have x13 : W1.cell? ⟨w.heap.size, 13, none⟩ = some (.slice A n cp) := Y1.out.cell 13
    have H8 := Lib.hid h8
    clear h8
    go_wp2_with fail
    refine (copyInts_i _ n _ _ (H.out.below L1.out) hn).mono ?_
    rintro e w2 ⟨v2, rfl, ho2, hb2⟩
    obtain ⟨A2, c2, rfl⟩ := ho2.shape
    have O2 := Lib.hid ho2
    have L2 := Lib.hid (L1.out.trans (hb2.mono L1.out.size))
    have Z1 := Lib.hid (Y1.out.below hb2 (by have := HWS.out; omega))
    have Z2 := Lib.hid (Y2.out.below hb2 (by have := HWS.out; omega))
    have Z3 := Lib.hid (X3.out.below hb2 (by have := HWS.out; omega))
    clear ho2 hb2 Y1 Y2 X3 x13 x0
    have y13 : w2.cell? ⟨w.heap.size + 2, 13, none⟩ = some (.slice none 0 0) := Z3.out.cell 13
    have f13 := Z3.out.frozen 13
    go_upto_region 4 with (fail)
    obtain ⟨W3, hW3⟩ : ∃ W3, W3 = w2.setCell ⟨w.heap.size + 2, 13, none⟩ (.slice A2 n c2) := ⟨_, rfl⟩
    rw [← hW3]
    have U1 : Hid (Blk W3 w.heap.size 27 (voC o (.slice A n cp))) := Lib.hid (by rw [hW3]; exact Z1.out.far (by dsimp only; omega) _)
    have U2 : Hid (Blk W3 (w.heap.size + 1) 27 (voC (OD.new 0 []) (.slice none 0 0))) := Lib.hid (by rw [hW3]; exact Z2.out.far (by dsimp only; omega) _)
    have U3 : Hid (Blk W3 (w.heap.size + 2) 27 (voC (OD.new o.k o.ids) (.slice A2 n c2))) := Lib.hid (by rw [hW3]; exact Z3.out.set_ 13 _)
    have O3 : Hid (Obs W3 W1.heap.size 1 (.slice A2 n c2) n (o.ids.map vn)) := Lib.hid (by rw [hW3]; exact O2.out.far (by have := HWS.out; dsimp only; omega) _)
    have L3 : Hid (Below w.heap.size w W3) := Lib.hid (by rw [hW3]; exact L2.out.setCell (by dsimp only; omega) _)
    clear hW3 y13 f13 Z1 Z2 Z3 O2 L2 L1
    have x0 : W3.cell? ⟨w.heap.size, 0, none⟩ = some (.int .i64 o.k) := U1.out.cell 0
    have HUS := Lib.hid L3.out.size
    go_wp2_with fail
    refine (layoutOf_i o.k _).mono ?_
    rintro e w4 ⟨v4, rfl, ho4, hb4⟩
    have e4 : (lay o.k).length = 0 := by rw [H8.out]; rfl
    rw [e4] at ho4
    obtain ⟨A4, c4, rfl⟩ := ho4.shape
    have b3lt : w.heap.size + 2 < W3.heap.size := U3.out.lt
    have V2 := Lib.hid (U2.out.below hb4 U2.out.lt)
    have V3 := Lib.hid (U3.out.below hb4 U3.out.lt)
    have O4 := Lib.hid (O3.out.below hb4)
    have L4 := Lib.hid (L3.out.trans (hb4.mono L3.out.size))
    clear ho4 hb4 U1 U2 U3 O3 L3 x0 e4
    go_wp2
    go_loop [20] (fun i => i = .int .i64 0) (fun i => 0)
    case atStart => rfl
    case round =>
      obtain rfl := hrel
      go_wp2_with (first | (refine wpl_opt (o := OD.new o.k o.ids) rfl (by rfl) (by rfl) (Bx.of_blk V3.out) ?_) | (refine wpl_store_optM (o := OD.new o.k o.ids) rfl (by rfl) (by rfl) (by rfl) V2.out rfl ?_))
      have B2 := Bx.setCells (vs := voC (OD.new o.k o.ids) (.slice A2 n c2)) V2.out rfl
      refine bodyPost_ret (results_opt rfl (by rfl) B2) rfl ?_
      have hn2 := rd_ids H.out
      refine ⟨.slice A2 n c2, by rw [used8 H8.out], ?_, Below.setCells' L4.out (by omega) _ _⟩
      rw [used8 H8.out, show (OD.new o.k o.ids).ids = o.ids from rfl, ← hn2]
      exact (O4.out.farS (by have := HWS.out; omega) _ _).mono (by have := HWS.out; omega)
  · have q1 : (o.k == 8) = false := by simp [h8]
    have H8 := Lib.hid h8
    clear h8
    go_wp2_with fail
    refine (layoutOf_i o.k _).mono ?_
    rintro e w4 ⟨v4, rfl, ho4, hb4⟩
    have O4 := Lib.hid ho4
    have V1 := Lib.hid (Y1.out.below hb4 Y1.out.lt)
    have V2 := Lib.hid (Y2.out.below hb4 Y2.out.lt)
    have V3 := Lib.hid (X3.out.below hb4 X3.out.lt)
    have L4 := Lib.hid (L1.out.trans (hb4.mono L1.out.size))
    obtain ⟨A4, c4, rfl⟩ := ho4.shape
    obtain ⟨m, hm⟩ : ∃ m, m = (lay o.k).length := ⟨_, rfl⟩
    have hm4 : m ≤ 4 := by
      rw [hm]; unfold lay
      repeat' split
      all_goals simp
    rw [← hm] at O4 ⊢
    have HMM := Lib.hid hm
    clear ho4 hb4 Y1 Y2 X3 x0 hm
    go_wp2
    go_loopw [20] (fun i wr => ∃ j : Nat, j ≤ m ∧ i = .int .i64 (j : Int) ∧ Hid (Blk wr w.heap.size 27 (voC o (.slice A n cp))) ∧ Hid (Blk wr (w.heap.size + 1) 27 (voC (OD.new 0 []) (.slice none 0 0))) ∧
      Hid (Blk wr (w.heap.size + 2) 27 (voC (usedJ o j) (.slice none 0 0))) ∧ Hid (Below w.heap.size w wr) ∧ Hid (Obs wr W1.heap.size 2 (.slice A4 m c4) m (fsC (lay o.k)))) (fun i _ => m - (intOf i).toNat)
    case atStart => exact ⟨0, Nat.zero_le _, rfl, V1, V2, V3, L4, O4⟩
    case round =>
      clear V1 V2 V3 L4 O4
      obtain ⟨j, hj, rfl, V1, V2, V3, LW, O4⟩ := hrel
      by_cases hlt : j < m
      case neg =>
        obtain rfl : j = m := by omega
        go_wp2_with (first | (refine wpl_opt (o := usedJ o j) rfl (by rfl) (by rfl) (Bx.of_blk V3.out) ?_) | (refine wpl_store_optM (o := usedJ o j) rfl (by rfl) (by rfl) (by rfl) V2.out rfl ?_))
        have B2 := Bx.setCells (vs := voC (usedJ o j) (.slice none 0 0)) V2.out rfl
        refine bodyPost_ret (results_opt rfl (by rfl) B2) rfl ?_
        have e : usedJ o j = used o := by rw [HMM.out]; exact usedJ_full H8.out
        refine ⟨.slice none 0 0, by rw [e], ?_, Below.setCells' LW.out (by omega) _ _⟩
        rw [used_ids H8.out]
        exact Obs.nil _ _ _
      have hfl : j < (lay o.k).length := by have := HMM.out; omega
      obtain ⟨i1, i12, w1, w20⟩ := lay_at hfl
      obtain ⟨f0, f1⟩ := fsC_at hfl
      have HST := Lib.hid (usedJ_step hfl)
      obtain ⟨⟨i, m2⟩, hf⟩ : ∃ f, f = (lay o.k)[j]'hfl := ⟨_, rfl⟩
      rw [← hf] at i1 i12 w1 w20 f0 f1 HST
      dsimp only at i1 i12 w1 w20 f0 f1 HST
      clear hf hfl
      obtain ⟨g4, cc4, he⟩ := O4.out.full (by omega)
      simp only [Value.slice.injEq] at he
      obtain ⟨rfl, _, rfl⟩ := he
      have p0 := (O4.out.cellAt f0).1
      have p1 := (O4.out.cellAt f1).1
      clear f0 f1
      go_upto_region 8 with (fail)
      obtain ⟨W2, hW2⟩ : ∃ W2, W2 = wr.alloc (.cells #[.string (nm i), .int .i64 (m2 : Int)] 88) := ⟨_, rfl⟩
      rw [← hW2]
      have Z1 : Hid (Blk W2 w.heap.size 27 (voC o (.slice A n cp))) := Lib.hid (by rw [hW2]; exact V1.out.alloc _)
      have Z2 : Hid (Blk W2 (w.heap.size + 1) 27 (voC (OD.new 0 []) (.slice none 0 0))) := Lib.hid (by rw [hW2]; exact V2.out.alloc _)
      have Z3 : Hid (Blk W2 (w.heap.size + 2) 27 (voC (usedJ o j) (.slice none 0 0))) := Lib.hid (by rw [hW2]; exact V3.out.alloc _)
      have LZ : Hid (Below w.heap.size w W2) := Lib.hid (by rw [hW2]; exact LW.out.alloc LW.out.size _)
      have OZ : Hid (Obs W2 W1.heap.size 2 (.slice (some ⟨g4, 0, none⟩) m c4) m (fsC (lay o.k))) := Lib.hid (by rw [hW2]; exact O4.out.alloc _)
      have n0 : W2.cell? ⟨wr.heap.size, 0, none⟩ = some (.string (nm i)) := by rw [hW2]; exact (Blk.new wr 88 #[.string (nm i), .int .i64 (m2 : Int)]).cell 0
      have HG := Lib.hid (V3.out.lt)
      clear hW2 p0 p1 V1 V2 V3 LW O4
      have K : ∀ (W' : World) (u : Value), (W' = W2 ∨ W' = W2.drew) → (voC (usedJ o j) (.slice none 0 0)).set i u = voC (usedJ o (j + 1)) (.slice none 0 0) →
          Hid (Blk (W'.setCell ⟨w.heap.size + 2, i, none⟩ u) w.heap.size 27 (voC o (.slice A n cp))) ∧ Hid (Blk (W'.setCell ⟨w.heap.size + 2, i, none⟩ u) (w.heap.size + 1) 27 (voC (OD.new 0 []) (.slice none 0 0))) ∧
          Hid (Blk (W'.setCell ⟨w.heap.size + 2, i, none⟩ u) (w.heap.size + 2) 27 (voC (usedJ o (j + 1)) (.slice none 0 0))) ∧ Hid (Below w.heap.size w (W'.setCell ⟨w.heap.size + 2, i, none⟩ u)) ∧
          Hid (Obs (W'.setCell ⟨w.heap.size + 2, i, none⟩ u) W1.heap.size 2 (.slice (some ⟨g4, 0, none⟩) m c4) m (fsC (lay o.k))) := fun W' u hW hu => by
        rcases hW with rfl | rfl
        · exact ⟨Z1.out.far (by dsimp only; omega) _, Z2.out.far (by dsimp only; omega) _, (Z3.out.set_ i u).eq hu, LZ.out.setCell (by dsimp only; omega) _, OZ.out.far (by have := HWS.out; dsimp only; omega) _⟩
        · exact ⟨Z1.out.drew.far (by dsimp only; omega) _, Z2.out.drew.far (by dsimp only; omega) _, (Z3.out.drew.set_ i u).eq hu, LZ.out.drew.setCell (by dsimp only; omega) _, OZ.out.drew.far (by have := HWS.out; dsimp only; omega) _⟩
      have HK := Lib.hid K
      clear K
      obtain ⟨u, hu⟩ : ∃ u, (voC (usedJ o j) (.slice none 0 0))[i]? = some u := ⟨_, List.getElem?_eq_getElem (show i < 14 by omega)⟩
      have y0 : W2.cell? ⟨w.heap.size + 2, i, none⟩ = some u := (Z3.out.cell i).trans hu
      have fz := Z3.out.frozen i
      clear hu
      by_cases c10 : i = 10
      · subst c10
        have q1 : ((nm 10).toList == [102, 108, 97, 103]) = true := by rw [ByteArray.toList_eq]; decide
        have x10 : W2.cell? ⟨w.heap.size, 10, none⟩ = some (.bool o.fl) := Z1.out.cell 10
        have HR := Lib.hid (HK.out W2 (.bool o.fl) (.inl rfl) (by rw [HST.out]; rfl))
        clear HK HST
        go_wp2
        go_roundw
        case rel => exact ⟨j + 1, by omega, by go_num, HR.out.1, HR.out.2.1, HR.out.2.2.1, HR.out.2.2.2.1, HR.out.2.2.2.2⟩
        case measure => (simp [intOf]; try omega)
      have q1 := nm_flag i1 i12 c10
      by_cases c11 : i = 11 ∨ i = 12
      · have xv : W2.cell? ⟨w.heap.size, i, none⟩ = some (.string (o.txt i)) := (Z1.out.cell i).trans (voC_txt o _ i c11)
        have HT : Hid (txP w.heap.size i = some ⟨w.heap.size, i, none⟩) := Lib.hid (by rcases c11 with rfl | rfl <;> rfl)
        have HT2 : Hid (txP (w.heap.size + 2) i = some ⟨w.heap.size + 2, i, none⟩) := Lib.hid (by rcases c11 with rfl | rfl <;> rfl)
        have HR := Lib.hid (HK.out W2.drew (.string (o.txt i)) (.inr rfl) (by rw [HST.out]; exact voC_setT _ _ _ c11 _ _ _))
        clear HK HST c11 c10
        go_wp2_with fail
        refine (text_i w.heap.size i _ i1 i12).mono ?_
        rw [HT.out]
        rintro e w5 ⟨rfl, rfl⟩
        go_upto_region 11 with (fail)
        refine wp_region_held_drew (S := fun w' => w'.cell? ⟨wr.heap.size, 0, none⟩ = some (.string (nm i)) ∧ w'.cell? ⟨w.heap.size, i, none⟩ = some (.string (o.txt i))) (by kernel_rfl) ⟨n0, xv⟩ (fun hHeld => ?_)
        refine wpAnyH_take (i := 0) (v := ?_) rfl (by kernel_rfl) (by kernel_rfl) (by kernel_rfl) (fun _ _ _ h => h) (Or.inl ⟨by rfl, ?_⟩) (by assumption) ?_
        rotate_left
        · (intro w hSw; (try dsimp only at hSw); go_simp; try (with_reducible rfl))
        try simp only [Act.put, List.setIfInBounds_toArray, List.set_cons_zero, List.set_cons_succ]
        refine wpAnyH_take (i := 1) (v := ?_) rfl (by kernel_rfl) (by kernel_rfl) (by kernel_rfl) (fun _ _ _ h => h) (Or.inl ⟨by rfl, ?_⟩) (by assumption) ?_
        rotate_left
        · (intro w hSw; (try dsimp only at hSw); go_simp; try (with_reducible rfl))
        try simp only [Act.put, List.setIfInBounds_toArray, List.set_cons_zero, List.set_cons_succ]
        refine wpAnyH_take (i := 3) (v := ?_) rfl (by kernel_rfl) (by kernel_rfl) (by kernel_rfl) (fun _ _ _ h => h) (Or.inl ⟨by rfl, ?_⟩) (by assumption) ?_
        rotate_left
        · (intro w hSw; (try dsimp only at hSw); go_simp; try (with_reducible rfl))
        try simp only [Act.put, List.setIfInBounds_toArray, List.set_cons_zero, List.set_cons_succ]
        refine wpAnyH_take (i := 4) (v := ?_) rfl (by kernel_rfl) (by kernel_rfl) (by kernel_rfl) (fun _ _ _ h => h) (Or.inl ⟨by rfl, ?_⟩) (by assumption) ?_
        rotate_left
        · (intro w hSw; (try dsimp only at hSw); go_simp; try (with_reducible rfl))
        try simp only [Act.put, List.setIfInBounds_toArray, List.set_cons_zero, List.set_cons_succ]
        refine wpAnyH_ready (rs := [2]) (by kernel_rfl) (by simp) ?_
        refine AllReadyH.cons rfl (fun K hK => ?_) AllReadyH.nil
        go_simp
        (go_at_call 80; refine (text_i (w.heap.size + 2) i _ i1 i12).mono ?_; rw [HT2.out]; rintro e w5 ⟨rfl, rfl⟩)
        try go_wp2_with fail
        refine hK.out _ _ ?_ (fun hHeld => ?_)
        · assumption
        clear hK K
        try simp only [Act.put, List.setIfInBounds_toArray, List.set_cons_zero, List.set_cons_succ]
        refine wpAnyH_ready (rs := [5]) (by kernel_rfl) (by simp) ?_
        refine AllReadyH.cons rfl (fun K hK => ?_) AllReadyH.nil
        go_simp
        (go_at_call 80; refine (text_i w.heap.size i _ i1 i12).mono ?_; rw [HT.out]; rintro e w5 ⟨rfl, rfl⟩)
        try go_wp2_with fail
        refine hK.out _ _ ?_ (fun hHeld => ?_)
        · assumption
        clear hK K
        try simp only [Act.put, List.setIfInBounds_toArray, List.set_cons_zero, List.set_cons_succ]
        refine wpAnyH_take (i := 6) (v := ?_) rfl (by kernel_rfl) (by kernel_rfl) (by kernel_rfl) (fun _ _ _ h => h) (Or.inl ⟨by rfl, ?_⟩) (by assumption) ?_
        rotate_left
        · (intro w hSw; (try dsimp only at hSw); go_simp; try (with_reducible rfl))
        try simp only [Act.put, List.setIfInBounds_toArray, List.set_cons_zero, List.set_cons_succ]
        refine wpAnyH_take (i := 7) (v := ?_) rfl (by kernel_rfl) (by kernel_rfl) (by kernel_rfl) (fun _ _ _ h => h) (Or.inl ⟨by rfl, ?_⟩) (by assumption) ?_
        rotate_left
        · (intro w hSw; (try dsimp only at hSw); go_simp; try (with_reducible rfl))
        try simp only [Act.put, List.setIfInBounds_toArray, List.set_cons_zero, List.set_cons_succ]
        refine wpAnyH_take (i := 8) (v := ?_) rfl (by kernel_rfl) (by kernel_rfl) (by kernel_rfl) (fun _ _ _ h => h) (Or.inl ⟨by rfl, ?_⟩) (by assumption) ?_
        rotate_left
        · (intro w hSw; (try dsimp only at hSw); go_simp; try (with_reducible rfl))
        try simp only [Act.put, List.setIfInBounds_toArray, List.set_cons_zero, List.set_cons_succ]
        refine wpAnyH_ready (rs := [9]) (by kernel_rfl) (by simp) ?_
        refine AllReadyH.cons rfl (fun K hK => ?_) AllReadyH.nil
        go_simp
        try go_wp2_with fail
        refine hK.out _ _ ?_ (fun hHeld => ?_)
        · exact ⟨(World.cell?_setCell_other _ _ _ _ (fun e => by have := HG.out; have := (Addr.mk.inj e).1; omega)).trans n0, (World.cell?_setCell_other _ _ _ _ (fun e => by have := (Addr.mk.inj e).1; omega)).trans xv⟩
        clear hK K
        try simp only [Act.put, List.setIfInBounds_toArray, List.set_cons_zero, List.set_cons_succ]
        refine wpAnyH_done (by kernel_rfl) ?_ _
        clear n0 xv y0 fz
        repeat clear hHeld
        go_wp2
        go_roundw
        case rel => exact ⟨j + 1, by omega, by go_num, HR.out.1, HR.out.2.1, HR.out.2.2.1, HR.out.2.2.2.1, HR.out.2.2.2.2⟩
        case measure => (simp [intOf]; try omega)
      · have i9 : i ≤ 9 := by omega
        have xv : W2.cell? ⟨w.heap.size, i, none⟩ = some (.int .i64 (o.num i)) := (Z1.out.cell i).trans (voC_num o _ i i1 i9)
        have HT : Hid (txP w.heap.size i = none) := Lib.hid (by unfold txP; rw [if_neg (by omega), if_neg (by omega)])
        have HR := Lib.hid (HK.out W2.drew (.int .i64 (o.num i)) (.inr rfl) (by rw [HST.out]; exact voC_setN _ _ _ i1 i9 _ _ _))
        clear HK HST c11 c10
        go_wp2_with fail
        refine (text_i w.heap.size i _ i1 i12).mono ?_
        rw [HT.out]
        rintro e w5 ⟨rfl, rfl⟩
        go_upto_region 7 with (fail)
        refine wp_region_held_drew (S := fun w' => w'.cell? ⟨wr.heap.size, 0, none⟩ = some (.string (nm i)) ∧ w'.cell? ⟨w.heap.size, i, none⟩ = some (.int .i64 (o.num i))) (by kernel_rfl) ⟨n0, xv⟩ (fun hHeld => ?_)
        refine wpAnyH_take (i := 0) (v := ?_) rfl (by kernel_rfl) (by kernel_rfl) (by kernel_rfl) (fun _ _ _ h => h) (Or.inl ⟨by rfl, ?_⟩) (by assumption) ?_
        rotate_left
        · (intro w hSw; (try dsimp only at hSw); go_simp; try (with_reducible rfl))
        try simp only [Act.put, List.setIfInBounds_toArray, List.set_cons_zero, List.set_cons_succ]
        refine wpAnyH_take (i := 1) (v := ?_) rfl (by kernel_rfl) (by kernel_rfl) (by kernel_rfl) (fun _ _ _ h => h) (Or.inl ⟨by rfl, ?_⟩) (by assumption) ?_
        rotate_left
        · (intro w hSw; (try dsimp only at hSw); go_simp; try (with_reducible rfl))
        try simp only [Act.put, List.setIfInBounds_toArray, List.set_cons_zero, List.set_cons_succ]
        refine wpAnyH_take (i := 3) (v := ?_) rfl (by kernel_rfl) (by kernel_rfl) (by kernel_rfl) (fun _ _ _ h => h) (Or.inl ⟨by rfl, ?_⟩) (by assumption) ?_
        rotate_left
        · (intro w hSw; (try dsimp only at hSw); go_simp; try (with_reducible rfl))
        try simp only [Act.put, List.setIfInBounds_toArray, List.set_cons_zero, List.set_cons_succ]
        refine wpAnyH_take (i := 4) (v := ?_) rfl (by kernel_rfl) (by kernel_rfl) (by kernel_rfl) (fun _ _ _ h => h) (Or.inl ⟨by rfl, ?_⟩) (by assumption) ?_
        rotate_left
        · (intro w hSw; (try dsimp only at hSw); go_simp; try (with_reducible rfl))
        try simp only [Act.put, List.setIfInBounds_toArray, List.set_cons_zero, List.set_cons_succ]
        refine wpAnyH_ready (rs := [2]) (by kernel_rfl) (by simp) ?_
        refine AllReadyH.cons rfl (fun K hK => ?_) AllReadyH.nil
        go_simp
        (go_at_call 82; refine (number_i (w.heap.size + 2) i _ i1 i9).mono ?_; rintro e w5 ⟨rfl, rfl⟩)
        try go_wp2_with fail
        refine hK.out _ _ ?_ (fun hHeld => ?_)
        · assumption
        clear hK K
        try simp only [Act.put, List.setIfInBounds_toArray, List.set_cons_zero, List.set_cons_succ]
        refine wpAnyH_ready (rs := [5]) (by kernel_rfl) (by simp) ?_
        refine AllReadyH.cons rfl (fun K hK => ?_) AllReadyH.nil
        go_simp
        (go_at_call 82; refine (number_i w.heap.size i _ i1 i9).mono ?_; rintro e w5 ⟨rfl, rfl⟩)
        try go_wp2_with fail
        refine hK.out _ _ ?_ (fun hHeld => ?_)
        · assumption
        clear hK K
        try simp only [Act.put, List.setIfInBounds_toArray, List.set_cons_zero, List.set_cons_succ]
        refine wpAnyH_take (i := 6) (v := ?_) rfl (by kernel_rfl) (by kernel_rfl) (by kernel_rfl) (fun _ _ _ h => h) (Or.inl ⟨by rfl, ?_⟩) (by assumption) ?_
        rotate_left
        · (intro w hSw; (try dsimp only at hSw); go_simp; try (with_reducible rfl))
        try simp only [Act.put, List.setIfInBounds_toArray, List.set_cons_zero, List.set_cons_succ]
        refine wpAnyH_take (i := 7) (v := ?_) rfl (by kernel_rfl) (by kernel_rfl) (by kernel_rfl) (fun _ _ _ h => h) (Or.inl ⟨by rfl, ?_⟩) (by assumption) ?_
        rotate_left
        · (intro w hSw; (try dsimp only at hSw); go_simp; try (with_reducible rfl))
        try simp only [Act.put, List.setIfInBounds_toArray, List.set_cons_zero, List.set_cons_succ]
        refine wpAnyH_take (i := 8) (v := ?_) rfl (by kernel_rfl) (by kernel_rfl) (by kernel_rfl) (fun _ _ _ h => h) (Or.inl ⟨by rfl, ?_⟩) (by assumption) ?_
        rotate_left
        · (intro w hSw; (try dsimp only at hSw); go_simp; try (with_reducible rfl))
        try simp only [Act.put, List.setIfInBounds_toArray, List.set_cons_zero, List.set_cons_succ]
        refine wpAnyH_ready (rs := [9]) (by kernel_rfl) (by simp) ?_
        refine AllReadyH.cons rfl (fun K hK => ?_) AllReadyH.nil
        go_simp
        try go_wp2_with fail
        refine hK.out _ _ ?_ (fun hHeld => ?_)
        · exact ⟨(World.cell?_setCell_other _ _ _ _ (fun e => by have := HG.out; have := (Addr.mk.inj e).1; omega)).trans n0, (World.cell?_setCell_other _ _ _ _ (fun e => by have := (Addr.mk.inj e).1; omega)).trans xv⟩
        clear hK K
        try simp only [Act.put, List.setIfInBounds_toArray, List.set_cons_zero, List.set_cons_succ]
        refine wpAnyH_done (by kernel_rfl) ?_ _
        clear n0 xv y0 fz
        repeat clear hHeld
        go_wp2
        go_roundw
        case rel => exact ⟨j + 1, by omega, by go_num, HR.out.1, HR.out.2.1, HR.out.2.2.1, HR.out.2.2.2.1, HR.out.2.2.2.2⟩
        case measure => (simp [intOf]; try omega)
end Go.Proofs.Ytkgbkgonlopciaa
