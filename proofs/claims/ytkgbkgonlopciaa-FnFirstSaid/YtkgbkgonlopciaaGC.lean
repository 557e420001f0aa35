/- The walk of the draw of a segment. The walk of the draw of any segment. The walks of the draws of a segment to be told, and of one to be looked through. -/
import Derived.Test.YtkgbkgonlopciaaGA
import Derived.Test.YtkgbkgonlopciaaGB
import Derived.Test.YtkgbkgonlopciaaA32
import Derived.Deep.Cut
namespace Go.Proofs.Ytkgbkgonlopciaa
open Go.RowKit
set_option linter.unusedVariables false
set_option linter.unusedSimpArgs false
def pickSq : List Int := [0, 1, 4294967295, 70000]
def pickDa : List Int := [0, 1, 5, 20, 120]
/-- the options of a segment, as many as come -/
noncomputable def optsK (xs : List Int) : Nat → Nat → List OD → St → List OD × St
  | 0, _, os, st => (os, st)
  | f + 1, k, os, st => if k < belowX xs 4 st then optsK xs f (k + 1) (os ++ [(optX xs (belowN xs 4 st)).1]) (optX xs (belowN xs 4 st)).2 else (os, belowN xs 4 st)
noncomputable def sgD (xs : List Int) (x : SD) (q : List OD × St) : SD × St :=
  ({ x with ops := q.1, da := str (textL xs (pickDa.getD (belowX xs 5 q.2) 0).toNat (belowN xs 5 q.2)).1 }, (textL xs (pickDa.getD (belowX xs 5 q.2) 0).toNat (belowN xs 5 q.2)).2)
noncomputable def sg8 (xs : List Int) (x : SD) (s : St) : SD × St := sgD xs x (optsK xs 4 0 [] s)
noncomputable def sg7 (xs : List Int) (a b c d e f : Int) (s : St) : SD × St := sg8 xs ⟨a, b, c, d, e, f, (belowX xs 16 s : Nat), [], ⟨#[]⟩⟩ (belowN xs 16 s)
noncomputable def sg6 (xs : List Int) (a b c d e : Int) (s : St) : SD × St := sg7 xs a b c d e (belowX xs 300 s : Nat) (belowN xs 300 s)
noncomputable def sg5 (xs : List Int) (a b c d : Int) (s : St) : SD × St := sg6 xs a b c d (pickSq.getD (belowX xs 4 s) 0) (belowN xs 4 s)
noncomputable def sg4 (xs : List Int) (a b c : Int) (s : St) : SD × St := sg5 xs a b c (belowX xs 300 s : Nat) (belowN xs 300 s)
noncomputable def sg3 (xs : List Int) (a b : Int) (s : St) : SD × St := sg4 xs a b (belowX xs 300 s : Nat) (belowN xs 300 s)
noncomputable def sg2 (xs : List Int) (a : Int) (s : St) : SD × St := sg3 xs a (belowX xs 300 s : Nat) (belowN xs 300 s)
noncomputable def segX (xs : List Int) (s : St) : SD × St := sg2 xs (belowX xs 300 s : Nat) (belowN xs 300 s)
/-- a segment has been drawn -/
def GivesS (N : Nat) (v : Value) (n : Nat) (xs : List Int) (q : SD × St) (g : Nat) (w : World) (e : Ending) (w' : World) : Prop :=
  ∃ ov ivs, e = .returned (vx q.1 ov) ∧ ObO w' w.heap.size ov q.1.ops.length q.1.ops ivs ∧ Apt ov ivs ∧ CurS v n xs w' g q.2 ∧ Grew w w' g ∧ q.1.wf ∧ (∀ o ∈ q.1.ops, o.wf ∧ o.ids.length ≤ 8) ∧ q.1.ops.length ≤ N ∧ q.1.da.size ≤ 121
theorem ObO.grew {w w' : World} {B n g : Nat} {v : Value} {os : List OD} {ivs : List Value} (h : ObO w B v n os ivs) (hg : Grew w w' g) (hB : g < B) : ObO w' B v n os ivs :=
  ⟨h.lo, h.li, h.row.grew hg (fun k hk => by have := (h.row.lt k hk).1; omega), fun k o iv ho hi => (h.ids k o iv ho hi).grew hg (fun q hq => by have := ((h.ids k o iv ho hi).lt q hq).1; omega)⟩
theorem ObO.belowB {w w' : World} {B n : Nat} {v : Value} {os : List OD} {ivs : List Value} (h : ObO w B v n os ivs) (hs : w.heap.size ≤ w'.heap.size) (hb : ∀ b, B ≤ b → b < w.heap.size → w'.heap[b]? = w.heap[b]?) : ObO w' B v n os ivs :=
  ⟨h.lo, h.li, h.row.same hs (fun g hg => hb g (h.row.lt g hg).1 (h.row.lt g hg).2), fun k o iv ho hi => (h.ids k o iv ho hi).same hs (fun g hg => hb g ((h.ids k o iv ho hi).lt g hg).1 ((h.ids k o iv ho hi).lt g hg).2)⟩
theorem Apt.snoc1 {v iv : Value} {ivs : List Value} {m : Nat} (h : Apt v ivs) (hv : ∀ g, v.ownBlock = some g → g < m) (hvs : ∀ a ∈ ivs, ∀ g, a.ownBlock = some g → g < m) (hn : ∀ g, iv.ownBlock = some g → m ≤ g) : Apt v (ivs ++ [iv]) :=
  h.snoc (m := m) (fun c hc g hg => by
    rcases List.mem_cons.1 hc with rfl | hc
    · exact hv g hg
    · exact hvs c hc g hg) hn
theorem results_seg {fn : Func} {t b : Nat} {q : SD} {ov : Value} {w : World} {tmps : Array Value} (h : fn.results = #[.cell t 37]) (ht : tmps[t]? = some (.pointer (some ⟨b, 0, none⟩))) (hB : Bx w b (vxC q ov)) :
    (results fn tmps).run Try.prog w = .ok (vx q ov) w := by
  have hl := run_loadVar_mid (P := Try.prog) w b 0 37 (vxC q ov) _ (fun j v hj => by rw [Nat.zero_add]; exact hB.2 j v hj) Try.underlying37 rfl (by kernel_rfl)
  simp [results, h, ht, hl, vx_vxC, asAddr]
set_option maxRecDepth 100000 in
set_option maxHeartbeats 6400000 in
theorem seg_u (v : Value) (n : Nat) (xs : List Int) (st : St) (g : Nat) (w : World) (hc : CurS v n xs w g st) : Calls Try.prog 91 #[.pointer (some ⟨g, 0, none⟩)] w (GivesS 3 v n xs (segX xs st) g w) := by
  have hgl := hc.lt
  obtain ⟨R, hR⟩ : ∃ R, R = segX xs st := ⟨_, rfl⟩
  rw [← hR]
  have R0 := Lib.hid hR
  have HC := Lib.hid hc
  clear hR hc
  go_enter Try.func91, Try.ntmps91
  go_upto_region 1 with (fail)
  obtain ⟨W, hW⟩ : ∃ W, W = w.alloc (.cells (vxC noX (.slice none 0 0)).toArray 37) := ⟨_, rfl⟩
  change Code.wp _ _ _ _ (w.alloc (.cells (vxC noX (.slice none 0 0)).toArray 37))
  rw [← hW]
  have E0 := (Below.refl w.heap.size w).alloc (Nat.le_refl _) (.cells (vxC noX (.slice none 0 0)).toArray 37)
  have X0 := Lib.hid (Blk.new w 37 (vxC noX (.slice none 0 0)).toArray)
  rw [← hW] at E0 X0
  have C0 := Lib.hid (HC.out.below E0)
  have G0 : Hid (Grew w W g) := Lib.hid (Grew.of_below E0)
  clear hW HC E0
  obtain ⟨N1, hN1⟩ : ∃ N1, N1 = belowX xs 300 st := ⟨_, rfl⟩
  have bN1 : N1 < 300 := by rw [hN1]; exact belowX_lt xs st (by omega)
  obtain ⟨s1, hs1⟩ : ∃ s, s = belowN xs 300 st := ⟨_, rfl⟩
  have R1 : Hid (R = sg2 xs (N1 : Nat) s1) := Lib.hid (by rw [R0.out, hN1, hs1]; rfl)
  have HN1 := Lib.hid hN1
  have Hs1 := Lib.hid hs1
  clear hN1 hs1 R0
  go_wp2_with fail
  refine (below_u v n xs st g 300 _ C0.out (by omega) (by omega)).mono ?_
  rw [← HN1.out, ← Hs1.out]
  rintro e w1 ⟨rfl, hc, hg⟩
  have C1 := Lib.hid hc
  have G1 := Lib.hid (G0.out.trans hg)
  have X1 := Lib.hid (X0.out.grewS hg hgl)
  clear hc hg C0 G0 X0 HN1 Hs1
  obtain ⟨N2, hN2⟩ : ∃ N2, N2 = belowX xs 300 s1 := ⟨_, rfl⟩
  have bN2 : N2 < 300 := by rw [hN2]; exact belowX_lt xs s1 (by omega)
  obtain ⟨s2, hs2⟩ : ∃ s, s = belowN xs 300 s1 := ⟨_, rfl⟩
  have R2 : Hid (R = sg3 xs (N1 : Nat) (N2 : Nat) s2) := Lib.hid (by rw [R1.out, hN2, hs2]; rfl)
  have HN2 := Lib.hid hN2
  have Hs2 := Lib.hid hs2
  clear hN2 hs2 R1
  go_wp2_with fail
  refine (below_u v n xs s1 g 300 _ C1.out (by omega) (by omega)).mono ?_
  rw [← HN2.out, ← Hs2.out]
  rintro e w2 ⟨rfl, hc, hg⟩
  have C2 := Lib.hid hc
  have G2 := Lib.hid (G1.out.trans hg)
  have X2 := Lib.hid (X1.out.grewS hg hgl)
  clear hc hg C1 G1 X1 HN2 Hs2
  obtain ⟨N3, hN3⟩ : ∃ N3, N3 = belowX xs 300 s2 := ⟨_, rfl⟩
  have bN3 : N3 < 300 := by rw [hN3]; exact belowX_lt xs s2 (by omega)
  obtain ⟨s3, hs3⟩ : ∃ s, s = belowN xs 300 s2 := ⟨_, rfl⟩
  have R3 : Hid (R = sg4 xs (N1 : Nat) (N2 : Nat) (N3 : Nat) s3) := Lib.hid (by rw [R2.out, hN3, hs3]; rfl)
  have HN3 := Lib.hid hN3
  have Hs3 := Lib.hid hs3
  clear hN3 hs3 R2
  go_wp2_with fail
  refine (below_u v n xs s2 g 300 _ C2.out (by omega) (by omega)).mono ?_
  rw [← HN3.out, ← Hs3.out]
  rintro e w3 ⟨rfl, hc, hg⟩
  have C3 := Lib.hid hc
  have G3 := Lib.hid (G2.out.trans hg)
  have X3 := Lib.hid (X2.out.grewS hg hgl)
  clear hc hg C2 G2 X2 HN3 Hs3
  obtain ⟨N4, hN4⟩ : ∃ N4, N4 = belowX xs 300 s3 := ⟨_, rfl⟩
  have bN4 : N4 < 300 := by rw [hN4]; exact belowX_lt xs s3 (by omega)
  obtain ⟨s4, hs4⟩ : ∃ s, s = belowN xs 300 s3 := ⟨_, rfl⟩
  have R4 : Hid (R = sg5 xs (N1 : Nat) (N2 : Nat) (N3 : Nat) (N4 : Nat) s4) := Lib.hid (by rw [R3.out, hN4, hs4]; rfl)
  have HN4 := Lib.hid hN4
  have Hs4 := Lib.hid hs4
  clear hN4 hs4 R3
  go_wp2_with fail
  refine (below_u v n xs s3 g 300 _ C3.out (by omega) (by omega)).mono ?_
  rw [← HN4.out, ← Hs4.out]
  rintro e w4 ⟨rfl, hc, hg⟩
  have C4 := Lib.hid hc
  have G4 := Lib.hid (G3.out.trans hg)
  have X4 := Lib.hid (X3.out.grewS hg hgl)
  clear hc hg C3 G3 X3 HN4 Hs4
  obtain ⟨N5, hN5⟩ : ∃ N, N = pickSq.getD (belowX xs 4 s4) 0 := ⟨_, rfl⟩
  obtain ⟨s5, hs5⟩ : ∃ s, s = belowN xs 4 s4 := ⟨_, rfl⟩
  have R5 : Hid (R = sg6 xs (N1 : Nat) (N2 : Nat) (N3 : Nat) (N4 : Nat) N5 s5) := Lib.hid (by rw [R4.out, hN5, hs5]; rfl)
  have HN5 := Lib.hid hN5
  have Hs5 := Lib.hid hs5
  clear hN5 hs5 R4
  have P5 := Lib.hid (obs_lit w4 3 (#[.int .i64 0, .int .i64 1, .int .i64 4294967295, .int .i64 70000] : Array Value) 4 w4.heap.size (Nat.le_refl _) rfl (by decide))
  have E5 := Lib.hid ((Below.refl w4.heap.size w4).alloc (Nat.le_refl _) (.cells (#[.int .i64 0, .int .i64 1, .int .i64 4294967295, .int .i64 70000] : Array Value) 3))
  have L5 : Hid (g < w4.heap.size) := Lib.hid C4.out.lt
  go_wp2_with fail
  refine (pickInt_u v n xs s4 g _ 4 pickSq _ (C4.out.below E5.out) P5.out.rd (by omega) (by omega) (by intro b off k cap hb; simp only [Value.slice.injEq, Option.some.injEq, Addr.mk.injEq] at hb; have := L5.out; omega)).mono ?_
  rw [← HN5.out, ← Hs5.out]
  rintro e w5 ⟨rfl, hc, hg⟩
  have C5 := Lib.hid hc
  have G5 := Lib.hid ((G4.out.trans (Grew.of_below E5.out)).trans hg)
  have X5 := Lib.hid ((X4.out.below E5.out X4.out.lt).grewS hg hgl)
  have HNR : Hid (0 ≤ N5 ∧ N5 ≤ 4294967295) := Lib.hid (by rw [HN5.out]; exact getD_mem4 (p := fun N => 0 ≤ N ∧ N ≤ 4294967295) (by intro x hx; simp only [pickSq, List.mem_cons, List.not_mem_nil, or_false] at hx; omega) (by omega) _)
  clear hc hg C4 G4 X4 P5 E5 L5 HN5 Hs5
  obtain ⟨N6, hN6⟩ : ∃ N6, N6 = belowX xs 300 s5 := ⟨_, rfl⟩
  have bN6 : N6 < 300 := by rw [hN6]; exact belowX_lt xs s5 (by omega)
  obtain ⟨s6, hs6⟩ : ∃ s, s = belowN xs 300 s5 := ⟨_, rfl⟩
  have R6 : Hid (R = sg7 xs (N1 : Nat) (N2 : Nat) (N3 : Nat) (N4 : Nat) N5 (N6 : Nat) s6) := Lib.hid (by rw [R5.out, hN6, hs6]; rfl)
  have HN6 := Lib.hid hN6
  have Hs6 := Lib.hid hs6
  clear hN6 hs6 R5
  go_wp2_with fail
  refine (below_u v n xs s5 g 300 _ C5.out (by omega) (by omega)).mono ?_
  rw [← HN6.out, ← Hs6.out]
  rintro e w6 ⟨rfl, hc, hg⟩
  have C6 := Lib.hid hc
  have G6 := Lib.hid (G5.out.trans hg)
  have X6 := Lib.hid (X5.out.grewS hg hgl)
  clear hc hg C5 G5 X5 HN6 Hs6
  obtain ⟨N7, hN7⟩ : ∃ N7, N7 = belowX xs 16 s6 := ⟨_, rfl⟩
  have bN7 : N7 < 16 := by rw [hN7]; exact belowX_lt xs s6 (by omega)
  obtain ⟨s7, hs7⟩ : ∃ s, s = belowN xs 16 s6 := ⟨_, rfl⟩
  have R7 : Hid (R = sg8 xs ⟨(N1 : Nat), (N2 : Nat), (N3 : Nat), (N4 : Nat), N5, (N6 : Nat), (N7 : Nat), [], ⟨#[]⟩⟩ s7) := Lib.hid (by rw [R6.out, hN7, hs7]; rfl)
  have HN7 := Lib.hid hN7
  have Hs7 := Lib.hid hs7
  clear hN7 hs7 R6
  go_wp2_with fail
  refine (below_u v n xs s6 g 16 _ C6.out (by omega) (by omega)).mono ?_
  rw [← HN7.out, ← Hs7.out]
  rintro e w7 ⟨rfl, hc, hg⟩
  have C7 := Lib.hid hc
  have G7 := Lib.hid (G6.out.trans hg)
  have X7 := Lib.hid (X6.out.grewS hg hgl)
  clear hc hg C6 G6 X6 HN7 Hs7
  go_upto_region 2 with (fail)
  obtain ⟨X, hX⟩ : ∃ X : SD, X = ⟨(N1 : Nat), (N2 : Nat), (N3 : Nat), (N4 : Nat), N5, (N6 : Nat), (N7 : Nat), [], ⟨#[]⟩⟩ := ⟨_, rfl⟩
  obtain ⟨W8, hW8⟩ : ∃ W, W = w7.alloc (.cells (vxC X (.slice none 0 0)).toArray 37) := ⟨_, rfl⟩
  have hW8' := hW8
  rw [hX] at hW8'
  change Code.wp _ _ _ _ (w7.alloc (.cells (vxC (⟨(N1 : Nat), (N2 : Nat), (N3 : Nat), (N4 : Nat), N5, (N6 : Nat), (N7 : Nat), [], ⟨#[]⟩⟩ : SD) (.slice none 0 0)).toArray 37))
  rw [← hW8']
  obtain ⟨bx, hbx⟩ : ∃ b, b = w7.heap.size := ⟨_, rfl⟩
  have E8 := (Below.refl w7.heap.size w7).alloc (Nat.le_refl _) (.cells (vxC X (.slice none 0 0)).toArray 37)
  have Y8 := Lib.hid (Blk.new w7 37 (vxC X (.slice none 0 0)).toArray)
  rw [← hW8] at E8 Y8
  rw [← hbx] at Y8 ⊢
  have R8 : Hid (R = sg8 xs X s7) := Lib.hid (by rw [R7.out, hX])
  have HXW : Hid (X.wf) := Lib.hid (by rw [hX]; have h5 := HNR.out; refine ⟨⟨i64R_nat (by omega), i64R_nat (by omega), i64R_nat (by omega), i64R_nat (by omega), (by unfold i64R; dsimp only; omega), i64R_nat (by omega), i64R_nat (by omega)⟩, Nat.zero_le _, fun o ho => by cases ho⟩)
  have X8 := Lib.hid (X7.out.below E8 X7.out.lt)
  have C8 := Lib.hid (C7.out.below E8)
  have G8 := Lib.hid (G7.out.trans (Grew.of_below E8))
  have S8 : Hid (bx + 1 ≤ W8.heap.size) := Lib.hid Y8.out.lt
  have HNE : Hid (g < w.heap.size ∧ w.heap.size < bx) := Lib.hid ⟨hgl, by rw [hbx]; exact X7.out.lt⟩
  clear hW8 hW8' hbx hX E8 X7 C7 G7 R7 HNR bN1 bN2 bN3 bN4 bN6 bN7
  go_wp2
  go_loopw [4] (fun i wr => ∃ (k cp : Nat) (A : Option Addr) (os : List OD) (ivs : List Value) (s9 : St), k ≤ 3 ∧ i = .int .i64 (k : Int) ∧ Hid (optsK xs 4 0 [] s7 = optsK xs (4 - k) k os s9) ∧ Hid (∀ o ∈ os, o.wf ∧ o.ids.length ≤ 8) ∧ Hid (ObO wr (bx + 1) (.slice A k cp) k os ivs) ∧ Hid (Apt (.slice A k cp) ivs) ∧ Hid (Blk wr w.heap.size 37 (vxC noX (.slice none 0 0))) ∧ Hid (Blk wr bx 37 (vxC X (.slice A k cp))) ∧ Hid (CurS v n xs wr g s9) ∧ Hid (Grew w wr g) ∧ Hid (bx + 1 ≤ wr.heap.size)) (fun i _ => 4 - (intOf i).toNat)
  case atStart => exact ⟨0, 0, none, [], [], s7, Nat.zero_le _, rfl, Lib.hid rfl, Lib.hid (fun o h => by cases h), Lib.hid (ObO.nil _ _), Lib.hid (List.pairwise_singleton _ _), X8, Y8, C8, G8, S8⟩
  case round =>
    clear X8 Y8 C8 G8 S8
    obtain ⟨k, cp, A, os, ivs, s9, hk, rfl, HOP, HOW, OB, AP, X1, Y1, C1, G1, S1⟩ := hrel
    have hne := HNE.out
    obtain ⟨hne1, hne2⟩ := hne
    obtain ⟨m, hm⟩ : ∃ m, m = belowX xs 4 s9 := ⟨_, rfl⟩
    have bm : m < 4 := by rw [hm]; exact belowX_lt xs s9 (by omega)
    obtain ⟨s10, hs10⟩ : ∃ s, s = belowN xs 4 s9 := ⟨_, rfl⟩
    have Hm := Lib.hid hm
    have Hs10 := Lib.hid hs10
    clear hm hs10
    go_wp2_with fail
    refine (below_u v n xs s9 g 4 _ C1.out (by omega) (by omega)).mono ?_
    rw [← Hm.out, ← Hs10.out]
    rintro e w2 ⟨rfl, hc, hg⟩
    have C2 := Lib.hid hc
    have G2 := Lib.hid (G1.out.trans hg)
    have X2 := Lib.hid (X1.out.grewS hg hne1)
    have Y2 := Lib.hid (Y1.out.grewS hg (by omega))
    have OB2 := Lib.hid (OB.out.grew hg (by omega))
    have S2 : Hid (bx + 1 ≤ w2.heap.size) := Lib.hid Y2.out.lt
    clear hc hg C1 G1 X1 Y1 OB S1
    by_cases hlt : k < m
    · have c1 : (k : Int) < (m : Int) := by omega
      have HOP2 : Hid (optsK xs 4 0 [] s7 = optsK xs (4 - (k + 1)) (k + 1) (os ++ [(optX xs s10).1]) (optX xs s10).2) := Lib.hid (by
        rw [HOP.out, show 4 - k = (4 - (k + 1)) + 1 by omega]
        show (if k < belowX xs 4 s9 then _ else _) = _
        rw [← Hm.out, if_pos hlt, ← Hs10.out])
      clear HOP Hm Hs10
      go_upto_region 5 with (fail)
      refine wp_region_any (by kernel_rfl) ?_
      change wpAny _ _ _ _ _ _ _ (World.drew w2)
      have BD := Lib.hid ((Below.refl w2.heap.size w2).drew)
      have y7 : (World.drew w2).cell? ⟨bx, 7, none⟩ = some (.slice A k cp) := Y2.out.cell 7
      have CD : Hid (CurS v n xs (World.drew w2) g s10) := Lib.hid (C2.out.below BD.out)
      refine wpAny_take (i := 0) (v := ?_) rfl (by kernel_rfl) (by kernel_rfl) (by kernel_rfl) (fun _ _ _ h => h) (Or.inl ⟨by rfl, ?_⟩) ?_
      rotate_left
      · (intro w; go_simp; try (with_reducible rfl))
      refine wpAny_take (i := 2) (v := ?_) rfl (by kernel_rfl) (by kernel_rfl) (by kernel_rfl) (fun _ _ _ h => h) (Or.inl ⟨by rfl, ?_⟩) ?_
      rotate_left
      · (intro w; go_simp; try (with_reducible rfl))
      refine wpAny_ready (rs := [1, 3]) (by kernel_rfl) (by simp) ?_
      refine AllReady.cons rfl (fun K hK => ?_) (AllReady.cons rfl (fun K hK => ?_) AllReady.nil)
      · go_simp
        refine hK _ _ ?_; clear hK K
        refine wpAny_ready (rs := [3]) (by kernel_rfl) (by simp) ?_
        refine AllReady.cons rfl (fun K hK => ?_) AllReady.nil
        go_simp
        go_at_call 94
        refine (opt_u v n xs s10 g _ CD.out).mono ?_
        rintro e w3 ⟨iv, rfl, ho, hc, hg, hwf, hid⟩
        obtain ⟨q, hq⟩ : ∃ q, q = optX xs s10 := ⟨_, rfl⟩
        rw [← hq] at ho hc hwf hid HOP2 ⊢
        clear hq
        obtain ⟨o, s11⟩ := q
        dsimp only at ho hc hwf hid HOP2 ⊢
        obtain ⟨A2, c2, rfl⟩ := ho.shape
        have C3 := Lib.hid hc
        have G3 := Lib.hid ((G2.out.trans (Grew.of_below BD.out)).trans hg)
        have X3 := Lib.hid ((X2.out.below BD.out X2.out.lt).grewS hg hne1)
        have Y3 := Lib.hid ((Y2.out.below BD.out Y2.out.lt).grewS hg (by omega))
        have OB3 := Lib.hid ((OB2.out.below BD.out).grew hg (by omega))
        have OI3 : Hid (Obs w3 (bx + 1) 1 (.slice A2 o.ids.length c2) o.ids.length (o.ids.map vn)) := Lib.hid (ho.mono S2.out)
        have AP3 : Hid (Apt (.slice A k cp) (ivs ++ [.slice A2 o.ids.length c2])) := Lib.hid (AP.out.snoc1 (m := w2.heap.size) (fun g hg => (OB2.out.row.lt g hg).2) OB2.out.lts (fun g hg => (ho.lt g hg).1))
        have S3 : Hid (bx + 1 ≤ w3.heap.size) := Lib.hid Y3.out.lt
        have HOW3 : Hid (∀ q ∈ os ++ [o], q.wf ∧ q.ids.length ≤ 8) := Lib.hid (fun q hq => by
          rcases List.mem_append.1 hq with hq | hq
          · exact HOW.out q hq
          · obtain rfl := List.mem_singleton.1 hq
            exact ⟨hwf, hid⟩)
        clear ho hc hg hwf hid C2 G2 X2 Y2 OB2 AP HOW CD BD
        refine hK _ _ ?_; clear hK K
        refine wpAny_ready (rs := [4]) (by kernel_rfl) (by simp) ?_
        refine AllReady.cons (o := ⟨some 31, _, _, _, _, _⟩) rfl (fun K hK => ?_) AllReady.nil
        refine step_build1 rfl rfl (by rfl) ?_
        refine hK _ _ ?_; clear hK K
        obtain ⟨W4, hW4⟩ : ∃ W, W = w3.alloc (.cells (voC o (.slice A2 o.ids.length c2)).toArray 27) := ⟨_, rfl⟩
        rw [← hW4]
        obtain ⟨b4, hb4⟩ : ∃ b, b = w3.heap.size := ⟨_, rfl⟩
        have E4 := Lib.hid ((Below.refl w3.heap.size w3).alloc (Nat.le_refl _) (.cells (voC o (.slice A2 o.ids.length c2)).toArray 27))
        have N4 := Lib.hid (Bx.new w3 (voC o (.slice A2 o.ids.length c2)).toArray 27)
        rw [← hW4] at E4 N4
        rw [← hb4] at N4 ⊢
        have C4 := Lib.hid (C3.out.below E4.out)
        have G4 := Lib.hid (G3.out.trans (Grew.of_below E4.out))
        have X4 := Lib.hid (X3.out.below E4.out X3.out.lt)
        have Y4 := Lib.hid (Y3.out.below E4.out Y3.out.lt)
        have OB4 := Lib.hid (OB3.out.below E4.out)
        have OI4 := Lib.hid (OI3.out.below E4.out)
        have S4 : Hid (bx + 1 ≤ W4.heap.size) := Lib.hid Y4.out.lt
        clear hW4 hb4 E4 C3 G3 X3 Y3 OB3 OI3 S3
        try simp only [Act.put, List.setIfInBounds_toArray, List.set_cons_zero, List.set_cons_succ]
        refine wpAny_ready (rs := [5]) (by kernel_rfl) (by simp) ?_
        refine AllReady.cons (o := ⟨some 32, _, _, _, _, _⟩) rfl (fun K hK => ?_) AllReady.nil
        refine step_append_opts rfl _ _ rfl (bx + 1) (.slice A k cp) k os ivs (by rfl) OB4.out 1 [o] [.slice A2 o.ids.length c2] rfl rfl b4 (by rfl) (by rw [flatO_one]; exact N4.out) (by rw [flatO_one]; exact voC_cells _ _ _ _) (fun k' q iv hq hi => by
          cases k' with
          | zero =>
            simp only [List.getElem?_cons_zero, Option.some.injEq] at hq hi
            subst hq; subst hi
            exact OI4.out
          | succ k' => simp at hq) AP3.out (by omega) S4.out ?_
        intro v5 w5 ho5 ha5 hb5 _ _
        obtain ⟨A5, c5, rfl, _⟩ := ho5.rd.shape
        have OB5 := Lib.hid ho5
        have AP5 := Lib.hid ha5
        have X5 := Lib.hid (X4.out.below hb5 (by omega))
        have Y5 := Lib.hid (Y4.out.below hb5 (by omega))
        have C5 := Lib.hid (C4.out.belowB hb5 (by omega))
        have G5 := Lib.hid (G4.out.below_trans (hb5.mono (by omega)))
        have z7 : w5.cell? ⟨bx, 7, none⟩ = some (.slice A k cp) := Y5.out.cell 7
        have f7 := Y5.out.frozen 7
        clear ho5 ha5 hb5 C4 G4 X4 Y4 OB4 OI4 S4 AP3 N4
        refine hK _ _ ?_; clear hK K
        try simp only [Act.put, List.setIfInBounds_toArray, List.set_cons_zero, List.set_cons_succ]
        refine wpAny_ready (rs := [6]) (by kernel_rfl) (by simp) ?_
        refine AllReady.cons rfl (fun K hK => ?_) AllReady.nil
        go_simp
        refine hK _ _ ?_; clear hK K
        refine wpAny_ready (rs := [7]) (by kernel_rfl) (by simp) ?_
        refine AllReady.cons rfl (fun K hK => ?_) AllReady.nil
        go_simp
        refine hK _ _ ?_; clear hK K
        refine wpAny_done (by kernel_rfl) ?_ _
        obtain ⟨W6, hW6⟩ : ∃ W, W = w5.setCell ⟨bx, 7, none⟩ (.slice A5 (k + 1) c5) := ⟨_, rfl⟩
        rw [← hW6]
        have BT : Below bx w5 W6 := by rw [hW6]; exact (Below.refl _ _).setCell (by dsimp only; omega) _
        have Y6 : Hid (Blk W6 bx 37 (vxC X (.slice A5 (k + 1) c5))) := Lib.hid (by rw [hW6]; exact Y5.out.set_ 7 _)
        have X6 : Hid (Blk W6 w.heap.size 37 (vxC noX (.slice none 0 0))) := Lib.hid (X5.out.below BT (by omega))
        have OB6 : Hid (ObO W6 (bx + 1) (.slice A5 (k + 1) c5) (k + 1) (os ++ [o]) (ivs ++ [.slice A2 o.ids.length c2])) := Lib.hid (by rw [hW6]; exact OB5.out.far (by dsimp only; omega) _)
        have C6 := Lib.hid (C5.out.belowB BT (by omega))
        have G6 := Lib.hid (G5.out.below_trans (BT.mono (by omega)))
        have S6 : Hid (bx + 1 ≤ W6.heap.size) := Lib.hid Y6.out.lt
        clear hW6 BT z7 f7 C5 G5 X5 Y5 OB5
        go_wp2
        go_roundw
        case rel => exact ⟨k + 1, c5, A5, _, _, s11, by omega, by go_num, HOP2, HOW3, OB6, AP5, X6, Y6, C6, G6, S6⟩
        case measure => (simp [intOf]; try omega)
      · go_simp
        go_at_call 94
        refine (opt_u v n xs s10 g _ CD.out).mono ?_
        rintro e w3 ⟨iv, rfl, ho, hc, hg, hwf, hid⟩
        obtain ⟨q, hq⟩ : ∃ q, q = optX xs s10 := ⟨_, rfl⟩
        rw [← hq] at ho hc hwf hid HOP2 ⊢
        clear hq
        obtain ⟨o, s11⟩ := q
        dsimp only at ho hc hwf hid HOP2 ⊢
        obtain ⟨A2, c2, rfl⟩ := ho.shape
        have C3 := Lib.hid hc
        have G3 := Lib.hid ((G2.out.trans (Grew.of_below BD.out)).trans hg)
        have X3 := Lib.hid ((X2.out.below BD.out X2.out.lt).grewS hg hne1)
        have Y3 := Lib.hid ((Y2.out.below BD.out Y2.out.lt).grewS hg (by omega))
        have OB3 := Lib.hid ((OB2.out.below BD.out).grew hg (by omega))
        have OI3 : Hid (Obs w3 (bx + 1) 1 (.slice A2 o.ids.length c2) o.ids.length (o.ids.map vn)) := Lib.hid (ho.mono S2.out)
        have AP3 : Hid (Apt (.slice A k cp) (ivs ++ [.slice A2 o.ids.length c2])) := Lib.hid (AP.out.snoc1 (m := w2.heap.size) (fun g hg => (OB2.out.row.lt g hg).2) OB2.out.lts (fun g hg => (ho.lt g hg).1))
        have S3 : Hid (bx + 1 ≤ w3.heap.size) := Lib.hid Y3.out.lt
        have HOW3 : Hid (∀ q ∈ os ++ [o], q.wf ∧ q.ids.length ≤ 8) := Lib.hid (fun q hq => by
          rcases List.mem_append.1 hq with hq | hq
          · exact HOW.out q hq
          · obtain rfl := List.mem_singleton.1 hq
            exact ⟨hwf, hid⟩)
        clear ho hc hg hwf hid C2 G2 X2 Y2 OB2 AP HOW CD BD
        have y7b : w3.cell? ⟨bx, 7, none⟩ = some (.slice A k cp) := Y3.out.cell 7
        clear y7
        refine hK _ _ ?_; clear hK K
        refine wpAny_ready (rs := [1, 4]) (by kernel_rfl) (by simp) ?_
        refine AllReady.cons rfl (fun K hK => ?_) (AllReady.cons (o := ⟨some 31, _, _, _, _, _⟩) rfl (fun K hK => ?_) AllReady.nil)
        · go_simp
          refine hK _ _ ?_; clear hK K
          refine wpAny_ready (rs := [4]) (by kernel_rfl) (by simp) ?_
          refine AllReady.cons (o := ⟨some 31, _, _, _, _, _⟩) rfl (fun K hK => ?_) AllReady.nil
          refine step_build1 rfl rfl (by rfl) ?_
          refine hK _ _ ?_; clear hK K
          obtain ⟨W4, hW4⟩ : ∃ W, W = w3.alloc (.cells (voC o (.slice A2 o.ids.length c2)).toArray 27) := ⟨_, rfl⟩
          rw [← hW4]
          obtain ⟨b4, hb4⟩ : ∃ b, b = w3.heap.size := ⟨_, rfl⟩
          have E4 := Lib.hid ((Below.refl w3.heap.size w3).alloc (Nat.le_refl _) (.cells (voC o (.slice A2 o.ids.length c2)).toArray 27))
          have N4 := Lib.hid (Bx.new w3 (voC o (.slice A2 o.ids.length c2)).toArray 27)
          rw [← hW4] at E4 N4
          rw [← hb4] at N4 ⊢
          have C4 := Lib.hid (C3.out.below E4.out)
          have G4 := Lib.hid (G3.out.trans (Grew.of_below E4.out))
          have X4 := Lib.hid (X3.out.below E4.out X3.out.lt)
          have Y4 := Lib.hid (Y3.out.below E4.out Y3.out.lt)
          have OB4 := Lib.hid (OB3.out.below E4.out)
          have OI4 := Lib.hid (OI3.out.below E4.out)
          have S4 : Hid (bx + 1 ≤ W4.heap.size) := Lib.hid Y4.out.lt
          clear hW4 hb4 E4 C3 G3 X3 Y3 OB3 OI3 S3
          try simp only [Act.put, List.setIfInBounds_toArray, List.set_cons_zero, List.set_cons_succ]
          refine wpAny_ready (rs := [5]) (by kernel_rfl) (by simp) ?_
          refine AllReady.cons (o := ⟨some 32, _, _, _, _, _⟩) rfl (fun K hK => ?_) AllReady.nil
          refine step_append_opts rfl _ _ rfl (bx + 1) (.slice A k cp) k os ivs (by rfl) OB4.out 1 [o] [.slice A2 o.ids.length c2] rfl rfl b4 (by rfl) (by rw [flatO_one]; exact N4.out) (by rw [flatO_one]; exact voC_cells _ _ _ _) (fun k' q iv hq hi => by
            cases k' with
            | zero =>
              simp only [List.getElem?_cons_zero, Option.some.injEq] at hq hi
              subst hq; subst hi
              exact OI4.out
            | succ k' => simp at hq) AP3.out (by omega) S4.out ?_
          intro v5 w5 ho5 ha5 hb5 _ _
          obtain ⟨A5, c5, rfl, _⟩ := ho5.rd.shape
          have OB5 := Lib.hid ho5
          have AP5 := Lib.hid ha5
          have X5 := Lib.hid (X4.out.below hb5 (by omega))
          have Y5 := Lib.hid (Y4.out.below hb5 (by omega))
          have C5 := Lib.hid (C4.out.belowB hb5 (by omega))
          have G5 := Lib.hid (G4.out.below_trans (hb5.mono (by omega)))
          have z7 : w5.cell? ⟨bx, 7, none⟩ = some (.slice A k cp) := Y5.out.cell 7
          have f7 := Y5.out.frozen 7
          clear ho5 ha5 hb5 C4 G4 X4 Y4 OB4 OI4 S4 AP3 N4
          refine hK _ _ ?_; clear hK K
          try simp only [Act.put, List.setIfInBounds_toArray, List.set_cons_zero, List.set_cons_succ]
          refine wpAny_ready (rs := [6]) (by kernel_rfl) (by simp) ?_
          refine AllReady.cons rfl (fun K hK => ?_) AllReady.nil
          go_simp
          refine hK _ _ ?_; clear hK K
          refine wpAny_ready (rs := [7]) (by kernel_rfl) (by simp) ?_
          refine AllReady.cons rfl (fun K hK => ?_) AllReady.nil
          go_simp
          refine hK _ _ ?_; clear hK K
          refine wpAny_done (by kernel_rfl) ?_ _
          obtain ⟨W6, hW6⟩ : ∃ W, W = w5.setCell ⟨bx, 7, none⟩ (.slice A5 (k + 1) c5) := ⟨_, rfl⟩
          rw [← hW6]
          have BT : Below bx w5 W6 := by rw [hW6]; exact (Below.refl _ _).setCell (by dsimp only; omega) _
          have Y6 : Hid (Blk W6 bx 37 (vxC X (.slice A5 (k + 1) c5))) := Lib.hid (by rw [hW6]; exact Y5.out.set_ 7 _)
          have X6 : Hid (Blk W6 w.heap.size 37 (vxC noX (.slice none 0 0))) := Lib.hid (X5.out.below BT (by omega))
          have OB6 : Hid (ObO W6 (bx + 1) (.slice A5 (k + 1) c5) (k + 1) (os ++ [o]) (ivs ++ [.slice A2 o.ids.length c2])) := Lib.hid (by rw [hW6]; exact OB5.out.far (by dsimp only; omega) _)
          have C6 := Lib.hid (C5.out.belowB BT (by omega))
          have G6 := Lib.hid (G5.out.below_trans (BT.mono (by omega)))
          have S6 : Hid (bx + 1 ≤ W6.heap.size) := Lib.hid Y6.out.lt
          clear hW6 BT z7 f7 C5 G5 X5 Y5 OB5
          go_wp2
          go_roundw
          case rel => exact ⟨k + 1, c5, A5, _, _, s11, by omega, by go_num, HOP2, HOW3, OB6, AP5, X6, Y6, C6, G6, S6⟩
          case measure => (simp [intOf]; try omega)
        · clear y7b
          refine step_build1 rfl rfl (by rfl) ?_
          refine hK _ _ ?_; clear hK K
          obtain ⟨W4, hW4⟩ : ∃ W, W = w3.alloc (.cells (voC o (.slice A2 o.ids.length c2)).toArray 27) := ⟨_, rfl⟩
          rw [← hW4]
          obtain ⟨b4, hb4⟩ : ∃ b, b = w3.heap.size := ⟨_, rfl⟩
          have E4 := Lib.hid ((Below.refl w3.heap.size w3).alloc (Nat.le_refl _) (.cells (voC o (.slice A2 o.ids.length c2)).toArray 27))
          have N4 := Lib.hid (Bx.new w3 (voC o (.slice A2 o.ids.length c2)).toArray 27)
          rw [← hW4] at E4 N4
          rw [← hb4] at N4 ⊢
          have C4 := Lib.hid (C3.out.below E4.out)
          have G4 := Lib.hid (G3.out.trans (Grew.of_below E4.out))
          have X4 := Lib.hid (X3.out.below E4.out X3.out.lt)
          have Y4 := Lib.hid (Y3.out.below E4.out Y3.out.lt)
          have OB4 := Lib.hid (OB3.out.below E4.out)
          have OI4 := Lib.hid (OI3.out.below E4.out)
          have S4 : Hid (bx + 1 ≤ W4.heap.size) := Lib.hid Y4.out.lt
          clear hW4 hb4 E4 C3 G3 X3 Y3 OB3 OI3 S3
          try simp only [Act.put, List.setIfInBounds_toArray, List.set_cons_zero, List.set_cons_succ]
          have y7c : W4.cell? ⟨bx, 7, none⟩ = some (.slice A k cp) := Y4.out.cell 7
          refine wpAny_ready (rs := [1]) (by kernel_rfl) (by simp) ?_
          refine AllReady.cons rfl (fun K hK => ?_) AllReady.nil
          go_simp
          refine hK _ _ ?_; clear hK K
          refine wpAny_ready (rs := [5]) (by kernel_rfl) (by simp) ?_
          refine AllReady.cons (o := ⟨some 32, _, _, _, _, _⟩) rfl (fun K hK => ?_) AllReady.nil
          refine step_append_opts rfl _ _ rfl (bx + 1) (.slice A k cp) k os ivs (by rfl) OB4.out 1 [o] [.slice A2 o.ids.length c2] rfl rfl b4 (by rfl) (by rw [flatO_one]; exact N4.out) (by rw [flatO_one]; exact voC_cells _ _ _ _) (fun k' q iv hq hi => by
            cases k' with
            | zero =>
              simp only [List.getElem?_cons_zero, Option.some.injEq] at hq hi
              subst hq; subst hi
              exact OI4.out
            | succ k' => simp at hq) AP3.out (by omega) S4.out ?_
          intro v5 w5 ho5 ha5 hb5 _ _
          obtain ⟨A5, c5, rfl, _⟩ := ho5.rd.shape
          have OB5 := Lib.hid ho5
          have AP5 := Lib.hid ha5
          have X5 := Lib.hid (X4.out.below hb5 (by omega))
          have Y5 := Lib.hid (Y4.out.below hb5 (by omega))
          have C5 := Lib.hid (C4.out.belowB hb5 (by omega))
          have G5 := Lib.hid (G4.out.below_trans (hb5.mono (by omega)))
          have z7 : w5.cell? ⟨bx, 7, none⟩ = some (.slice A k cp) := Y5.out.cell 7
          have f7 := Y5.out.frozen 7
          clear ho5 ha5 hb5 C4 G4 X4 Y4 OB4 OI4 S4 AP3 N4
          refine hK _ _ ?_; clear hK K
          try simp only [Act.put, List.setIfInBounds_toArray, List.set_cons_zero, List.set_cons_succ]
          refine wpAny_ready (rs := [6]) (by kernel_rfl) (by simp) ?_
          refine AllReady.cons rfl (fun K hK => ?_) AllReady.nil
          go_simp
          refine hK _ _ ?_; clear hK K
          refine wpAny_ready (rs := [7]) (by kernel_rfl) (by simp) ?_
          refine AllReady.cons rfl (fun K hK => ?_) AllReady.nil
          go_simp
          refine hK _ _ ?_; clear hK K
          refine wpAny_done (by kernel_rfl) ?_ _
          obtain ⟨W6, hW6⟩ : ∃ W, W = w5.setCell ⟨bx, 7, none⟩ (.slice A5 (k + 1) c5) := ⟨_, rfl⟩
          rw [← hW6]
          have BT : Below bx w5 W6 := by rw [hW6]; exact (Below.refl _ _).setCell (by dsimp only; omega) _
          have Y6 : Hid (Blk W6 bx 37 (vxC X (.slice A5 (k + 1) c5))) := Lib.hid (by rw [hW6]; exact Y5.out.set_ 7 _)
          have X6 : Hid (Blk W6 w.heap.size 37 (vxC noX (.slice none 0 0))) := Lib.hid (X5.out.below BT (by omega))
          have OB6 : Hid (ObO W6 (bx + 1) (.slice A5 (k + 1) c5) (k + 1) (os ++ [o]) (ivs ++ [.slice A2 o.ids.length c2])) := Lib.hid (by rw [hW6]; exact OB5.out.far (by dsimp only; omega) _)
          have C6 := Lib.hid (C5.out.belowB BT (by omega))
          have G6 := Lib.hid (G5.out.below_trans (BT.mono (by omega)))
          have S6 : Hid (bx + 1 ≤ W6.heap.size) := Lib.hid Y6.out.lt
          clear hW6 BT z7 f7 C5 G5 X5 Y5 OB5
          go_wp2
          go_roundw
          case rel => exact ⟨k + 1, c5, A5, _, _, s11, by omega, by go_num, HOP2, HOW3, OB6, AP5, X6, Y6, C6, G6, S6⟩
          case measure => (simp [intOf]; try omega)
    · have c1 : ¬ (k : Int) < (m : Int) := by omega
      have HQ : Hid (optsK xs 4 0 [] s7 = (os, s10)) := Lib.hid (by
        rw [HOP.out, show 4 - k = (4 - (k + 1)) + 1 by omega]
        show (if k < belowX xs 4 s9 then _ else _) = _
        rw [← Hm.out, if_neg hlt, ← Hs10.out])
      clear HOP Hm Hs10 hlt
      obtain ⟨N5, hN5⟩ : ∃ N, N = pickDa.getD (belowX xs 5 s10) 0 := ⟨_, rfl⟩
      obtain ⟨s12, hs12⟩ : ∃ s, s = belowN xs 5 s10 := ⟨_, rfl⟩
      have HNR : 0 ≤ N5 ∧ N5 ≤ 120 := by rw [hN5]; exact getD_mem4 (p := fun N => 0 ≤ N ∧ N ≤ 120) (by intro x hx; simp only [pickDa, List.mem_cons, List.not_mem_nil, or_false] at hx; omega) (by omega) _
      have RT : Hid (R = ({ X with ops := os, da := str (textL xs N5.toNat s12).1 }, (textL xs N5.toNat s12).2)) := Lib.hid (by rw [R8.out]; unfold sg8; rw [HQ.out]; unfold sgD; dsimp only; rw [← hN5, ← hs12])
      have HN5 := Lib.hid hN5
      have Hs12 := Lib.hid hs12
      clear hN5 hs12 R8 HQ
      obtain ⟨M, rfl⟩ : ∃ M : Nat, N5 = (M : Int) := ⟨N5.toNat, by omega⟩
      have P5 := Lib.hid (obs_lit w2 3 (#[.int .i64 0, .int .i64 1, .int .i64 5, .int .i64 20, .int .i64 120] : Array Value) 5 w2.heap.size (Nat.le_refl _) rfl (by decide))
      have E5 := Lib.hid ((Below.refl w2.heap.size w2).alloc (Nat.le_refl _) (.cells (#[.int .i64 0, .int .i64 1, .int .i64 5, .int .i64 20, .int .i64 120] : Array Value) 3))
      have L5 : Hid (g < w2.heap.size) := Lib.hid C2.out.lt
      go_wp2_with fail
      refine (pickInt_u v n xs s10 g _ 5 pickDa _ (C2.out.below E5.out) P5.out.rd (by omega) (by omega) (by intro b off k cap hb; simp only [Value.slice.injEq, Option.some.injEq, Addr.mk.injEq] at hb; have := L5.out; omega)).mono ?_
      rw [← HN5.out, ← Hs12.out]
      rintro e w3 ⟨rfl, hc, hg⟩
      have C3 := Lib.hid hc
      have G3 := Lib.hid ((G2.out.trans (Grew.of_below E5.out)).trans hg)
      have X3 := Lib.hid ((X2.out.below E5.out X2.out.lt).grewS hg hne1)
      have Y3 := Lib.hid ((Y2.out.below E5.out Y2.out.lt).grewS hg (by omega))
      have OB3 := Lib.hid ((OB2.out.below E5.out).grew hg (by omega))
      clear hc hg C2 G2 X2 Y2 OB2 P5 E5 L5
      obtain ⟨TX, hTX⟩ : ∃ T, T = str (textL xs M s12).1 := ⟨_, rfl⟩
      have hTL : TX.size ≤ 120 := by rw [hTX, str_size, textL_len]; omega
      obtain ⟨s13, hs13⟩ : ∃ s, s = (textL xs M s12).2 := ⟨_, rfl⟩
      have RU : Hid (R = ({ X with ops := os, da := TX }, s13)) := Lib.hid (by rw [RT.out, Int.toNat_natCast, ← hTX, ← hs13])
      have HTX := Lib.hid hTX
      have Hs13 := Lib.hid hs13
      clear hTX hs13 RT
      go_wp2_with fail
      refine (text_u v n xs s12 g M _ C3.out (by omega)).mono ?_
      rw [← HTX.out, ← Hs13.out]
      rintro e w4 ⟨rfl, hc, hg⟩
      have C4 := Lib.hid hc
      have G4 := Lib.hid (G3.out.trans hg)
      have X4 := Lib.hid (X3.out.grewS hg hne1)
      have Y4 := Lib.hid (Y3.out.grewS hg (by omega))
      have OB4 := Lib.hid (OB3.out.grew hg (by omega))
      clear hc hg C3 G3 X3 Y3 OB3
      have z8 : w4.cell? ⟨bx, 8, none⟩ = some (.string X.da) := Y4.out.cell 8
      have f8 := Y4.out.frozen 8
      go_upto_region 7 with (fail)
      obtain ⟨W5, hW5⟩ : ∃ W, W = w4.setCell ⟨bx, 8, none⟩ (.string TX) := ⟨_, rfl⟩
      rw [← hW5]
      have BT : Below bx w4 W5 := by rw [hW5]; exact (Below.refl _ _).setCell (by dsimp only; omega) _
      obtain ⟨X', hX'⟩ : ∃ X' : SD, X' = { X with ops := os, da := TX } := ⟨_, rfl⟩
      rw [← hX'] at RU
      have Y5 : Hid (Blk W5 bx 37 (vxC X' (.slice A k cp))) := Lib.hid (by rw [hW5, hX']; exact Y4.out.set_ 8 _)
      have X5 : Hid (Blk W5 w.heap.size 37 (vxC noX (.slice none 0 0))) := Lib.hid (X4.out.below BT (by omega))
      have OB5 : Hid (ObO W5 (bx + 1) (.slice A k cp) k os ivs) := Lib.hid (by rw [hW5]; exact OB4.out.far (by dsimp only; omega) _)
      have C5 := Lib.hid (C4.out.belowB BT (by omega))
      have G5 := Lib.hid (G4.out.below_trans (BT.mono (by omega)))
      have HXW' : Hid (X'.wf ∧ X'.ops = os ∧ X'.da.size ≤ 121) := Lib.hid (by
        rw [hX']
        exact ⟨⟨HXW.out.1, (by show TX.size ≤ maxLen; unfold maxLen; omega), fun o ho => (HOW.out o ho).1⟩, rfl, (by show TX.size ≤ 121; omega)⟩)
      clear hW5 BT z8 f8 hX' C4 G4 X4 Y4 OB4
      go_wp2_with (first | (refine wpl_segI rfl (by rfl) (by rfl) (Bx.of_blk Y5.out) ?_) | (refine wpl_store_segM (q := X') (A := A) (n := k) (c := cp) rfl (by rfl) (by rfl) (by rfl) X5.out rfl ?_))
      refine bodyPost_ret (results_seg rfl (by rfl) (Bx.setCells (vs := vxC X' (.slice A k cp)) X5.out rfl)) rfl ?_
      rw [RU.out]
      have BT : Below w.heap.size W5 (W5.setCells w.heap.size 0 (vxC X' (.slice A k cp))) := Below.setCells' (Below.refl _ _) (Nat.le_refl _) _ _
      have hlo := OB5.out.lo
      refine ⟨.slice A k cp, ivs, rfl, ?_, AP.out, C5.out.belowB BT hgl, G5.out.below_trans BT, HXW'.out.1, ?_, ?_, HXW'.out.2.2⟩
      · show ObO _ _ _ X'.ops.length X'.ops ivs
        rw [HXW'.out.2.1, hlo]
        exact ⟨OB5.out.lo, OB5.out.li, (OB5.out.row.farS (by omega) _ _).mono (by omega), fun i p c hp hc => ((OB5.out.ids i p c hp hc).farS (by omega) _ _).mono (by omega)⟩
      · intro o ho
        exact HOW.out o (by rw [← HXW'.out.2.1]; exact ho)
      · show X'.ops.length ≤ 3
        rw [HXW'.out.2.1, hlo]
        omega
end Go.Proofs.Ytkgbkgonlopciaa

namespace Go.Proofs.Ytkgbkgonlopciaa
open Go.RowKit
set_option linter.unusedVariables false
set_option linter.unusedSimpArgs false
def pickFg : List Int := [16, -1]
def pickS3 : List Int := [4294967296, -1]
/-- what is turned in a segment: by the number that was drawn -/
noncomputable def anyS (xs : List Int) (x : SD) (c : Nat) (s : St) : SD × St :=
  if c = 0 then ({ x with fg := pickFg.getD (belowX xs 2 s) 0 }, belowN xs 2 s)
  else if c = 1 then ({ x with da := str (longL 121 97) }, s)
  else if c = 2 then ({ x with ops := x.ops ++ [(anyX xs s).1, (optX xs (anyX xs s).2).1, (optX xs (optX xs (anyX xs s).2).2).1] }, (optX xs (optX xs (anyX xs s).2).2).2)
  else if c = 3 then ({ x with sq := pickS3.getD (belowX xs 2 s) 0 }, belowN xs 2 s)
  else (x, s)
noncomputable def segA (xs : List Int) (st : St) : SD × St := anyS xs (segX xs st).1 (belowX xs 12 (segX xs st).2) (belowN xs 12 (segX xs st).2)
theorem three_cells (q1 q2 q3 : OD) (A1 A2 A3 : Option Addr) (n1 n2 n3 c1 c2 c3 : Nat) : ∀ (u : Value), u ∈ three q1 q2 q3 (.slice A1 n1 c1) (.slice A2 n2 c2) (.slice A3 n3 c3) → u.oneCell' = true := fun u hu => by
  unfold three at hu
  rcases List.mem_append.1 hu with h | h
  · exact voC_cells _ _ _ _ u h
  · rcases List.mem_append.1 h with h | h
    · exact voC_cells _ _ _ _ u h
    · exact voC_cells _ _ _ _ u h
theorem Blk.grown {w w' : World} {g : Nat} {row : Option Nat} {t : TypeId} {cs : List Value} (h : Blk w g t cs) (hg : w.grownBy w' row) (hne : some g ≠ row) : Blk w' g t cs :=
  (hg.block g h.lt hne).trans h
theorem ObO.neSet {w : World} {B n g j : Nat} {v : Value} {os : List OD} {ivs : List Value} (h : ObO w B v n os ivs) (hv : ∀ k, v.ownBlock = some k → k ≠ g) (hvs : ∀ a ∈ ivs, ∀ k, a.ownBlock = some k → k ≠ g) (u : Value) : ObO (w.setCell ⟨g, j, none⟩ u) B v n os ivs :=
  have hg := (Grew.refl w g).set_ j u
  ⟨h.lo, h.li, h.row.grew hg hv, fun k o iv ho hi => (h.ids k o iv ho hi).grew hg (fun q hq => hvs iv (List.mem_of_getElem? hi) q hq)⟩
set_option maxRecDepth 100000 in
set_option maxHeartbeats 12800000 in
theorem segAny_u (v : Value) (n : Nat) (xs : List Int) (st : St) (g : Nat) (w : World) (hc : CurS v n xs w g st) : Calls Try.prog 60 #[.pointer (some ⟨g, 0, none⟩)] w (GivesS 6 v n xs (segA xs st) g w) := by
  have hgl := hc.lt
  obtain ⟨R, hR⟩ : ∃ R, R = segA xs st := ⟨_, rfl⟩
  rw [← hR]
  have HR := Lib.hid hR
  have HC := Lib.hid hc
  clear hR hc
  go_enter Try.func60, Try.ntmps60
  go_upto_region 1 with (fail)
  obtain ⟨W, hW⟩ : ∃ W, W = w.alloc (.cells (vxC noX (.slice none 0 0)).toArray 37) := ⟨_, rfl⟩
  change Code.wp _ _ _ _ (w.alloc (.cells (vxC noX (.slice none 0 0)).toArray 37))
  rw [← hW]
  have E0 := (Below.refl w.heap.size w).alloc (Nat.le_refl _) (.cells (vxC noX (.slice none 0 0)).toArray 37)
  have X0 := Lib.hid (Blk.new w 37 (vxC noX (.slice none 0 0)).toArray)
  rw [← hW] at E0 X0
  have C0 := Lib.hid (HC.out.below E0)
  have G0 : Hid (Grew w W g) := Lib.hid (Grew.of_below E0)
  have S0 : Hid (w.heap.size + 1 ≤ W.heap.size) := Lib.hid X0.out.lt
  clear hW HC E0
  go_wp2_with fail
  refine (seg_u v n xs st g _ C0.out).mono ?_
  rintro e w1 ⟨ov, ivs, rfl, ho, ha, hc, hg, hwf, hid, hn3, hda⟩
  have HRX : Hid (R = anyS xs (segX xs st).1 (belowX xs 12 (segX xs st).2) (belowN xs 12 (segX xs st).2)) := Lib.hid HR.out
  obtain ⟨q, hq⟩ : ∃ q, q = segX xs st := ⟨_, rfl⟩
  rw [← hq] at ho hc hwf hid hn3 hda HRX ⊢
  clear hq HR
  obtain ⟨x, s1⟩ := q
  dsimp only at ho hc hwf hid hn3 hda HRX ⊢
  obtain ⟨k, hk⟩ : ∃ k, k = x.ops.length := ⟨_, rfl⟩
  rw [← hk] at ho hn3
  obtain ⟨A, cp, rfl, _⟩ := ho.rd.shape
  have HKN : Hid (x.ops.length = k) := Lib.hid hk.symm
  have HWF := Lib.hid hwf
  have HID := Lib.hid hid
  have HDA := Lib.hid hda
  have AP := Lib.hid ha
  have O1 := Lib.hid (ho.mono S0.out)
  have C1 := Lib.hid hc
  have G1 := Lib.hid (G0.out.trans hg)
  have X1 := Lib.hid (X0.out.grewS hg hgl)
  have S1 := Lib.hid (Nat.le_trans S0.out hg.size)
  clear ho ha hc hg hwf hid hda hk C0 G0 X0 S0
  go_upto_region 2 with ((refine wpl_store_seg rfl (by rfl) (by rfl) (by rfl) ?_))
  obtain ⟨W3, hW3⟩ : ∃ W, W = w1.alloc (.cells (vxC x (.slice A k cp)).toArray 37) := ⟨_, rfl⟩
  rw [← hW3]
  obtain ⟨bx, hbx⟩ : ∃ b, b = w1.heap.size := ⟨_, rfl⟩
  have E3 := (Below.refl w1.heap.size w1).alloc (Nat.le_refl _) (.cells (vxC x (.slice A k cp)).toArray 37)
  have Y3 := Lib.hid (Blk.new w1 37 (vxC x (.slice A k cp)).toArray)
  rw [← hW3] at E3 Y3
  rw [← hbx] at Y3 ⊢
  have X3 := Lib.hid (X1.out.below E3 X1.out.lt)
  have C3 := Lib.hid (C1.out.below E3)
  have G3 := Lib.hid (G1.out.trans (Grew.of_below E3))
  have OB3 := Lib.hid (O1.out.below E3)
  have HOV : Hid (∀ q, (Value.slice A k cp).ownBlock = some q → q < bx) := Lib.hid (fun q hq => by rw [hbx]; exact (O1.out.row.lt q hq).2)
  have HOS : Hid (∀ a ∈ ivs, ∀ q, a.ownBlock = some q → q < bx) := Lib.hid (by rw [hbx]; exact O1.out.lts)
  have HNE : Hid (w.heap.size + 1 ≤ bx) := Lib.hid (by rw [hbx]; exact S1.out)
  clear hW3 hbx E3 C1 G1 X1 O1 S1
  obtain ⟨c, hcq⟩ : ∃ c, c = belowX xs 12 s1 := ⟨_, rfl⟩
  obtain ⟨s2, hs2⟩ : ∃ s, s = belowN xs 12 s1 := ⟨_, rfl⟩
  rw [← hcq, ← hs2] at HRX
  have HCQ := Lib.hid hcq
  have HS2 := Lib.hid hs2
  clear hcq hs2
  go_wp2_with fail
  refine (below_u v n xs s1 g 12 _ C3.out (by omega) (by omega)).mono ?_
  rw [← HCQ.out, ← HS2.out]
  rintro e w4 ⟨rfl, hc, hg⟩
  have hne := HNE.out
  have C4 := Lib.hid hc
  have G4 := Lib.hid (G3.out.trans hg)
  have X4 := Lib.hid (X3.out.grewS hg hgl)
  have Y4 := Lib.hid (Y3.out.grewS hg (by omega))
  have OB4 := Lib.hid (OB3.out.grew hg (by omega))
  clear hc hg C3 G3 X3 Y3 OB3 HCQ HS2
  by_cases e4 : 4 ≤ c
  · have q0 : ((c : Int) == 0) = false := by simp; omega
    have q1 : ((c : Int) == 1) = false := by simp; omega
    have q2 : ((c : Int) == 2) = false := by simp; omega
    have q3 : ((c : Int) == 3) = false := by simp; omega
    have HE : Hid (R = (x, s2)) := Lib.hid (by rw [HRX.out]; unfold anyS; rw [if_neg (by omega), if_neg (by omega), if_neg (by omega), if_neg (by omega)])
    have HW : Hid (x.wf ∧ (∀ o ∈ x.ops, o.wf ∧ o.ids.length ≤ 8) ∧ x.ops.length ≤ 6 ∧ x.da.size ≤ 121) := Lib.hid ⟨HWF.out, HID.out, by rw [HKN.out]; omega, HDA.out⟩
    have HK := HKN
    have AP4 := AP
    clear e4
    go_wp2_with (first | (refine wpl_segI (q := x) rfl (by rfl) (by rfl) (Bx.of_blk Y4.out) ?_) | (refine wpl_store_segM (q := x) (A := A) (n := k) (c := cp) rfl (by rfl) (by rfl) (by rfl) X4.out rfl ?_))
    refine bodyPost_ret (results_seg rfl (by rfl) (Bx.setCells (vs := vxC x (.slice A k cp)) X4.out rfl)) rfl ?_
    rw [HE.out]
    have BT : Below w.heap.size w4 (w4.setCells w.heap.size 0 (vxC x (.slice A k cp))) := Below.setCells' (Below.refl _ _) (Nat.le_refl _) _ _
    refine ⟨.slice A k cp, ivs, rfl, ?_, AP4.out, C4.out.belowB BT hgl, G4.out.below_trans BT, HW.out.1, HW.out.2.1, HW.out.2.2.1, HW.out.2.2.2⟩
    have ob := OB4.out
    show ObO _ _ _ (x).ops.length (x).ops _
    rw [show (x).ops.length = k from HK.out]
    exact ⟨ob.lo, ob.li, (ob.row.farS (by omega) _ _).mono (by omega), fun i p c hp hc => ((ob.ids i p c hp hc).farS (by omega) _ _).mono (by omega)⟩
  by_cases e0 : c = 0
  · have q0 : ((c : Int) == 0) = true := by simp; omega
    have q1 : ((c : Int) == 1) = false := by simp; omega
    have q2 : ((c : Int) == 2) = false := by simp; omega
    have q3 : ((c : Int) == 3) = false := by simp; omega
    have HE : Hid (R = ({ x with fg := pickFg.getD (belowX xs 2 s2) 0 }, belowN xs 2 s2)) := Lib.hid (by rw [HRX.out]; unfold anyS;  rw [if_pos e0])
    clear e0
    obtain ⟨N, hN⟩ : ∃ N, N = pickFg.getD (belowX xs 2 s2) 0 := ⟨_, rfl⟩
    obtain ⟨s3, hs3⟩ : ∃ s, s = belowN xs 2 s2 := ⟨_, rfl⟩
    rw [← hN, ← hs3] at HE
    have HN := Lib.hid hN
    have HS3 := Lib.hid hs3
    clear hN hs3
    have P5 := Lib.hid (obs_lit w4 3 (#[.int .i64 (16), .int .i64 (-1)] : Array Value) 2 w4.heap.size (Nat.le_refl _) rfl (by decide))
    have E5 := Lib.hid ((Below.refl w4.heap.size w4).alloc (Nat.le_refl _) (.cells (#[.int .i64 (16), .int .i64 (-1)] : Array Value) 3))
    have L5 : Hid (g < w4.heap.size) := Lib.hid C4.out.lt
    go_wp2_with fail
    refine (pickInt_u v n xs s2 g _ 2 pickFg _ (C4.out.below E5.out) P5.out.rd (by omega) (by omega) (by intro b off k cap hb; simp only [Value.slice.injEq, Option.some.injEq, Addr.mk.injEq] at hb; have := L5.out; omega)).mono ?_
    rw [← HN.out, ← HS3.out]
    rintro e w5 ⟨rfl, hc, hg⟩
    have X5 := Lib.hid ((X4.out.below E5.out X4.out.lt).grewS hg hgl)
    have Y5 := Lib.hid ((Y4.out.below E5.out Y4.out.lt).grewS hg (by omega))
    have OB5 := Lib.hid ((OB4.out.below E5.out).grew hg (by omega))
    have G5 := Lib.hid ((G4.out.trans (Grew.of_below E5.out)).trans hg)
    have C5 := Lib.hid hc
    clear hc hg C4 G4 X4 Y4 OB4 P5 E5 L5
    have HNR : Hid (i64R N) := Lib.hid (by rw [HN.out]; exact getD_mem4 (p := i64R) (by intro x hx; simp only [pickFg, List.mem_cons, List.not_mem_nil, or_false] at hx; unfold i64R; omega) (by unfold i64R; omega) _)
    obtain ⟨x', hx'⟩ : ∃ x' : SD, x' = { x with fg := N } := ⟨_, rfl⟩
    rw [← hx'] at HE
    have z0 : w5.cell? ⟨bx, 6, none⟩ = some (.int .i64 x.fg) := Y5.out.cell 6
    have f0 := Y5.out.frozen 6
    go_upto_region 11 with (fail)
    obtain ⟨W5, hW5⟩ : ∃ W, W = w5.setCell ⟨bx, 6, none⟩ (.int .i64 N) := ⟨_, rfl⟩
    rw [← hW5]
    have BT5 : Below bx w5 W5 := by rw [hW5]; exact (Below.refl _ _).setCell (by dsimp only; omega) _
    have Y9 : Hid (Blk W5 bx 37 (vxC x' (.slice A k cp))) := Lib.hid (by rw [hW5, hx']; exact Y5.out.set_ 6 _)
    have X9 : Hid (Blk W5 w.heap.size 37 (vxC noX (.slice none 0 0))) := Lib.hid (X5.out.below BT5 (by omega))
    have C9 := Lib.hid (C5.out.belowB BT5 (by omega))
    have G9 := Lib.hid (G5.out.below_trans (BT5.mono (by omega)))
    have OB9 : Hid (ObO W5 (w.heap.size + 1) (.slice A k cp) k x'.ops ivs) := Lib.hid (by rw [hx', hW5]; exact OB5.out.neSet (fun q hq => Nat.ne_of_lt (HOV.out q hq)) (fun a ha q hq => Nat.ne_of_lt (HOS.out a ha q hq)) _)
    have HW : Hid (x'.wf ∧ (∀ o ∈ x'.ops, o.wf ∧ o.ids.length ≤ 8) ∧ x'.ops.length ≤ 6 ∧ x'.da.size ≤ 121) := Lib.hid (by rw [hx']; exact (let h := HWF.out; ⟨⟨⟨h.1.1, h.1.2.1, h.1.2.2.1, h.1.2.2.2.1, h.1.2.2.2.2.1, h.1.2.2.2.2.2.1, HNR.out⟩, h.2⟩, HID.out, (by show x.ops.length ≤ 6; rw [HKN.out]; omega), HDA.out⟩))
    have HK : Hid (x'.ops.length = k) := Lib.hid (by rw [hx']; exact HKN.out)
    have AP9 := AP
    clear hW5 hx' z0 f0 BT5
    go_wp2_with (first | (refine wpl_segI (q := x') rfl (by rfl) (by rfl) (Bx.of_blk Y9.out) ?_) | (refine wpl_store_segM (q := x') (A := A) (n := k) (c := cp) rfl (by rfl) (by rfl) (by rfl) X9.out rfl ?_))
    refine bodyPost_ret (results_seg rfl (by rfl) (Bx.setCells (vs := vxC x' (.slice A k cp)) X9.out rfl)) rfl ?_
    rw [HE.out]
    have BT : Below w.heap.size W5 (W5.setCells w.heap.size 0 (vxC x' (.slice A k cp))) := Below.setCells' (Below.refl _ _) (Nat.le_refl _) _ _
    refine ⟨.slice A k cp, ivs, rfl, ?_, AP9.out, C9.out.belowB BT hgl, G9.out.below_trans BT, HW.out.1, HW.out.2.1, HW.out.2.2.1, HW.out.2.2.2⟩
    have ob := OB9.out
    show ObO _ _ _ (x').ops.length (x').ops _
    rw [show (x').ops.length = k from HK.out]
    exact ⟨ob.lo, ob.li, (ob.row.farS (by omega) _ _).mono (by omega), fun i p c hp hc => ((ob.ids i p c hp hc).farS (by omega) _ _).mono (by omega)⟩
  by_cases e3 : c = 3
  · have q0 : ((c : Int) == 0) = false := by simp; omega
    have q1 : ((c : Int) == 1) = false := by simp; omega
    have q2 : ((c : Int) == 2) = false := by simp; omega
    have q3 : ((c : Int) == 3) = true := by simp; omega
    have HE : Hid (R = ({ x with sq := pickS3.getD (belowX xs 2 s2) 0 }, belowN xs 2 s2)) := Lib.hid (by rw [HRX.out]; unfold anyS; rw [if_neg (by omega)]; rw [if_neg (by omega)]; rw [if_neg (by omega)]; rw [if_pos e3])
    clear e3
    obtain ⟨N, hN⟩ : ∃ N, N = pickS3.getD (belowX xs 2 s2) 0 := ⟨_, rfl⟩
    obtain ⟨s3, hs3⟩ : ∃ s, s = belowN xs 2 s2 := ⟨_, rfl⟩
    rw [← hN, ← hs3] at HE
    have HN := Lib.hid hN
    have HS3 := Lib.hid hs3
    clear hN hs3
    have P5 := Lib.hid (obs_lit w4 3 (#[.int .i64 (4294967296), .int .i64 (-1)] : Array Value) 2 w4.heap.size (Nat.le_refl _) rfl (by decide))
    have E5 := Lib.hid ((Below.refl w4.heap.size w4).alloc (Nat.le_refl _) (.cells (#[.int .i64 (4294967296), .int .i64 (-1)] : Array Value) 3))
    have L5 : Hid (g < w4.heap.size) := Lib.hid C4.out.lt
    go_wp2_with fail
    refine (pickInt_u v n xs s2 g _ 2 pickS3 _ (C4.out.below E5.out) P5.out.rd (by omega) (by omega) (by intro b off k cap hb; simp only [Value.slice.injEq, Option.some.injEq, Addr.mk.injEq] at hb; have := L5.out; omega)).mono ?_
    rw [← HN.out, ← HS3.out]
    rintro e w5 ⟨rfl, hc, hg⟩
    have X5 := Lib.hid ((X4.out.below E5.out X4.out.lt).grewS hg hgl)
    have Y5 := Lib.hid ((Y4.out.below E5.out Y4.out.lt).grewS hg (by omega))
    have OB5 := Lib.hid ((OB4.out.below E5.out).grew hg (by omega))
    have G5 := Lib.hid ((G4.out.trans (Grew.of_below E5.out)).trans hg)
    have C5 := Lib.hid hc
    clear hc hg C4 G4 X4 Y4 OB4 P5 E5 L5
    have HNR : Hid (i64R N) := Lib.hid (by rw [HN.out]; exact getD_mem4 (p := i64R) (by intro x hx; simp only [pickS3, List.mem_cons, List.not_mem_nil, or_false] at hx; unfold i64R; omega) (by unfold i64R; omega) _)
    obtain ⟨x', hx'⟩ : ∃ x' : SD, x' = { x with sq := N } := ⟨_, rfl⟩
    rw [← hx'] at HE
    have z0 : w5.cell? ⟨bx, 4, none⟩ = some (.int .i64 x.sq) := Y5.out.cell 4
    have f0 := Y5.out.frozen 4
    go_upto_region 11 with (fail)
    obtain ⟨W5, hW5⟩ : ∃ W, W = w5.setCell ⟨bx, 4, none⟩ (.int .i64 N) := ⟨_, rfl⟩
    rw [← hW5]
    have BT5 : Below bx w5 W5 := by rw [hW5]; exact (Below.refl _ _).setCell (by dsimp only; omega) _
    have Y9 : Hid (Blk W5 bx 37 (vxC x' (.slice A k cp))) := Lib.hid (by rw [hW5, hx']; exact Y5.out.set_ 4 _)
    have X9 : Hid (Blk W5 w.heap.size 37 (vxC noX (.slice none 0 0))) := Lib.hid (X5.out.below BT5 (by omega))
    have C9 := Lib.hid (C5.out.belowB BT5 (by omega))
    have G9 := Lib.hid (G5.out.below_trans (BT5.mono (by omega)))
    have OB9 : Hid (ObO W5 (w.heap.size + 1) (.slice A k cp) k x'.ops ivs) := Lib.hid (by rw [hx', hW5]; exact OB5.out.neSet (fun q hq => Nat.ne_of_lt (HOV.out q hq)) (fun a ha q hq => Nat.ne_of_lt (HOS.out a ha q hq)) _)
    have HW : Hid (x'.wf ∧ (∀ o ∈ x'.ops, o.wf ∧ o.ids.length ≤ 8) ∧ x'.ops.length ≤ 6 ∧ x'.da.size ≤ 121) := Lib.hid (by rw [hx']; exact (let h := HWF.out; ⟨⟨⟨h.1.1, h.1.2.1, h.1.2.2.1, h.1.2.2.2.1, HNR.out, h.1.2.2.2.2.2⟩, h.2⟩, HID.out, (by show x.ops.length ≤ 6; rw [HKN.out]; omega), HDA.out⟩))
    have HK : Hid (x'.ops.length = k) := Lib.hid (by rw [hx']; exact HKN.out)
    have AP9 := AP
    clear hW5 hx' z0 f0 BT5
    go_wp2_with (first | (refine wpl_segI (q := x') rfl (by rfl) (by rfl) (Bx.of_blk Y9.out) ?_) | (refine wpl_store_segM (q := x') (A := A) (n := k) (c := cp) rfl (by rfl) (by rfl) (by rfl) X9.out rfl ?_))
    refine bodyPost_ret (results_seg rfl (by rfl) (Bx.setCells (vs := vxC x' (.slice A k cp)) X9.out rfl)) rfl ?_
    rw [HE.out]
    have BT : Below w.heap.size W5 (W5.setCells w.heap.size 0 (vxC x' (.slice A k cp))) := Below.setCells' (Below.refl _ _) (Nat.le_refl _) _ _
    refine ⟨.slice A k cp, ivs, rfl, ?_, AP9.out, C9.out.belowB BT hgl, G9.out.below_trans BT, HW.out.1, HW.out.2.1, HW.out.2.2.1, HW.out.2.2.2⟩
    have ob := OB9.out
    show ObO _ _ _ (x').ops.length (x').ops _
    rw [show (x').ops.length = k from HK.out]
    exact ⟨ob.lo, ob.li, (ob.row.farS (by omega) _ _).mono (by omega), fun i p c hp hc => ((ob.ids i p c hp hc).farS (by omega) _ _).mono (by omega)⟩
  by_cases e1 : c = 1
  · have q0 : ((c : Int) == 0) = false := by simp; omega
    have q1 : ((c : Int) == 1) = true := by simp; omega
    have q2 : ((c : Int) == 2) = false := by simp; omega
    have q3 : ((c : Int) == 3) = false := by simp; omega
    obtain ⟨TX, hTX⟩ : ∃ T, T = str (longL 121 97) := ⟨_, rfl⟩
    have hTL : TX.size = 121 := by rw [hTX, str_size]; unfold longL; rw [List.length_replicate]
    have HE : Hid (R = ({ x with da := TX }, s2)) := Lib.hid (by rw [HRX.out, hTX]; unfold anyS; rw [if_neg (by omega)]; rw [if_pos e1])
    have HTX := Lib.hid hTX
    have HTL := Lib.hid hTL
    clear e1 hTX hTL
    go_wp2_with fail
    refine (long_s 121 97 _ (by omega) (by omega)).mono ?_
    rw [← HTX.out]
    rintro e w5 ⟨rfl, hb⟩
    have X5 := Lib.hid (X4.out.below hb X4.out.lt)
    have Y5 := Lib.hid (Y4.out.below hb Y4.out.lt)
    have OB5 := Lib.hid (OB4.out.below hb)
    have G5 := Lib.hid (G4.out.trans (Grew.of_below hb))
    have C5 := Lib.hid (C4.out.below hb)
    clear hb C4 G4 X4 Y4 OB4
    obtain ⟨x', hx'⟩ : ∃ x' : SD, x' = { x with da := TX } := ⟨_, rfl⟩
    rw [← hx'] at HE
    have z0 : w5.cell? ⟨bx, 8, none⟩ = some (.string x.da) := Y5.out.cell 8
    have f0 := Y5.out.frozen 8
    go_upto_region 11 with (fail)
    obtain ⟨W5, hW5⟩ : ∃ W, W = w5.setCell ⟨bx, 8, none⟩ (.string TX) := ⟨_, rfl⟩
    rw [← hW5]
    have BT5 : Below bx w5 W5 := by rw [hW5]; exact (Below.refl _ _).setCell (by dsimp only; omega) _
    have Y9 : Hid (Blk W5 bx 37 (vxC x' (.slice A k cp))) := Lib.hid (by rw [hW5, hx']; exact Y5.out.set_ 8 _)
    have X9 : Hid (Blk W5 w.heap.size 37 (vxC noX (.slice none 0 0))) := Lib.hid (X5.out.below BT5 (by omega))
    have C9 := Lib.hid (C5.out.belowB BT5 (by omega))
    have G9 := Lib.hid (G5.out.below_trans (BT5.mono (by omega)))
    have OB9 : Hid (ObO W5 (w.heap.size + 1) (.slice A k cp) k x'.ops ivs) := Lib.hid (by rw [hx', hW5]; exact OB5.out.neSet (fun q hq => Nat.ne_of_lt (HOV.out q hq)) (fun a ha q hq => Nat.ne_of_lt (HOS.out a ha q hq)) _)
    have HW : Hid (x'.wf ∧ (∀ o ∈ x'.ops, o.wf ∧ o.ids.length ≤ 8) ∧ x'.ops.length ≤ 6 ∧ x'.da.size ≤ 121) := Lib.hid (by rw [hx']; exact ⟨⟨HWF.out.1, (by show TX.size ≤ maxLen; rw [HTL.out]; unfold maxLen; omega), HWF.out.2.2⟩, HID.out, (by show x.ops.length ≤ 6; rw [HKN.out]; omega), (by show TX.size ≤ 121; rw [HTL.out]; omega)⟩)
    have HK : Hid (x'.ops.length = k) := Lib.hid (by rw [hx']; exact HKN.out)
    have AP9 := AP
    clear hW5 hx' z0 f0 BT5
    go_wp2_with (first | (refine wpl_segI (q := x') rfl (by rfl) (by rfl) (Bx.of_blk Y9.out) ?_) | (refine wpl_store_segM (q := x') (A := A) (n := k) (c := cp) rfl (by rfl) (by rfl) (by rfl) X9.out rfl ?_))
    refine bodyPost_ret (results_seg rfl (by rfl) (Bx.setCells (vs := vxC x' (.slice A k cp)) X9.out rfl)) rfl ?_
    rw [HE.out]
    have BT : Below w.heap.size W5 (W5.setCells w.heap.size 0 (vxC x' (.slice A k cp))) := Below.setCells' (Below.refl _ _) (Nat.le_refl _) _ _
    refine ⟨.slice A k cp, ivs, rfl, ?_, AP9.out, C9.out.belowB BT hgl, G9.out.below_trans BT, HW.out.1, HW.out.2.1, HW.out.2.2.1, HW.out.2.2.2⟩
    have ob := OB9.out
    show ObO _ _ _ (x').ops.length (x').ops _
    rw [show (x').ops.length = k from HK.out]
    exact ⟨ob.lo, ob.li, (ob.row.farS (by omega) _ _).mono (by omega), fun i p c hp hc => ((ob.ids i p c hp hc).farS (by omega) _ _).mono (by omega)⟩
  by_cases e2 : c = 2
  · have q0 : ((c : Int) == 0) = false := by simp; omega
    have q1 : ((c : Int) == 1) = false := by simp; omega
    have q2 : ((c : Int) == 2) = true := by simp; omega
    have q3 : ((c : Int) == 3) = false := by simp; omega
    have HE : Hid (R = ({ x with ops := x.ops ++ [(anyX xs s2).1, (optX xs (anyX xs s2).2).1, (optX xs (optX xs (anyX xs s2).2).2).1] }, (optX xs (optX xs (anyX xs s2).2).2).2)) := Lib.hid (by rw [HRX.out]; unfold anyS; rw [if_neg (by omega)]; rw [if_neg (by omega)]; rw [if_pos e2])
    clear e2
    go_upto_region 8 with (fail)
    refine wp_region_any (by kernel_rfl) ?_
    change wpAny _ _ _ _ _ _ _ (World.drew w4)
    obtain ⟨v0, hv0⟩ : ∃ v, v = World.drew w4 := ⟨_, rfl⟩
    rw [← hv0]
    have BD : Below w4.heap.size w4 v0 := by rw [hv0]; exact (Below.refl w4.heap.size w4).drew
    have C0x := Lib.hid (C4.out.below BD)
    have G0x := Lib.hid (G4.out.trans (Grew.of_below BD))
    have X0x := Lib.hid (X4.out.below BD X4.out.lt)
    have Y0x := Lib.hid (Y4.out.below BD Y4.out.lt)
    have OB0x := Lib.hid (OB4.out.below BD)
    have AP0x := AP
    clear hv0 BD C4 G4 X4 Y4 OB4
    refine wpAny_take (i := 0) (v := ?_) rfl (by kernel_rfl) (by kernel_rfl) (by kernel_rfl) (fun _ _ _ h => h) (Or.inl ⟨by rfl, ?_⟩) ?_
    rotate_left
    · (intro w; go_simp; try (with_reducible rfl))
    refine wpAny_take (i := 2) (v := ?_) rfl (by kernel_rfl) (by kernel_rfl) (by kernel_rfl) (fun _ _ _ h => h) (Or.inl ⟨by rfl, ?_⟩) ?_
    rotate_left
    · (intro w; go_simp; try (with_reducible rfl))
    refine wpAny_take (i := 4) (v := ?_) rfl (by kernel_rfl) (by kernel_rfl) (by kernel_rfl) (fun _ _ _ h => h) (Or.inl ⟨by rfl, ?_⟩) ?_
    rotate_left
    · (intro w; go_simp; try (with_reducible rfl))
    refine wpAny_take (i := 6) (v := ?_) rfl (by kernel_rfl) (by kernel_rfl) (by kernel_rfl) (fun _ _ _ h => h) (Or.inl ⟨by rfl, ?_⟩) ?_
    rotate_left
    · (intro w; go_simp; try (with_reducible rfl))
    have y7 : v0.cell? ⟨bx, 7, none⟩ = some (.slice A k cp) := Y0x.out.cell 7
    refine wpAny_ready (rs := [1, 3]) (by kernel_rfl) (by simp) ?_
    refine AllReady.cons rfl (fun K hK => ?_) (AllReady.cons rfl (fun K hK => ?_) AllReady.nil)
    · go_simp
      refine hK _ _ ?_; clear hK K
      clear y7
      refine wpAny_ready (rs := [3]) (by kernel_rfl) (by simp) ?_
      refine AllReady.cons rfl (fun K hK => ?_) AllReady.nil
      go_simp
      go_at_call 84
      refine (any_u v n xs s2 g _ C0x.out).mono ?_
      rintro e v1 ⟨iv, rfl, ho, hc, hg, hwf, hid⟩
      obtain ⟨q, hq⟩ : ∃ q, q = anyX xs s2 := ⟨_, rfl⟩
      rw [← hq] at ho hc hwf hid HE ⊢
      clear hq
      obtain ⟨o1, t1⟩ := q
      dsimp only at ho hc hwf hid HE ⊢
      obtain ⟨A1, c1, rfl⟩ := ho.shape
      have C1x := Lib.hid hc
      have G1x := Lib.hid (G0x.out.trans hg)
      have X1x := Lib.hid (X0x.out.grewS hg hgl)
      have Y1x := Lib.hid (Y0x.out.grewS hg (by omega))
      have OB1x := Lib.hid (OB0x.out.grew hg (by omega))
      have P1x : Hid (Obs v1 (w.heap.size + 1) 1 (.slice A1 o1.ids.length c1) o1.ids.length (o1.ids.map vn)) := Lib.hid (by
        have h0 := ho.mono (show w.heap.size + 1 ≤ v0.heap.size by have := Y0x.out.lt; omega)
        exact h0)
      have AP1x : Hid (Apt (.slice A k cp) (ivs ++ [.slice A1 o1.ids.length c1])) := Lib.hid (AP0x.out.snoc1 (m := v0.heap.size) (fun g hg => (OB0x.out.row.lt g hg).2) (by exact OB0x.out.lts) (fun g hg => (ho.lt g hg).1))
      have HB1x : Hid (∀ q, (Value.slice A1 o1.ids.length c1).ownBlock = some q → bx < q) := Lib.hid (fun q hq => by have := (ho.lt q hq).1; have := Y0x.out.lt; omega)
      have HV1x : Hid ((o1.wf ∧ o1.ids.length ≤ 8)) := Lib.hid ⟨hwf, hid⟩
      clear ho hc hg hwf hid C0x G0x X0x Y0x OB0x AP0x
      refine hK _ _ ?_; clear hK K
      refine wpAny_ready (rs := [5]) (by kernel_rfl) (by simp) ?_
      refine AllReady.cons rfl (fun K hK => ?_) AllReady.nil
      go_simp
      go_at_call 94
      refine (opt_u v n xs t1 g _ C1x.out).mono ?_
      rintro e v2 ⟨iv, rfl, ho, hc, hg, hwf, hid⟩
      obtain ⟨q, hq⟩ : ∃ q, q = optX xs t1 := ⟨_, rfl⟩
      rw [← hq] at ho hc hwf hid HE ⊢
      clear hq
      obtain ⟨o2, t2⟩ := q
      dsimp only at ho hc hwf hid HE ⊢
      obtain ⟨A2, c2, rfl⟩ := ho.shape
      have C2x := Lib.hid hc
      have G2x := Lib.hid (G1x.out.trans hg)
      have X2x := Lib.hid (X1x.out.grewS hg hgl)
      have Y2x := Lib.hid (Y1x.out.grewS hg (by omega))
      have OB2x := Lib.hid (OB1x.out.grew hg (by omega))
      have P2x : Hid (Obs v2 (w.heap.size + 1) 1 (.slice A1 o1.ids.length c1) o1.ids.length (o1.ids.map vn) ∧ Obs v2 (w.heap.size + 1) 1 (.slice A2 o2.ids.length c2) o2.ids.length (o2.ids.map vn)) := Lib.hid (by
        have h0 := ho.mono (show w.heap.size + 1 ≤ v1.heap.size by have := Y1x.out.lt; omega)
        exact ⟨(P1x.out).grew hg (fun q hq => by have := ((P1x.out).lt q hq).1; omega), h0⟩)
      have AP2x : Hid (Apt (.slice A k cp) ((ivs ++ [.slice A1 o1.ids.length c1]) ++ [.slice A2 o2.ids.length c2])) := Lib.hid (AP1x.out.snoc1 (m := v1.heap.size) (fun g hg => (OB1x.out.row.lt g hg).2) (by intro a ha g hg; simp only [List.mem_append, List.mem_singleton] at ha; rcases ha with ha | rfl; exact OB1x.out.lts a ha g hg; exact ((P1x.out).lt g hg).2) (fun g hg => (ho.lt g hg).1))
      have HB2x : Hid (∀ q, (Value.slice A2 o2.ids.length c2).ownBlock = some q → bx < q) := Lib.hid (fun q hq => by have := (ho.lt q hq).1; have := Y1x.out.lt; omega)
      have HV2x : Hid ((o2.wf ∧ o2.ids.length ≤ 8)) := Lib.hid ⟨hwf, hid⟩
      clear ho hc hg hwf hid C1x G1x X1x Y1x OB1x AP1x P1x
      refine hK _ _ ?_; clear hK K
      refine wpAny_ready (rs := [7]) (by kernel_rfl) (by simp) ?_
      refine AllReady.cons rfl (fun K hK => ?_) AllReady.nil
      go_simp
      go_at_call 94
      refine (opt_u v n xs t2 g _ C2x.out).mono ?_
      rintro e v3 ⟨iv, rfl, ho, hc, hg, hwf, hid⟩
      obtain ⟨q, hq⟩ : ∃ q, q = optX xs t2 := ⟨_, rfl⟩
      rw [← hq] at ho hc hwf hid HE ⊢
      clear hq
      obtain ⟨o3, t3⟩ := q
      dsimp only at ho hc hwf hid HE ⊢
      obtain ⟨A3, c3, rfl⟩ := ho.shape
      have C3x := Lib.hid hc
      have G3x := Lib.hid (G2x.out.trans hg)
      have X3x := Lib.hid (X2x.out.grewS hg hgl)
      have Y3x := Lib.hid (Y2x.out.grewS hg (by omega))
      have OB3x := Lib.hid (OB2x.out.grew hg (by omega))
      have P3x : Hid (Obs v3 (w.heap.size + 1) 1 (.slice A1 o1.ids.length c1) o1.ids.length (o1.ids.map vn) ∧ Obs v3 (w.heap.size + 1) 1 (.slice A2 o2.ids.length c2) o2.ids.length (o2.ids.map vn) ∧ Obs v3 (w.heap.size + 1) 1 (.slice A3 o3.ids.length c3) o3.ids.length (o3.ids.map vn)) := Lib.hid (by
        have h0 := ho.mono (show w.heap.size + 1 ≤ v2.heap.size by have := Y2x.out.lt; omega)
        exact ⟨(P2x.out.1).grew hg (fun q hq => by have := ((P2x.out.1).lt q hq).1; omega), (P2x.out.2).grew hg (fun q hq => by have := ((P2x.out.2).lt q hq).1; omega), h0⟩)
      have AP3x : Hid (Apt (.slice A k cp) ((ivs ++ [.slice A1 o1.ids.length c1] ++ [.slice A2 o2.ids.length c2]) ++ [.slice A3 o3.ids.length c3])) := Lib.hid (AP2x.out.snoc1 (m := v2.heap.size) (fun g hg => (OB2x.out.row.lt g hg).2) (by intro a ha g hg; simp only [List.mem_append, List.mem_singleton] at ha; rcases ha with (ha | rfl) | rfl; exact OB2x.out.lts a ha g hg; exact ((P2x.out.1).lt g hg).2; exact ((P2x.out.2).lt g hg).2) (fun g hg => (ho.lt g hg).1))
      have HB3x : Hid (∀ q, (Value.slice A3 o3.ids.length c3).ownBlock = some q → bx < q) := Lib.hid (fun q hq => by have := (ho.lt q hq).1; have := Y2x.out.lt; omega)
      have HV3x : Hid ((o3.wf ∧ o3.ids.length ≤ 8)) := Lib.hid ⟨hwf, hid⟩
      clear ho hc hg hwf hid C2x G2x X2x Y2x OB2x AP2x P2x
      refine hK _ _ ?_; clear hK K
      refine wpAny_ready (rs := [8]) (by kernel_rfl) (by simp) ?_
      refine AllReady.cons (o := ⟨some 28, _, _, _, _, _⟩) rfl (fun K hK => ?_) AllReady.nil
      refine step_build3 rfl rfl (by rfl) (by rfl) (by rfl) ?_
      refine hK _ _ ?_; clear hK K
      obtain ⟨W4, hW4⟩ : ∃ W, W = v3.alloc (.cells (three o1 o2 o3 (.slice A1 o1.ids.length c1) (.slice A2 o2.ids.length c2) (.slice A3 o3.ids.length c3)).toArray 27) := ⟨_, rfl⟩
      rw [← hW4]
      obtain ⟨b4, hb4⟩ : ∃ b, b = v3.heap.size := ⟨_, rfl⟩
      have E4 := Lib.hid ((Below.refl v3.heap.size v3).alloc (Nat.le_refl _) (.cells (three o1 o2 o3 (.slice A1 o1.ids.length c1) (.slice A2 o2.ids.length c2) (.slice A3 o3.ids.length c3)).toArray 27))
      have N4 := Lib.hid (Bx.new v3 (three o1 o2 o3 (.slice A1 o1.ids.length c1) (.slice A2 o2.ids.length c2) (.slice A3 o3.ids.length c3)).toArray 27)
      rw [← hW4] at E4 N4
      rw [← hb4] at N4 ⊢
      have C4x := Lib.hid (C3x.out.below E4.out)
      have G4x := Lib.hid (G3x.out.trans (Grew.of_below E4.out))
      have X4x := Lib.hid (X3x.out.below E4.out X3x.out.lt)
      have Y4x := Lib.hid (Y3x.out.below E4.out Y3x.out.lt)
      have OB4x := Lib.hid (OB3x.out.below E4.out)
      have P4x : Hid (Obs W4 (w.heap.size + 1) 1 (.slice A1 o1.ids.length c1) o1.ids.length (o1.ids.map vn) ∧ Obs W4 (w.heap.size + 1) 1 (.slice A2 o2.ids.length c2) o2.ids.length (o2.ids.map vn) ∧ Obs W4 (w.heap.size + 1) 1 (.slice A3 o3.ids.length c3) o3.ids.length (o3.ids.map vn)) := Lib.hid ⟨P3x.out.1.below E4.out, P3x.out.2.1.below E4.out, P3x.out.2.2.below E4.out⟩
      have HBX : Hid (bx < W4.heap.size) := Lib.hid Y4x.out.lt
      clear hW4 hb4 E4 C3x G3x X3x Y3x OB3x P3x
      try simp only [Act.put, List.setIfInBounds_toArray, List.set_cons_zero, List.set_cons_succ]
      refine wpAny_ready (rs := [9]) (by kernel_rfl) (by simp) ?_
      refine AllReady.cons (o := ⟨some 29, _, _, _, _, _⟩) rfl (fun K hK => ?_) AllReady.nil
      refine step_append_opts rfl _ _ rfl (w.heap.size + 1) (.slice A k cp) k x.ops ivs (by rfl) OB4x.out 3 [o1, o2, o3] [.slice A1 o1.ids.length c1, .slice A2 o2.ids.length c2, .slice A3 o3.ids.length c3] rfl rfl b4 (by rfl) (by rw [flatO_three]; exact N4.out) (by rw [flatO_three]; exact three_cells _ _ _ _ _ _ _ _ _ _ _ _) (fun k' q iv hq hi => by
        match k', hq, hi with
        | 0, hq, hi => simp only [List.getElem?_cons_zero, Option.some.injEq] at hq hi; subst hq; subst hi; exact P4x.out.1
        | 1, hq, hi => simp only [List.getElem?_cons_zero, List.getElem?_cons_succ, Option.some.injEq] at hq hi; subst hq; subst hi; exact P4x.out.2.1
        | 2, hq, hi => simp only [List.getElem?_cons_zero, List.getElem?_cons_succ, Option.some.injEq] at hq hi; subst hq; subst hi; exact P4x.out.2.2
        | k' + 3, hq, hi => simp at hq) (by have := AP3x.out; rw [List.append_assoc, List.append_assoc] at this; exact this) (by omega) (by have := Y4x.out.lt; omega) ?_
      intro v5 w5 ho5 ha5 hb5 hg5 hown5
      obtain ⟨A5, c5, rfl, _⟩ := ho5.rd.shape
      have OB5 := Lib.hid ho5
      have AP5 := Lib.hid ha5
      have X5 := Lib.hid (X4x.out.below hb5 (by omega))
      have Y5 := Lib.hid (Y4x.out.grown hg5 (fun e => by have := HOV.out bx e.symm; omega))
      have C5 := Lib.hid (C4x.out.belowB hb5 (by omega))
      have G5 := Lib.hid (G4x.out.below_trans (hb5.mono (by omega)))
      have HNV : Hid (∀ q, (Value.slice A5 (k + 3) c5).ownBlock = some q → q ≠ bx) := Lib.hid (fun q hq => by
        rcases hown5 with h | h
        · exact Nat.ne_of_lt (HOV.out q (by rw [← h]; exact hq))
        · have := h q hq; have := HBX.out; omega)
      have HNS : Hid (∀ a ∈ ivs ++ [.slice A1 o1.ids.length c1, .slice A2 o2.ids.length c2, .slice A3 o3.ids.length c3], ∀ q, a.ownBlock = some q → q ≠ bx) := Lib.hid (fun a ha q hq => by
        rcases List.mem_append.1 ha with h | h
        · exact Nat.ne_of_lt (HOS.out a h q hq)
        · simp only [List.mem_cons, List.not_mem_nil, or_false] at h
          rcases h with rfl | rfl | rfl
          · exact Nat.ne_of_gt (HB1x.out q hq)
          · exact Nat.ne_of_gt (HB2x.out q hq)
          · exact Nat.ne_of_gt (HB3x.out q hq))
      have z7 : w5.cell? ⟨bx, 7, none⟩ = some (.slice A k cp) := Y5.out.cell 7
      have f7 := Y5.out.frozen 7
      clear ho5 ha5 hb5 hg5 hown5 C4x G4x X4x Y4x OB4x P4x AP3x N4
      refine hK _ _ ?_; clear hK K
      try simp only [Act.put, List.setIfInBounds_toArray, List.set_cons_zero, List.set_cons_succ]
      refine wpAny_ready (rs := [10]) (by kernel_rfl) (by simp) ?_
      refine AllReady.cons rfl (fun K hK => ?_) AllReady.nil
      go_simp
      refine hK _ _ ?_; clear hK K
      refine wpAny_ready (rs := [11]) (by kernel_rfl) (by simp) ?_
      refine AllReady.cons rfl (fun K hK => ?_) AllReady.nil
      go_simp
      refine hK _ _ ?_; clear hK K
      refine wpAny_done (by kernel_rfl) ?_ _
      obtain ⟨W5, hW5⟩ : ∃ W, W = w5.setCell ⟨bx, 7, none⟩ (.slice A5 (k + 3) c5) := ⟨_, rfl⟩
      rw [← hW5]
      have BT5 : Below bx w5 W5 := by rw [hW5]; exact (Below.refl _ _).setCell (by dsimp only; omega) _
      obtain ⟨x', hx'⟩ : ∃ x' : SD, x' = { x with ops := x.ops ++ [o1, o2, o3] } := ⟨_, rfl⟩
      rw [← hx'] at HE
      have Y9 : Hid (Blk W5 bx 37 (vxC x' (.slice A5 (k + 3) c5))) := Lib.hid (by rw [hW5, hx']; exact Y5.out.set_ 7 _)
      have X9 : Hid (Blk W5 w.heap.size 37 (vxC noX (.slice none 0 0))) := Lib.hid (X5.out.below BT5 (by omega))
      have C9 := Lib.hid (C5.out.belowB BT5 (by omega))
      have G9 := Lib.hid (G5.out.below_trans (BT5.mono (by omega)))
      have OB9 : Hid (ObO W5 (w.heap.size + 1) (.slice A5 (k + 3) c5) (k + 3) x'.ops (ivs ++ [.slice A1 o1.ids.length c1, .slice A2 o2.ids.length c2, .slice A3 o3.ids.length c3])) := Lib.hid (by rw [hx', hW5]; exact OB5.out.neSet HNV.out HNS.out _)
      have HW : Hid (x'.wf ∧ (∀ o ∈ x'.ops, o.wf ∧ o.ids.length ≤ 8) ∧ x'.ops.length ≤ 6 ∧ x'.da.size ≤ 121) := Lib.hid (by
        rw [hx']
        have all : ∀ o ∈ x.ops ++ [o1, o2, o3], o.wf ∧ o.ids.length ≤ 8 := fun o ho => by
          simp only [List.mem_append, List.mem_cons, List.not_mem_nil, or_false] at ho
          rcases ho with ho | rfl | rfl | rfl
          · exact HID.out o ho
          · exact HV1x.out
          · exact HV2x.out
          · exact HV3x.out
        refine ⟨⟨HWF.out.1, HWF.out.2.1, fun o ho => (all o ho).1⟩, all, ?_, HDA.out⟩
        show (x.ops ++ [o1, o2, o3]).length ≤ 6
        rw [List.length_append, HKN.out]
        simp only [List.length_cons, List.length_nil]
        omega)
      have HK : Hid (x'.ops.length = k + 3) := Lib.hid (by rw [hx']; show (x.ops ++ [o1, o2, o3]).length = _; rw [List.length_append, HKN.out]; rfl)
      have AP9 := AP5
      clear hW5 hx' z7 f7 BT5 C5 G5 X5 Y5 OB5
      go_wp2_with (first | (refine wpl_segI (q := x') rfl (by rfl) (by rfl) (Bx.of_blk Y9.out) ?_) | (refine wpl_store_segM (q := x') (A := A5) (n := (k + 3)) (c := c5) rfl (by rfl) (by rfl) (by rfl) X9.out rfl ?_))
      refine bodyPost_ret (results_seg rfl (by rfl) (Bx.setCells (vs := vxC x' (.slice A5 (k + 3) c5)) X9.out rfl)) rfl ?_
      rw [HE.out]
      have BT : Below w.heap.size W5 (W5.setCells w.heap.size 0 (vxC x' (.slice A5 (k + 3) c5))) := Below.setCells' (Below.refl _ _) (Nat.le_refl _) _ _
      refine ⟨.slice A5 (k + 3) c5, _, rfl, ?_, AP9.out, C9.out.belowB BT hgl, G9.out.below_trans BT, HW.out.1, HW.out.2.1, HW.out.2.2.1, HW.out.2.2.2⟩
      have ob := OB9.out
      show ObO _ _ _ (x').ops.length (x').ops _
      rw [show (x').ops.length = (k + 3) from HK.out]
      exact ⟨ob.lo, ob.li, (ob.row.farS (by omega) _ _).mono (by omega), fun i p c hp hc => ((ob.ids i p c hp hc).farS (by omega) _ _).mono (by omega)⟩
    · clear y7
      go_simp
      go_at_call 84
      refine (any_u v n xs s2 g _ C0x.out).mono ?_
      rintro e v1 ⟨iv, rfl, ho, hc, hg, hwf, hid⟩
      obtain ⟨q, hq⟩ : ∃ q, q = anyX xs s2 := ⟨_, rfl⟩
      rw [← hq] at ho hc hwf hid HE ⊢
      clear hq
      obtain ⟨o1, t1⟩ := q
      dsimp only at ho hc hwf hid HE ⊢
      obtain ⟨A1, c1, rfl⟩ := ho.shape
      have C1x := Lib.hid hc
      have G1x := Lib.hid (G0x.out.trans hg)
      have X1x := Lib.hid (X0x.out.grewS hg hgl)
      have Y1x := Lib.hid (Y0x.out.grewS hg (by omega))
      have OB1x := Lib.hid (OB0x.out.grew hg (by omega))
      have P1x : Hid (Obs v1 (w.heap.size + 1) 1 (.slice A1 o1.ids.length c1) o1.ids.length (o1.ids.map vn)) := Lib.hid (by
        have h0 := ho.mono (show w.heap.size + 1 ≤ v0.heap.size by have := Y0x.out.lt; omega)
        exact h0)
      have AP1x : Hid (Apt (.slice A k cp) (ivs ++ [.slice A1 o1.ids.length c1])) := Lib.hid (AP0x.out.snoc1 (m := v0.heap.size) (fun g hg => (OB0x.out.row.lt g hg).2) (by exact OB0x.out.lts) (fun g hg => (ho.lt g hg).1))
      have HB1x : Hid (∀ q, (Value.slice A1 o1.ids.length c1).ownBlock = some q → bx < q) := Lib.hid (fun q hq => by have := (ho.lt q hq).1; have := Y0x.out.lt; omega)
      have HV1x : Hid ((o1.wf ∧ o1.ids.length ≤ 8)) := Lib.hid ⟨hwf, hid⟩
      clear ho hc hg hwf hid C0x G0x X0x Y0x OB0x AP0x
      refine hK _ _ ?_; clear hK K
      have y7 : v1.cell? ⟨bx, 7, none⟩ = some (.slice A k cp) := Y1x.out.cell 7
      refine wpAny_ready (rs := [1, 5]) (by kernel_rfl) (by simp) ?_
      refine AllReady.cons rfl (fun K hK => ?_) (AllReady.cons rfl (fun K hK => ?_) AllReady.nil)
      · go_simp
        refine hK _ _ ?_; clear hK K
        clear y7
        refine wpAny_ready (rs := [5]) (by kernel_rfl) (by simp) ?_
        refine AllReady.cons rfl (fun K hK => ?_) AllReady.nil
        go_simp
        go_at_call 94
        refine (opt_u v n xs t1 g _ C1x.out).mono ?_
        rintro e v2 ⟨iv, rfl, ho, hc, hg, hwf, hid⟩
        obtain ⟨q, hq⟩ : ∃ q, q = optX xs t1 := ⟨_, rfl⟩
        rw [← hq] at ho hc hwf hid HE ⊢
        clear hq
        obtain ⟨o2, t2⟩ := q
        dsimp only at ho hc hwf hid HE ⊢
        obtain ⟨A2, c2, rfl⟩ := ho.shape
        have C2x := Lib.hid hc
        have G2x := Lib.hid (G1x.out.trans hg)
        have X2x := Lib.hid (X1x.out.grewS hg hgl)
        have Y2x := Lib.hid (Y1x.out.grewS hg (by omega))
        have OB2x := Lib.hid (OB1x.out.grew hg (by omega))
        have P2x : Hid (Obs v2 (w.heap.size + 1) 1 (.slice A1 o1.ids.length c1) o1.ids.length (o1.ids.map vn) ∧ Obs v2 (w.heap.size + 1) 1 (.slice A2 o2.ids.length c2) o2.ids.length (o2.ids.map vn)) := Lib.hid (by
          have h0 := ho.mono (show w.heap.size + 1 ≤ v1.heap.size by have := Y1x.out.lt; omega)
          exact ⟨(P1x.out).grew hg (fun q hq => by have := ((P1x.out).lt q hq).1; omega), h0⟩)
        have AP2x : Hid (Apt (.slice A k cp) ((ivs ++ [.slice A1 o1.ids.length c1]) ++ [.slice A2 o2.ids.length c2])) := Lib.hid (AP1x.out.snoc1 (m := v1.heap.size) (fun g hg => (OB1x.out.row.lt g hg).2) (by intro a ha g hg; simp only [List.mem_append, List.mem_singleton] at ha; rcases ha with ha | rfl; exact OB1x.out.lts a ha g hg; exact ((P1x.out).lt g hg).2) (fun g hg => (ho.lt g hg).1))
        have HB2x : Hid (∀ q, (Value.slice A2 o2.ids.length c2).ownBlock = some q → bx < q) := Lib.hid (fun q hq => by have := (ho.lt q hq).1; have := Y1x.out.lt; omega)
        have HV2x : Hid ((o2.wf ∧ o2.ids.length ≤ 8)) := Lib.hid ⟨hwf, hid⟩
        clear ho hc hg hwf hid C1x G1x X1x Y1x OB1x AP1x P1x
        refine hK _ _ ?_; clear hK K
        refine wpAny_ready (rs := [7]) (by kernel_rfl) (by simp) ?_
        refine AllReady.cons rfl (fun K hK => ?_) AllReady.nil
        go_simp
        go_at_call 94
        refine (opt_u v n xs t2 g _ C2x.out).mono ?_
        rintro e v3 ⟨iv, rfl, ho, hc, hg, hwf, hid⟩
        obtain ⟨q, hq⟩ : ∃ q, q = optX xs t2 := ⟨_, rfl⟩
        rw [← hq] at ho hc hwf hid HE ⊢
        clear hq
        obtain ⟨o3, t3⟩ := q
        dsimp only at ho hc hwf hid HE ⊢
        obtain ⟨A3, c3, rfl⟩ := ho.shape
        have C3x := Lib.hid hc
        have G3x := Lib.hid (G2x.out.trans hg)
        have X3x := Lib.hid (X2x.out.grewS hg hgl)
        have Y3x := Lib.hid (Y2x.out.grewS hg (by omega))
        have OB3x := Lib.hid (OB2x.out.grew hg (by omega))
        have P3x : Hid (Obs v3 (w.heap.size + 1) 1 (.slice A1 o1.ids.length c1) o1.ids.length (o1.ids.map vn) ∧ Obs v3 (w.heap.size + 1) 1 (.slice A2 o2.ids.length c2) o2.ids.length (o2.ids.map vn) ∧ Obs v3 (w.heap.size + 1) 1 (.slice A3 o3.ids.length c3) o3.ids.length (o3.ids.map vn)) := Lib.hid (by
          have h0 := ho.mono (show w.heap.size + 1 ≤ v2.heap.size by have := Y2x.out.lt; omega)
          exact ⟨(P2x.out.1).grew hg (fun q hq => by have := ((P2x.out.1).lt q hq).1; omega), (P2x.out.2).grew hg (fun q hq => by have := ((P2x.out.2).lt q hq).1; omega), h0⟩)
        have AP3x : Hid (Apt (.slice A k cp) ((ivs ++ [.slice A1 o1.ids.length c1] ++ [.slice A2 o2.ids.length c2]) ++ [.slice A3 o3.ids.length c3])) := Lib.hid (AP2x.out.snoc1 (m := v2.heap.size) (fun g hg => (OB2x.out.row.lt g hg).2) (by intro a ha g hg; simp only [List.mem_append, List.mem_singleton] at ha; rcases ha with (ha | rfl) | rfl; exact OB2x.out.lts a ha g hg; exact ((P2x.out.1).lt g hg).2; exact ((P2x.out.2).lt g hg).2) (fun g hg => (ho.lt g hg).1))
        have HB3x : Hid (∀ q, (Value.slice A3 o3.ids.length c3).ownBlock = some q → bx < q) := Lib.hid (fun q hq => by have := (ho.lt q hq).1; have := Y2x.out.lt; omega)
        have HV3x : Hid ((o3.wf ∧ o3.ids.length ≤ 8)) := Lib.hid ⟨hwf, hid⟩
        clear ho hc hg hwf hid C2x G2x X2x Y2x OB2x AP2x P2x
        refine hK _ _ ?_; clear hK K
        refine wpAny_ready (rs := [8]) (by kernel_rfl) (by simp) ?_
        refine AllReady.cons (o := ⟨some 28, _, _, _, _, _⟩) rfl (fun K hK => ?_) AllReady.nil
        refine step_build3 rfl rfl (by rfl) (by rfl) (by rfl) ?_
        refine hK _ _ ?_; clear hK K
        obtain ⟨W4, hW4⟩ : ∃ W, W = v3.alloc (.cells (three o1 o2 o3 (.slice A1 o1.ids.length c1) (.slice A2 o2.ids.length c2) (.slice A3 o3.ids.length c3)).toArray 27) := ⟨_, rfl⟩
        rw [← hW4]
        obtain ⟨b4, hb4⟩ : ∃ b, b = v3.heap.size := ⟨_, rfl⟩
        have E4 := Lib.hid ((Below.refl v3.heap.size v3).alloc (Nat.le_refl _) (.cells (three o1 o2 o3 (.slice A1 o1.ids.length c1) (.slice A2 o2.ids.length c2) (.slice A3 o3.ids.length c3)).toArray 27))
        have N4 := Lib.hid (Bx.new v3 (three o1 o2 o3 (.slice A1 o1.ids.length c1) (.slice A2 o2.ids.length c2) (.slice A3 o3.ids.length c3)).toArray 27)
        rw [← hW4] at E4 N4
        rw [← hb4] at N4 ⊢
        have C4x := Lib.hid (C3x.out.below E4.out)
        have G4x := Lib.hid (G3x.out.trans (Grew.of_below E4.out))
        have X4x := Lib.hid (X3x.out.below E4.out X3x.out.lt)
        have Y4x := Lib.hid (Y3x.out.below E4.out Y3x.out.lt)
        have OB4x := Lib.hid (OB3x.out.below E4.out)
        have P4x : Hid (Obs W4 (w.heap.size + 1) 1 (.slice A1 o1.ids.length c1) o1.ids.length (o1.ids.map vn) ∧ Obs W4 (w.heap.size + 1) 1 (.slice A2 o2.ids.length c2) o2.ids.length (o2.ids.map vn) ∧ Obs W4 (w.heap.size + 1) 1 (.slice A3 o3.ids.length c3) o3.ids.length (o3.ids.map vn)) := Lib.hid ⟨P3x.out.1.below E4.out, P3x.out.2.1.below E4.out, P3x.out.2.2.below E4.out⟩
        have HBX : Hid (bx < W4.heap.size) := Lib.hid Y4x.out.lt
        clear hW4 hb4 E4 C3x G3x X3x Y3x OB3x P3x
        try simp only [Act.put, List.setIfInBounds_toArray, List.set_cons_zero, List.set_cons_succ]
        refine wpAny_ready (rs := [9]) (by kernel_rfl) (by simp) ?_
        refine AllReady.cons (o := ⟨some 29, _, _, _, _, _⟩) rfl (fun K hK => ?_) AllReady.nil
        refine step_append_opts rfl _ _ rfl (w.heap.size + 1) (.slice A k cp) k x.ops ivs (by rfl) OB4x.out 3 [o1, o2, o3] [.slice A1 o1.ids.length c1, .slice A2 o2.ids.length c2, .slice A3 o3.ids.length c3] rfl rfl b4 (by rfl) (by rw [flatO_three]; exact N4.out) (by rw [flatO_three]; exact three_cells _ _ _ _ _ _ _ _ _ _ _ _) (fun k' q iv hq hi => by
          match k', hq, hi with
          | 0, hq, hi => simp only [List.getElem?_cons_zero, Option.some.injEq] at hq hi; subst hq; subst hi; exact P4x.out.1
          | 1, hq, hi => simp only [List.getElem?_cons_zero, List.getElem?_cons_succ, Option.some.injEq] at hq hi; subst hq; subst hi; exact P4x.out.2.1
          | 2, hq, hi => simp only [List.getElem?_cons_zero, List.getElem?_cons_succ, Option.some.injEq] at hq hi; subst hq; subst hi; exact P4x.out.2.2
          | k' + 3, hq, hi => simp at hq) (by have := AP3x.out; rw [List.append_assoc, List.append_assoc] at this; exact this) (by omega) (by have := Y4x.out.lt; omega) ?_
        intro v5 w5 ho5 ha5 hb5 hg5 hown5
        obtain ⟨A5, c5, rfl, _⟩ := ho5.rd.shape
        have OB5 := Lib.hid ho5
        have AP5 := Lib.hid ha5
        have X5 := Lib.hid (X4x.out.below hb5 (by omega))
        have Y5 := Lib.hid (Y4x.out.grown hg5 (fun e => by have := HOV.out bx e.symm; omega))
        have C5 := Lib.hid (C4x.out.belowB hb5 (by omega))
        have G5 := Lib.hid (G4x.out.below_trans (hb5.mono (by omega)))
        have HNV : Hid (∀ q, (Value.slice A5 (k + 3) c5).ownBlock = some q → q ≠ bx) := Lib.hid (fun q hq => by
          rcases hown5 with h | h
          · exact Nat.ne_of_lt (HOV.out q (by rw [← h]; exact hq))
          · have := h q hq; have := HBX.out; omega)
        have HNS : Hid (∀ a ∈ ivs ++ [.slice A1 o1.ids.length c1, .slice A2 o2.ids.length c2, .slice A3 o3.ids.length c3], ∀ q, a.ownBlock = some q → q ≠ bx) := Lib.hid (fun a ha q hq => by
          rcases List.mem_append.1 ha with h | h
          · exact Nat.ne_of_lt (HOS.out a h q hq)
          · simp only [List.mem_cons, List.not_mem_nil, or_false] at h
            rcases h with rfl | rfl | rfl
            · exact Nat.ne_of_gt (HB1x.out q hq)
            · exact Nat.ne_of_gt (HB2x.out q hq)
            · exact Nat.ne_of_gt (HB3x.out q hq))
        have z7 : w5.cell? ⟨bx, 7, none⟩ = some (.slice A k cp) := Y5.out.cell 7
        have f7 := Y5.out.frozen 7
        clear ho5 ha5 hb5 hg5 hown5 C4x G4x X4x Y4x OB4x P4x AP3x N4
        refine hK _ _ ?_; clear hK K
        try simp only [Act.put, List.setIfInBounds_toArray, List.set_cons_zero, List.set_cons_succ]
        refine wpAny_ready (rs := [10]) (by kernel_rfl) (by simp) ?_
        refine AllReady.cons rfl (fun K hK => ?_) AllReady.nil
        go_simp
        refine hK _ _ ?_; clear hK K
        refine wpAny_ready (rs := [11]) (by kernel_rfl) (by simp) ?_
        refine AllReady.cons rfl (fun K hK => ?_) AllReady.nil
        go_simp
        refine hK _ _ ?_; clear hK K
        refine wpAny_done (by kernel_rfl) ?_ _
        obtain ⟨W5, hW5⟩ : ∃ W, W = w5.setCell ⟨bx, 7, none⟩ (.slice A5 (k + 3) c5) := ⟨_, rfl⟩
        rw [← hW5]
        have BT5 : Below bx w5 W5 := by rw [hW5]; exact (Below.refl _ _).setCell (by dsimp only; omega) _
        obtain ⟨x', hx'⟩ : ∃ x' : SD, x' = { x with ops := x.ops ++ [o1, o2, o3] } := ⟨_, rfl⟩
        rw [← hx'] at HE
        have Y9 : Hid (Blk W5 bx 37 (vxC x' (.slice A5 (k + 3) c5))) := Lib.hid (by rw [hW5, hx']; exact Y5.out.set_ 7 _)
        have X9 : Hid (Blk W5 w.heap.size 37 (vxC noX (.slice none 0 0))) := Lib.hid (X5.out.below BT5 (by omega))
        have C9 := Lib.hid (C5.out.belowB BT5 (by omega))
        have G9 := Lib.hid (G5.out.below_trans (BT5.mono (by omega)))
        have OB9 : Hid (ObO W5 (w.heap.size + 1) (.slice A5 (k + 3) c5) (k + 3) x'.ops (ivs ++ [.slice A1 o1.ids.length c1, .slice A2 o2.ids.length c2, .slice A3 o3.ids.length c3])) := Lib.hid (by rw [hx', hW5]; exact OB5.out.neSet HNV.out HNS.out _)
        have HW : Hid (x'.wf ∧ (∀ o ∈ x'.ops, o.wf ∧ o.ids.length ≤ 8) ∧ x'.ops.length ≤ 6 ∧ x'.da.size ≤ 121) := Lib.hid (by
          rw [hx']
          have all : ∀ o ∈ x.ops ++ [o1, o2, o3], o.wf ∧ o.ids.length ≤ 8 := fun o ho => by
            simp only [List.mem_append, List.mem_cons, List.not_mem_nil, or_false] at ho
            rcases ho with ho | rfl | rfl | rfl
            · exact HID.out o ho
            · exact HV1x.out
            · exact HV2x.out
            · exact HV3x.out
          refine ⟨⟨HWF.out.1, HWF.out.2.1, fun o ho => (all o ho).1⟩, all, ?_, HDA.out⟩
          show (x.ops ++ [o1, o2, o3]).length ≤ 6
          rw [List.length_append, HKN.out]
          simp only [List.length_cons, List.length_nil]
          omega)
        have HK : Hid (x'.ops.length = k + 3) := Lib.hid (by rw [hx']; show (x.ops ++ [o1, o2, o3]).length = _; rw [List.length_append, HKN.out]; rfl)
        have AP9 := AP5
        clear hW5 hx' z7 f7 BT5 C5 G5 X5 Y5 OB5
        go_wp2_with (first | (refine wpl_segI (q := x') rfl (by rfl) (by rfl) (Bx.of_blk Y9.out) ?_) | (refine wpl_store_segM (q := x') (A := A5) (n := (k + 3)) (c := c5) rfl (by rfl) (by rfl) (by rfl) X9.out rfl ?_))
        refine bodyPost_ret (results_seg rfl (by rfl) (Bx.setCells (vs := vxC x' (.slice A5 (k + 3) c5)) X9.out rfl)) rfl ?_
        rw [HE.out]
        have BT : Below w.heap.size W5 (W5.setCells w.heap.size 0 (vxC x' (.slice A5 (k + 3) c5))) := Below.setCells' (Below.refl _ _) (Nat.le_refl _) _ _
        refine ⟨.slice A5 (k + 3) c5, _, rfl, ?_, AP9.out, C9.out.belowB BT hgl, G9.out.below_trans BT, HW.out.1, HW.out.2.1, HW.out.2.2.1, HW.out.2.2.2⟩
        have ob := OB9.out
        show ObO _ _ _ (x').ops.length (x').ops _
        rw [show (x').ops.length = (k + 3) from HK.out]
        exact ⟨ob.lo, ob.li, (ob.row.farS (by omega) _ _).mono (by omega), fun i p c hp hc => ((ob.ids i p c hp hc).farS (by omega) _ _).mono (by omega)⟩
      · clear y7
        go_simp
        go_at_call 94
        refine (opt_u v n xs t1 g _ C1x.out).mono ?_
        rintro e v2 ⟨iv, rfl, ho, hc, hg, hwf, hid⟩
        obtain ⟨q, hq⟩ : ∃ q, q = optX xs t1 := ⟨_, rfl⟩
        rw [← hq] at ho hc hwf hid HE ⊢
        clear hq
        obtain ⟨o2, t2⟩ := q
        dsimp only at ho hc hwf hid HE ⊢
        obtain ⟨A2, c2, rfl⟩ := ho.shape
        have C2x := Lib.hid hc
        have G2x := Lib.hid (G1x.out.trans hg)
        have X2x := Lib.hid (X1x.out.grewS hg hgl)
        have Y2x := Lib.hid (Y1x.out.grewS hg (by omega))
        have OB2x := Lib.hid (OB1x.out.grew hg (by omega))
        have P2x : Hid (Obs v2 (w.heap.size + 1) 1 (.slice A1 o1.ids.length c1) o1.ids.length (o1.ids.map vn) ∧ Obs v2 (w.heap.size + 1) 1 (.slice A2 o2.ids.length c2) o2.ids.length (o2.ids.map vn)) := Lib.hid (by
          have h0 := ho.mono (show w.heap.size + 1 ≤ v1.heap.size by have := Y1x.out.lt; omega)
          exact ⟨(P1x.out).grew hg (fun q hq => by have := ((P1x.out).lt q hq).1; omega), h0⟩)
        have AP2x : Hid (Apt (.slice A k cp) ((ivs ++ [.slice A1 o1.ids.length c1]) ++ [.slice A2 o2.ids.length c2])) := Lib.hid (AP1x.out.snoc1 (m := v1.heap.size) (fun g hg => (OB1x.out.row.lt g hg).2) (by intro a ha g hg; simp only [List.mem_append, List.mem_singleton] at ha; rcases ha with ha | rfl; exact OB1x.out.lts a ha g hg; exact ((P1x.out).lt g hg).2) (fun g hg => (ho.lt g hg).1))
        have HB2x : Hid (∀ q, (Value.slice A2 o2.ids.length c2).ownBlock = some q → bx < q) := Lib.hid (fun q hq => by have := (ho.lt q hq).1; have := Y1x.out.lt; omega)
        have HV2x : Hid ((o2.wf ∧ o2.ids.length ≤ 8)) := Lib.hid ⟨hwf, hid⟩
        clear ho hc hg hwf hid C1x G1x X1x Y1x OB1x AP1x P1x
        refine hK _ _ ?_; clear hK K
        have y7 : v2.cell? ⟨bx, 7, none⟩ = some (.slice A k cp) := Y2x.out.cell 7
        refine wpAny_ready (rs := [1, 7]) (by kernel_rfl) (by simp) ?_
        refine AllReady.cons rfl (fun K hK => ?_) (AllReady.cons rfl (fun K hK => ?_) AllReady.nil)
        · go_simp
          refine hK _ _ ?_; clear hK K
          clear y7
          refine wpAny_ready (rs := [7]) (by kernel_rfl) (by simp) ?_
          refine AllReady.cons rfl (fun K hK => ?_) AllReady.nil
          go_simp
          go_at_call 94
          refine (opt_u v n xs t2 g _ C2x.out).mono ?_
          rintro e v3 ⟨iv, rfl, ho, hc, hg, hwf, hid⟩
          obtain ⟨q, hq⟩ : ∃ q, q = optX xs t2 := ⟨_, rfl⟩
          rw [← hq] at ho hc hwf hid HE ⊢
          clear hq
          obtain ⟨o3, t3⟩ := q
          dsimp only at ho hc hwf hid HE ⊢
          obtain ⟨A3, c3, rfl⟩ := ho.shape
          have C3x := Lib.hid hc
          have G3x := Lib.hid (G2x.out.trans hg)
          have X3x := Lib.hid (X2x.out.grewS hg hgl)
          have Y3x := Lib.hid (Y2x.out.grewS hg (by omega))
          have OB3x := Lib.hid (OB2x.out.grew hg (by omega))
          have P3x : Hid (Obs v3 (w.heap.size + 1) 1 (.slice A1 o1.ids.length c1) o1.ids.length (o1.ids.map vn) ∧ Obs v3 (w.heap.size + 1) 1 (.slice A2 o2.ids.length c2) o2.ids.length (o2.ids.map vn) ∧ Obs v3 (w.heap.size + 1) 1 (.slice A3 o3.ids.length c3) o3.ids.length (o3.ids.map vn)) := Lib.hid (by
            have h0 := ho.mono (show w.heap.size + 1 ≤ v2.heap.size by have := Y2x.out.lt; omega)
            exact ⟨(P2x.out.1).grew hg (fun q hq => by have := ((P2x.out.1).lt q hq).1; omega), (P2x.out.2).grew hg (fun q hq => by have := ((P2x.out.2).lt q hq).1; omega), h0⟩)
          have AP3x : Hid (Apt (.slice A k cp) ((ivs ++ [.slice A1 o1.ids.length c1] ++ [.slice A2 o2.ids.length c2]) ++ [.slice A3 o3.ids.length c3])) := Lib.hid (AP2x.out.snoc1 (m := v2.heap.size) (fun g hg => (OB2x.out.row.lt g hg).2) (by intro a ha g hg; simp only [List.mem_append, List.mem_singleton] at ha; rcases ha with (ha | rfl) | rfl; exact OB2x.out.lts a ha g hg; exact ((P2x.out.1).lt g hg).2; exact ((P2x.out.2).lt g hg).2) (fun g hg => (ho.lt g hg).1))
          have HB3x : Hid (∀ q, (Value.slice A3 o3.ids.length c3).ownBlock = some q → bx < q) := Lib.hid (fun q hq => by have := (ho.lt q hq).1; have := Y2x.out.lt; omega)
          have HV3x : Hid ((o3.wf ∧ o3.ids.length ≤ 8)) := Lib.hid ⟨hwf, hid⟩
          clear ho hc hg hwf hid C2x G2x X2x Y2x OB2x AP2x P2x
          refine hK _ _ ?_; clear hK K
          refine wpAny_ready (rs := [8]) (by kernel_rfl) (by simp) ?_
          refine AllReady.cons (o := ⟨some 28, _, _, _, _, _⟩) rfl (fun K hK => ?_) AllReady.nil
          refine step_build3 rfl rfl (by rfl) (by rfl) (by rfl) ?_
          refine hK _ _ ?_; clear hK K
          obtain ⟨W4, hW4⟩ : ∃ W, W = v3.alloc (.cells (three o1 o2 o3 (.slice A1 o1.ids.length c1) (.slice A2 o2.ids.length c2) (.slice A3 o3.ids.length c3)).toArray 27) := ⟨_, rfl⟩
          rw [← hW4]
          obtain ⟨b4, hb4⟩ : ∃ b, b = v3.heap.size := ⟨_, rfl⟩
          have E4 := Lib.hid ((Below.refl v3.heap.size v3).alloc (Nat.le_refl _) (.cells (three o1 o2 o3 (.slice A1 o1.ids.length c1) (.slice A2 o2.ids.length c2) (.slice A3 o3.ids.length c3)).toArray 27))
          have N4 := Lib.hid (Bx.new v3 (three o1 o2 o3 (.slice A1 o1.ids.length c1) (.slice A2 o2.ids.length c2) (.slice A3 o3.ids.length c3)).toArray 27)
          rw [← hW4] at E4 N4
          rw [← hb4] at N4 ⊢
          have C4x := Lib.hid (C3x.out.below E4.out)
          have G4x := Lib.hid (G3x.out.trans (Grew.of_below E4.out))
          have X4x := Lib.hid (X3x.out.below E4.out X3x.out.lt)
          have Y4x := Lib.hid (Y3x.out.below E4.out Y3x.out.lt)
          have OB4x := Lib.hid (OB3x.out.below E4.out)
          have P4x : Hid (Obs W4 (w.heap.size + 1) 1 (.slice A1 o1.ids.length c1) o1.ids.length (o1.ids.map vn) ∧ Obs W4 (w.heap.size + 1) 1 (.slice A2 o2.ids.length c2) o2.ids.length (o2.ids.map vn) ∧ Obs W4 (w.heap.size + 1) 1 (.slice A3 o3.ids.length c3) o3.ids.length (o3.ids.map vn)) := Lib.hid ⟨P3x.out.1.below E4.out, P3x.out.2.1.below E4.out, P3x.out.2.2.below E4.out⟩
          have HBX : Hid (bx < W4.heap.size) := Lib.hid Y4x.out.lt
          clear hW4 hb4 E4 C3x G3x X3x Y3x OB3x P3x
          try simp only [Act.put, List.setIfInBounds_toArray, List.set_cons_zero, List.set_cons_succ]
          refine wpAny_ready (rs := [9]) (by kernel_rfl) (by simp) ?_
          refine AllReady.cons (o := ⟨some 29, _, _, _, _, _⟩) rfl (fun K hK => ?_) AllReady.nil
          refine step_append_opts rfl _ _ rfl (w.heap.size + 1) (.slice A k cp) k x.ops ivs (by rfl) OB4x.out 3 [o1, o2, o3] [.slice A1 o1.ids.length c1, .slice A2 o2.ids.length c2, .slice A3 o3.ids.length c3] rfl rfl b4 (by rfl) (by rw [flatO_three]; exact N4.out) (by rw [flatO_three]; exact three_cells _ _ _ _ _ _ _ _ _ _ _ _) (fun k' q iv hq hi => by
            match k', hq, hi with
            | 0, hq, hi => simp only [List.getElem?_cons_zero, Option.some.injEq] at hq hi; subst hq; subst hi; exact P4x.out.1
            | 1, hq, hi => simp only [List.getElem?_cons_zero, List.getElem?_cons_succ, Option.some.injEq] at hq hi; subst hq; subst hi; exact P4x.out.2.1
            | 2, hq, hi => simp only [List.getElem?_cons_zero, List.getElem?_cons_succ, Option.some.injEq] at hq hi; subst hq; subst hi; exact P4x.out.2.2
            | k' + 3, hq, hi => simp at hq) (by have := AP3x.out; rw [List.append_assoc, List.append_assoc] at this; exact this) (by omega) (by have := Y4x.out.lt; omega) ?_
          intro v5 w5 ho5 ha5 hb5 hg5 hown5
          obtain ⟨A5, c5, rfl, _⟩ := ho5.rd.shape
          have OB5 := Lib.hid ho5
          have AP5 := Lib.hid ha5
          have X5 := Lib.hid (X4x.out.below hb5 (by omega))
          have Y5 := Lib.hid (Y4x.out.grown hg5 (fun e => by have := HOV.out bx e.symm; omega))
          have C5 := Lib.hid (C4x.out.belowB hb5 (by omega))
          have G5 := Lib.hid (G4x.out.below_trans (hb5.mono (by omega)))
          have HNV : Hid (∀ q, (Value.slice A5 (k + 3) c5).ownBlock = some q → q ≠ bx) := Lib.hid (fun q hq => by
            rcases hown5 with h | h
            · exact Nat.ne_of_lt (HOV.out q (by rw [← h]; exact hq))
            · have := h q hq; have := HBX.out; omega)
          have HNS : Hid (∀ a ∈ ivs ++ [.slice A1 o1.ids.length c1, .slice A2 o2.ids.length c2, .slice A3 o3.ids.length c3], ∀ q, a.ownBlock = some q → q ≠ bx) := Lib.hid (fun a ha q hq => by
            rcases List.mem_append.1 ha with h | h
            · exact Nat.ne_of_lt (HOS.out a h q hq)
            · simp only [List.mem_cons, List.not_mem_nil, or_false] at h
              rcases h with rfl | rfl | rfl
              · exact Nat.ne_of_gt (HB1x.out q hq)
              · exact Nat.ne_of_gt (HB2x.out q hq)
              · exact Nat.ne_of_gt (HB3x.out q hq))
          have z7 : w5.cell? ⟨bx, 7, none⟩ = some (.slice A k cp) := Y5.out.cell 7
          have f7 := Y5.out.frozen 7
          clear ho5 ha5 hb5 hg5 hown5 C4x G4x X4x Y4x OB4x P4x AP3x N4
          refine hK _ _ ?_; clear hK K
          try simp only [Act.put, List.setIfInBounds_toArray, List.set_cons_zero, List.set_cons_succ]
          refine wpAny_ready (rs := [10]) (by kernel_rfl) (by simp) ?_
          refine AllReady.cons rfl (fun K hK => ?_) AllReady.nil
          go_simp
          refine hK _ _ ?_; clear hK K
          refine wpAny_ready (rs := [11]) (by kernel_rfl) (by simp) ?_
          refine AllReady.cons rfl (fun K hK => ?_) AllReady.nil
          go_simp
          refine hK _ _ ?_; clear hK K
          refine wpAny_done (by kernel_rfl) ?_ _
          obtain ⟨W5, hW5⟩ : ∃ W, W = w5.setCell ⟨bx, 7, none⟩ (.slice A5 (k + 3) c5) := ⟨_, rfl⟩
          rw [← hW5]
          have BT5 : Below bx w5 W5 := by rw [hW5]; exact (Below.refl _ _).setCell (by dsimp only; omega) _
          obtain ⟨x', hx'⟩ : ∃ x' : SD, x' = { x with ops := x.ops ++ [o1, o2, o3] } := ⟨_, rfl⟩
          rw [← hx'] at HE
          have Y9 : Hid (Blk W5 bx 37 (vxC x' (.slice A5 (k + 3) c5))) := Lib.hid (by rw [hW5, hx']; exact Y5.out.set_ 7 _)
          have X9 : Hid (Blk W5 w.heap.size 37 (vxC noX (.slice none 0 0))) := Lib.hid (X5.out.below BT5 (by omega))
          have C9 := Lib.hid (C5.out.belowB BT5 (by omega))
          have G9 := Lib.hid (G5.out.below_trans (BT5.mono (by omega)))
          have OB9 : Hid (ObO W5 (w.heap.size + 1) (.slice A5 (k + 3) c5) (k + 3) x'.ops (ivs ++ [.slice A1 o1.ids.length c1, .slice A2 o2.ids.length c2, .slice A3 o3.ids.length c3])) := Lib.hid (by rw [hx', hW5]; exact OB5.out.neSet HNV.out HNS.out _)
          have HW : Hid (x'.wf ∧ (∀ o ∈ x'.ops, o.wf ∧ o.ids.length ≤ 8) ∧ x'.ops.length ≤ 6 ∧ x'.da.size ≤ 121) := Lib.hid (by
            rw [hx']
            have all : ∀ o ∈ x.ops ++ [o1, o2, o3], o.wf ∧ o.ids.length ≤ 8 := fun o ho => by
              simp only [List.mem_append, List.mem_cons, List.not_mem_nil, or_false] at ho
              rcases ho with ho | rfl | rfl | rfl
              · exact HID.out o ho
              · exact HV1x.out
              · exact HV2x.out
              · exact HV3x.out
            refine ⟨⟨HWF.out.1, HWF.out.2.1, fun o ho => (all o ho).1⟩, all, ?_, HDA.out⟩
            show (x.ops ++ [o1, o2, o3]).length ≤ 6
            rw [List.length_append, HKN.out]
            simp only [List.length_cons, List.length_nil]
            omega)
          have HK : Hid (x'.ops.length = k + 3) := Lib.hid (by rw [hx']; show (x.ops ++ [o1, o2, o3]).length = _; rw [List.length_append, HKN.out]; rfl)
          have AP9 := AP5
          clear hW5 hx' z7 f7 BT5 C5 G5 X5 Y5 OB5
          go_wp2_with (first | (refine wpl_segI (q := x') rfl (by rfl) (by rfl) (Bx.of_blk Y9.out) ?_) | (refine wpl_store_segM (q := x') (A := A5) (n := (k + 3)) (c := c5) rfl (by rfl) (by rfl) (by rfl) X9.out rfl ?_))
          refine bodyPost_ret (results_seg rfl (by rfl) (Bx.setCells (vs := vxC x' (.slice A5 (k + 3) c5)) X9.out rfl)) rfl ?_
          rw [HE.out]
          have BT : Below w.heap.size W5 (W5.setCells w.heap.size 0 (vxC x' (.slice A5 (k + 3) c5))) := Below.setCells' (Below.refl _ _) (Nat.le_refl _) _ _
          refine ⟨.slice A5 (k + 3) c5, _, rfl, ?_, AP9.out, C9.out.belowB BT hgl, G9.out.below_trans BT, HW.out.1, HW.out.2.1, HW.out.2.2.1, HW.out.2.2.2⟩
          have ob := OB9.out
          show ObO _ _ _ (x').ops.length (x').ops _
          rw [show (x').ops.length = (k + 3) from HK.out]
          exact ⟨ob.lo, ob.li, (ob.row.farS (by omega) _ _).mono (by omega), fun i p c hp hc => ((ob.ids i p c hp hc).farS (by omega) _ _).mono (by omega)⟩
        · clear y7
          go_simp
          go_at_call 94
          refine (opt_u v n xs t2 g _ C2x.out).mono ?_
          rintro e v3 ⟨iv, rfl, ho, hc, hg, hwf, hid⟩
          obtain ⟨q, hq⟩ : ∃ q, q = optX xs t2 := ⟨_, rfl⟩
          rw [← hq] at ho hc hwf hid HE ⊢
          clear hq
          obtain ⟨o3, t3⟩ := q
          dsimp only at ho hc hwf hid HE ⊢
          obtain ⟨A3, c3, rfl⟩ := ho.shape
          have C3x := Lib.hid hc
          have G3x := Lib.hid (G2x.out.trans hg)
          have X3x := Lib.hid (X2x.out.grewS hg hgl)
          have Y3x := Lib.hid (Y2x.out.grewS hg (by omega))
          have OB3x := Lib.hid (OB2x.out.grew hg (by omega))
          have P3x : Hid (Obs v3 (w.heap.size + 1) 1 (.slice A1 o1.ids.length c1) o1.ids.length (o1.ids.map vn) ∧ Obs v3 (w.heap.size + 1) 1 (.slice A2 o2.ids.length c2) o2.ids.length (o2.ids.map vn) ∧ Obs v3 (w.heap.size + 1) 1 (.slice A3 o3.ids.length c3) o3.ids.length (o3.ids.map vn)) := Lib.hid (by
            have h0 := ho.mono (show w.heap.size + 1 ≤ v2.heap.size by have := Y2x.out.lt; omega)
            exact ⟨(P2x.out.1).grew hg (fun q hq => by have := ((P2x.out.1).lt q hq).1; omega), (P2x.out.2).grew hg (fun q hq => by have := ((P2x.out.2).lt q hq).1; omega), h0⟩)
          have AP3x : Hid (Apt (.slice A k cp) ((ivs ++ [.slice A1 o1.ids.length c1] ++ [.slice A2 o2.ids.length c2]) ++ [.slice A3 o3.ids.length c3])) := Lib.hid (AP2x.out.snoc1 (m := v2.heap.size) (fun g hg => (OB2x.out.row.lt g hg).2) (by intro a ha g hg; simp only [List.mem_append, List.mem_singleton] at ha; rcases ha with (ha | rfl) | rfl; exact OB2x.out.lts a ha g hg; exact ((P2x.out.1).lt g hg).2; exact ((P2x.out.2).lt g hg).2) (fun g hg => (ho.lt g hg).1))
          have HB3x : Hid (∀ q, (Value.slice A3 o3.ids.length c3).ownBlock = some q → bx < q) := Lib.hid (fun q hq => by have := (ho.lt q hq).1; have := Y2x.out.lt; omega)
          have HV3x : Hid ((o3.wf ∧ o3.ids.length ≤ 8)) := Lib.hid ⟨hwf, hid⟩
          clear ho hc hg hwf hid C2x G2x X2x Y2x OB2x AP2x P2x
          refine hK _ _ ?_; clear hK K
          have y7 : v3.cell? ⟨bx, 7, none⟩ = some (.slice A k cp) := Y3x.out.cell 7
          refine wpAny_ready (rs := [1, 8]) (by kernel_rfl) (by simp) ?_
          refine AllReady.cons rfl (fun K hK => ?_) (AllReady.cons (o := ⟨some 28, _, _, _, _, _⟩) rfl (fun K hK => ?_) AllReady.nil)
          · go_simp
            refine hK _ _ ?_; clear hK K
            clear y7
            refine wpAny_ready (rs := [8]) (by kernel_rfl) (by simp) ?_
            refine AllReady.cons (o := ⟨some 28, _, _, _, _, _⟩) rfl (fun K hK => ?_) AllReady.nil
            refine step_build3 rfl rfl (by rfl) (by rfl) (by rfl) ?_
            refine hK _ _ ?_; clear hK K
            obtain ⟨W4, hW4⟩ : ∃ W, W = v3.alloc (.cells (three o1 o2 o3 (.slice A1 o1.ids.length c1) (.slice A2 o2.ids.length c2) (.slice A3 o3.ids.length c3)).toArray 27) := ⟨_, rfl⟩
            rw [← hW4]
            obtain ⟨b4, hb4⟩ : ∃ b, b = v3.heap.size := ⟨_, rfl⟩
            have E4 := Lib.hid ((Below.refl v3.heap.size v3).alloc (Nat.le_refl _) (.cells (three o1 o2 o3 (.slice A1 o1.ids.length c1) (.slice A2 o2.ids.length c2) (.slice A3 o3.ids.length c3)).toArray 27))
            have N4 := Lib.hid (Bx.new v3 (three o1 o2 o3 (.slice A1 o1.ids.length c1) (.slice A2 o2.ids.length c2) (.slice A3 o3.ids.length c3)).toArray 27)
            rw [← hW4] at E4 N4
            rw [← hb4] at N4 ⊢
            have C4x := Lib.hid (C3x.out.below E4.out)
            have G4x := Lib.hid (G3x.out.trans (Grew.of_below E4.out))
            have X4x := Lib.hid (X3x.out.below E4.out X3x.out.lt)
            have Y4x := Lib.hid (Y3x.out.below E4.out Y3x.out.lt)
            have OB4x := Lib.hid (OB3x.out.below E4.out)
            have P4x : Hid (Obs W4 (w.heap.size + 1) 1 (.slice A1 o1.ids.length c1) o1.ids.length (o1.ids.map vn) ∧ Obs W4 (w.heap.size + 1) 1 (.slice A2 o2.ids.length c2) o2.ids.length (o2.ids.map vn) ∧ Obs W4 (w.heap.size + 1) 1 (.slice A3 o3.ids.length c3) o3.ids.length (o3.ids.map vn)) := Lib.hid ⟨P3x.out.1.below E4.out, P3x.out.2.1.below E4.out, P3x.out.2.2.below E4.out⟩
            have HBX : Hid (bx < W4.heap.size) := Lib.hid Y4x.out.lt
            clear hW4 hb4 E4 C3x G3x X3x Y3x OB3x P3x
            try simp only [Act.put, List.setIfInBounds_toArray, List.set_cons_zero, List.set_cons_succ]
            refine wpAny_ready (rs := [9]) (by kernel_rfl) (by simp) ?_
            refine AllReady.cons (o := ⟨some 29, _, _, _, _, _⟩) rfl (fun K hK => ?_) AllReady.nil
            refine step_append_opts rfl _ _ rfl (w.heap.size + 1) (.slice A k cp) k x.ops ivs (by rfl) OB4x.out 3 [o1, o2, o3] [.slice A1 o1.ids.length c1, .slice A2 o2.ids.length c2, .slice A3 o3.ids.length c3] rfl rfl b4 (by rfl) (by rw [flatO_three]; exact N4.out) (by rw [flatO_three]; exact three_cells _ _ _ _ _ _ _ _ _ _ _ _) (fun k' q iv hq hi => by
              match k', hq, hi with
              | 0, hq, hi => simp only [List.getElem?_cons_zero, Option.some.injEq] at hq hi; subst hq; subst hi; exact P4x.out.1
              | 1, hq, hi => simp only [List.getElem?_cons_zero, List.getElem?_cons_succ, Option.some.injEq] at hq hi; subst hq; subst hi; exact P4x.out.2.1
              | 2, hq, hi => simp only [List.getElem?_cons_zero, List.getElem?_cons_succ, Option.some.injEq] at hq hi; subst hq; subst hi; exact P4x.out.2.2
              | k' + 3, hq, hi => simp at hq) (by have := AP3x.out; rw [List.append_assoc, List.append_assoc] at this; exact this) (by omega) (by have := Y4x.out.lt; omega) ?_
            intro v5 w5 ho5 ha5 hb5 hg5 hown5
            obtain ⟨A5, c5, rfl, _⟩ := ho5.rd.shape
            have OB5 := Lib.hid ho5
            have AP5 := Lib.hid ha5
            have X5 := Lib.hid (X4x.out.below hb5 (by omega))
            have Y5 := Lib.hid (Y4x.out.grown hg5 (fun e => by have := HOV.out bx e.symm; omega))
            have C5 := Lib.hid (C4x.out.belowB hb5 (by omega))
            have G5 := Lib.hid (G4x.out.below_trans (hb5.mono (by omega)))
            have HNV : Hid (∀ q, (Value.slice A5 (k + 3) c5).ownBlock = some q → q ≠ bx) := Lib.hid (fun q hq => by
              rcases hown5 with h | h
              · exact Nat.ne_of_lt (HOV.out q (by rw [← h]; exact hq))
              · have := h q hq; have := HBX.out; omega)
            have HNS : Hid (∀ a ∈ ivs ++ [.slice A1 o1.ids.length c1, .slice A2 o2.ids.length c2, .slice A3 o3.ids.length c3], ∀ q, a.ownBlock = some q → q ≠ bx) := Lib.hid (fun a ha q hq => by
              rcases List.mem_append.1 ha with h | h
              · exact Nat.ne_of_lt (HOS.out a h q hq)
              · simp only [List.mem_cons, List.not_mem_nil, or_false] at h
                rcases h with rfl | rfl | rfl
                · exact Nat.ne_of_gt (HB1x.out q hq)
                · exact Nat.ne_of_gt (HB2x.out q hq)
                · exact Nat.ne_of_gt (HB3x.out q hq))
            have z7 : w5.cell? ⟨bx, 7, none⟩ = some (.slice A k cp) := Y5.out.cell 7
            have f7 := Y5.out.frozen 7
            clear ho5 ha5 hb5 hg5 hown5 C4x G4x X4x Y4x OB4x P4x AP3x N4
            refine hK _ _ ?_; clear hK K
            try simp only [Act.put, List.setIfInBounds_toArray, List.set_cons_zero, List.set_cons_succ]
            refine wpAny_ready (rs := [10]) (by kernel_rfl) (by simp) ?_
            refine AllReady.cons rfl (fun K hK => ?_) AllReady.nil
            go_simp
            refine hK _ _ ?_; clear hK K
            refine wpAny_ready (rs := [11]) (by kernel_rfl) (by simp) ?_
            refine AllReady.cons rfl (fun K hK => ?_) AllReady.nil
            go_simp
            refine hK _ _ ?_; clear hK K
            refine wpAny_done (by kernel_rfl) ?_ _
            obtain ⟨W5, hW5⟩ : ∃ W, W = w5.setCell ⟨bx, 7, none⟩ (.slice A5 (k + 3) c5) := ⟨_, rfl⟩
            rw [← hW5]
            have BT5 : Below bx w5 W5 := by rw [hW5]; exact (Below.refl _ _).setCell (by dsimp only; omega) _
            obtain ⟨x', hx'⟩ : ∃ x' : SD, x' = { x with ops := x.ops ++ [o1, o2, o3] } := ⟨_, rfl⟩
            rw [← hx'] at HE
            have Y9 : Hid (Blk W5 bx 37 (vxC x' (.slice A5 (k + 3) c5))) := Lib.hid (by rw [hW5, hx']; exact Y5.out.set_ 7 _)
            have X9 : Hid (Blk W5 w.heap.size 37 (vxC noX (.slice none 0 0))) := Lib.hid (X5.out.below BT5 (by omega))
            have C9 := Lib.hid (C5.out.belowB BT5 (by omega))
            have G9 := Lib.hid (G5.out.below_trans (BT5.mono (by omega)))
            have OB9 : Hid (ObO W5 (w.heap.size + 1) (.slice A5 (k + 3) c5) (k + 3) x'.ops (ivs ++ [.slice A1 o1.ids.length c1, .slice A2 o2.ids.length c2, .slice A3 o3.ids.length c3])) := Lib.hid (by rw [hx', hW5]; exact OB5.out.neSet HNV.out HNS.out _)
            have HW : Hid (x'.wf ∧ (∀ o ∈ x'.ops, o.wf ∧ o.ids.length ≤ 8) ∧ x'.ops.length ≤ 6 ∧ x'.da.size ≤ 121) := Lib.hid (by
              rw [hx']
              have all : ∀ o ∈ x.ops ++ [o1, o2, o3], o.wf ∧ o.ids.length ≤ 8 := fun o ho => by
                simp only [List.mem_append, List.mem_cons, List.not_mem_nil, or_false] at ho
                rcases ho with ho | rfl | rfl | rfl
                · exact HID.out o ho
                · exact HV1x.out
                · exact HV2x.out
                · exact HV3x.out
              refine ⟨⟨HWF.out.1, HWF.out.2.1, fun o ho => (all o ho).1⟩, all, ?_, HDA.out⟩
              show (x.ops ++ [o1, o2, o3]).length ≤ 6
              rw [List.length_append, HKN.out]
              simp only [List.length_cons, List.length_nil]
              omega)
            have HK : Hid (x'.ops.length = k + 3) := Lib.hid (by rw [hx']; show (x.ops ++ [o1, o2, o3]).length = _; rw [List.length_append, HKN.out]; rfl)
            have AP9 := AP5
            clear hW5 hx' z7 f7 BT5 C5 G5 X5 Y5 OB5
            go_wp2_with (first | (refine wpl_segI (q := x') rfl (by rfl) (by rfl) (Bx.of_blk Y9.out) ?_) | (refine wpl_store_segM (q := x') (A := A5) (n := (k + 3)) (c := c5) rfl (by rfl) (by rfl) (by rfl) X9.out rfl ?_))
            refine bodyPost_ret (results_seg rfl (by rfl) (Bx.setCells (vs := vxC x' (.slice A5 (k + 3) c5)) X9.out rfl)) rfl ?_
            rw [HE.out]
            have BT : Below w.heap.size W5 (W5.setCells w.heap.size 0 (vxC x' (.slice A5 (k + 3) c5))) := Below.setCells' (Below.refl _ _) (Nat.le_refl _) _ _
            refine ⟨.slice A5 (k + 3) c5, _, rfl, ?_, AP9.out, C9.out.belowB BT hgl, G9.out.below_trans BT, HW.out.1, HW.out.2.1, HW.out.2.2.1, HW.out.2.2.2⟩
            have ob := OB9.out
            show ObO _ _ _ (x').ops.length (x').ops _
            rw [show (x').ops.length = (k + 3) from HK.out]
            exact ⟨ob.lo, ob.li, (ob.row.farS (by omega) _ _).mono (by omega), fun i p c hp hc => ((ob.ids i p c hp hc).farS (by omega) _ _).mono (by omega)⟩
          · clear y7
            refine step_build3 rfl rfl (by rfl) (by rfl) (by rfl) ?_
            refine hK _ _ ?_; clear hK K
            obtain ⟨W4, hW4⟩ : ∃ W, W = v3.alloc (.cells (three o1 o2 o3 (.slice A1 o1.ids.length c1) (.slice A2 o2.ids.length c2) (.slice A3 o3.ids.length c3)).toArray 27) := ⟨_, rfl⟩
            rw [← hW4]
            obtain ⟨b4, hb4⟩ : ∃ b, b = v3.heap.size := ⟨_, rfl⟩
            have E4 := Lib.hid ((Below.refl v3.heap.size v3).alloc (Nat.le_refl _) (.cells (three o1 o2 o3 (.slice A1 o1.ids.length c1) (.slice A2 o2.ids.length c2) (.slice A3 o3.ids.length c3)).toArray 27))
            have N4 := Lib.hid (Bx.new v3 (three o1 o2 o3 (.slice A1 o1.ids.length c1) (.slice A2 o2.ids.length c2) (.slice A3 o3.ids.length c3)).toArray 27)
            rw [← hW4] at E4 N4
            rw [← hb4] at N4 ⊢
            have C4x := Lib.hid (C3x.out.below E4.out)
            have G4x := Lib.hid (G3x.out.trans (Grew.of_below E4.out))
            have X4x := Lib.hid (X3x.out.below E4.out X3x.out.lt)
            have Y4x := Lib.hid (Y3x.out.below E4.out Y3x.out.lt)
            have OB4x := Lib.hid (OB3x.out.below E4.out)
            have P4x : Hid (Obs W4 (w.heap.size + 1) 1 (.slice A1 o1.ids.length c1) o1.ids.length (o1.ids.map vn) ∧ Obs W4 (w.heap.size + 1) 1 (.slice A2 o2.ids.length c2) o2.ids.length (o2.ids.map vn) ∧ Obs W4 (w.heap.size + 1) 1 (.slice A3 o3.ids.length c3) o3.ids.length (o3.ids.map vn)) := Lib.hid ⟨P3x.out.1.below E4.out, P3x.out.2.1.below E4.out, P3x.out.2.2.below E4.out⟩
            have HBX : Hid (bx < W4.heap.size) := Lib.hid Y4x.out.lt
            clear hW4 hb4 E4 C3x G3x X3x Y3x OB3x P3x
            try simp only [Act.put, List.setIfInBounds_toArray, List.set_cons_zero, List.set_cons_succ]
            have y7 : W4.cell? ⟨bx, 7, none⟩ = some (.slice A k cp) := Y4x.out.cell 7
            refine wpAny_ready (rs := [1]) (by kernel_rfl) (by simp) ?_
            refine AllReady.cons rfl (fun K hK => ?_) AllReady.nil
            go_simp
            refine hK _ _ ?_; clear hK K
            clear y7
            refine wpAny_ready (rs := [9]) (by kernel_rfl) (by simp) ?_
            refine AllReady.cons (o := ⟨some 29, _, _, _, _, _⟩) rfl (fun K hK => ?_) AllReady.nil
            refine step_append_opts rfl _ _ rfl (w.heap.size + 1) (.slice A k cp) k x.ops ivs (by rfl) OB4x.out 3 [o1, o2, o3] [.slice A1 o1.ids.length c1, .slice A2 o2.ids.length c2, .slice A3 o3.ids.length c3] rfl rfl b4 (by rfl) (by rw [flatO_three]; exact N4.out) (by rw [flatO_three]; exact three_cells _ _ _ _ _ _ _ _ _ _ _ _) (fun k' q iv hq hi => by
              match k', hq, hi with
              | 0, hq, hi => simp only [List.getElem?_cons_zero, Option.some.injEq] at hq hi; subst hq; subst hi; exact P4x.out.1
              | 1, hq, hi => simp only [List.getElem?_cons_zero, List.getElem?_cons_succ, Option.some.injEq] at hq hi; subst hq; subst hi; exact P4x.out.2.1
              | 2, hq, hi => simp only [List.getElem?_cons_zero, List.getElem?_cons_succ, Option.some.injEq] at hq hi; subst hq; subst hi; exact P4x.out.2.2
              | k' + 3, hq, hi => simp at hq) (by have := AP3x.out; rw [List.append_assoc, List.append_assoc] at this; exact this) (by omega) (by have := Y4x.out.lt; omega) ?_
            intro v5 w5 ho5 ha5 hb5 hg5 hown5
            obtain ⟨A5, c5, rfl, _⟩ := ho5.rd.shape
            have OB5 := Lib.hid ho5
            have AP5 := Lib.hid ha5
            have X5 := Lib.hid (X4x.out.below hb5 (by omega))
            have Y5 := Lib.hid (Y4x.out.grown hg5 (fun e => by have := HOV.out bx e.symm; omega))
            have C5 := Lib.hid (C4x.out.belowB hb5 (by omega))
            have G5 := Lib.hid (G4x.out.below_trans (hb5.mono (by omega)))
            have HNV : Hid (∀ q, (Value.slice A5 (k + 3) c5).ownBlock = some q → q ≠ bx) := Lib.hid (fun q hq => by
              rcases hown5 with h | h
              · exact Nat.ne_of_lt (HOV.out q (by rw [← h]; exact hq))
              · have := h q hq; have := HBX.out; omega)
            have HNS : Hid (∀ a ∈ ivs ++ [.slice A1 o1.ids.length c1, .slice A2 o2.ids.length c2, .slice A3 o3.ids.length c3], ∀ q, a.ownBlock = some q → q ≠ bx) := Lib.hid (fun a ha q hq => by
              rcases List.mem_append.1 ha with h | h
              · exact Nat.ne_of_lt (HOS.out a h q hq)
              · simp only [List.mem_cons, List.not_mem_nil, or_false] at h
                rcases h with rfl | rfl | rfl
                · exact Nat.ne_of_gt (HB1x.out q hq)
                · exact Nat.ne_of_gt (HB2x.out q hq)
                · exact Nat.ne_of_gt (HB3x.out q hq))
            have z7 : w5.cell? ⟨bx, 7, none⟩ = some (.slice A k cp) := Y5.out.cell 7
            have f7 := Y5.out.frozen 7
            clear ho5 ha5 hb5 hg5 hown5 C4x G4x X4x Y4x OB4x P4x AP3x N4
            refine hK _ _ ?_; clear hK K
            try simp only [Act.put, List.setIfInBounds_toArray, List.set_cons_zero, List.set_cons_succ]
            refine wpAny_ready (rs := [10]) (by kernel_rfl) (by simp) ?_
            refine AllReady.cons rfl (fun K hK => ?_) AllReady.nil
            go_simp
            refine hK _ _ ?_; clear hK K
            refine wpAny_ready (rs := [11]) (by kernel_rfl) (by simp) ?_
            refine AllReady.cons rfl (fun K hK => ?_) AllReady.nil
            go_simp
            refine hK _ _ ?_; clear hK K
            refine wpAny_done (by kernel_rfl) ?_ _
            obtain ⟨W5, hW5⟩ : ∃ W, W = w5.setCell ⟨bx, 7, none⟩ (.slice A5 (k + 3) c5) := ⟨_, rfl⟩
            rw [← hW5]
            have BT5 : Below bx w5 W5 := by rw [hW5]; exact (Below.refl _ _).setCell (by dsimp only; omega) _
            obtain ⟨x', hx'⟩ : ∃ x' : SD, x' = { x with ops := x.ops ++ [o1, o2, o3] } := ⟨_, rfl⟩
            rw [← hx'] at HE
            have Y9 : Hid (Blk W5 bx 37 (vxC x' (.slice A5 (k + 3) c5))) := Lib.hid (by rw [hW5, hx']; exact Y5.out.set_ 7 _)
            have X9 : Hid (Blk W5 w.heap.size 37 (vxC noX (.slice none 0 0))) := Lib.hid (X5.out.below BT5 (by omega))
            have C9 := Lib.hid (C5.out.belowB BT5 (by omega))
            have G9 := Lib.hid (G5.out.below_trans (BT5.mono (by omega)))
            have OB9 : Hid (ObO W5 (w.heap.size + 1) (.slice A5 (k + 3) c5) (k + 3) x'.ops (ivs ++ [.slice A1 o1.ids.length c1, .slice A2 o2.ids.length c2, .slice A3 o3.ids.length c3])) := Lib.hid (by rw [hx', hW5]; exact OB5.out.neSet HNV.out HNS.out _)
            have HW : Hid (x'.wf ∧ (∀ o ∈ x'.ops, o.wf ∧ o.ids.length ≤ 8) ∧ x'.ops.length ≤ 6 ∧ x'.da.size ≤ 121) := Lib.hid (by
              rw [hx']
              have all : ∀ o ∈ x.ops ++ [o1, o2, o3], o.wf ∧ o.ids.length ≤ 8 := fun o ho => by
                simp only [List.mem_append, List.mem_cons, List.not_mem_nil, or_false] at ho
                rcases ho with ho | rfl | rfl | rfl
                · exact HID.out o ho
                · exact HV1x.out
                · exact HV2x.out
                · exact HV3x.out
              refine ⟨⟨HWF.out.1, HWF.out.2.1, fun o ho => (all o ho).1⟩, all, ?_, HDA.out⟩
              show (x.ops ++ [o1, o2, o3]).length ≤ 6
              rw [List.length_append, HKN.out]
              simp only [List.length_cons, List.length_nil]
              omega)
            have HK : Hid (x'.ops.length = k + 3) := Lib.hid (by rw [hx']; show (x.ops ++ [o1, o2, o3]).length = _; rw [List.length_append, HKN.out]; rfl)
            have AP9 := AP5
            clear hW5 hx' z7 f7 BT5 C5 G5 X5 Y5 OB5
            go_wp2_with (first | (refine wpl_segI (q := x') rfl (by rfl) (by rfl) (Bx.of_blk Y9.out) ?_) | (refine wpl_store_segM (q := x') (A := A5) (n := (k + 3)) (c := c5) rfl (by rfl) (by rfl) (by rfl) X9.out rfl ?_))
            refine bodyPost_ret (results_seg rfl (by rfl) (Bx.setCells (vs := vxC x' (.slice A5 (k + 3) c5)) X9.out rfl)) rfl ?_
            rw [HE.out]
            have BT : Below w.heap.size W5 (W5.setCells w.heap.size 0 (vxC x' (.slice A5 (k + 3) c5))) := Below.setCells' (Below.refl _ _) (Nat.le_refl _) _ _
            refine ⟨.slice A5 (k + 3) c5, _, rfl, ?_, AP9.out, C9.out.belowB BT hgl, G9.out.below_trans BT, HW.out.1, HW.out.2.1, HW.out.2.2.1, HW.out.2.2.2⟩
            have ob := OB9.out
            show ObO _ _ _ (x').ops.length (x').ops _
            rw [show (x').ops.length = (k + 3) from HK.out]
            exact ⟨ob.lo, ob.li, (ob.row.farS (by omega) _ _).mono (by omega), fun i p c hp hc => ((ob.ids i p c hp hc).farS (by omega) _ _).mono (by omega)⟩
  exact absurd hne (by omega)
end Go.Proofs.Ytkgbkgonlopciaa

namespace Go.Proofs.Ytkgbkgonlopciaa
open Go.RowKit
set_option linter.unusedVariables false
set_option linter.unusedSimpArgs false
/-- this segment has been drawn -/
def GivesG (x : SD) (w : World) (e : Ending) (w' : World) : Prop :=
  ∃ ov ivs, e = .returned (vx x ov) ∧ ObO w' w.heap.size ov x.ops.length x.ops ivs ∧ Below w.heap.size w w' ∧ x.wf ∧ (∀ o ∈ x.ops, o.wf ∧ o.ids.length ≤ 8) ∧ x.ops.length ≤ 6 ∧ x.da.size ≤ 121
def GivesG2 (x : SD) (k : Int) (w : World) (e : Ending) (w' : World) : Prop :=
  ∃ ov ivs, e = .returned (.tuple #[vx x ov, .int .i64 k]) ∧ ObO w' w.heap.size ov x.ops.length x.ops ivs ∧ Below w.heap.size w w' ∧ x.wf ∧ (∀ o ∈ x.ops, o.wf ∧ o.ids.length ≤ 8) ∧ x.ops.length ≤ 6 ∧ x.da.size ≤ 121
theorem ObO.ges {w : World} {B n : Nat} {v : Value} {os : List OD} {ivs : List Value} (h : ObO w B v n os ivs) : ∀ a ∈ ivs, ∀ g, a.ownBlock = some g → B ≤ g := fun a ha g hg => by
  obtain ⟨k, hk, rfl⟩ := List.getElem_of_mem ha
  have hk2 : k < os.length := by have := h.lo; have := h.li; omega
  exact ((h.ids k _ _ (List.getElem?_eq_getElem hk2) (List.getElem?_eq_getElem hk)).lt g hg).1
theorem ObO.grewNe {w w' : World} {B n g : Nat} {v : Value} {os : List OD} {ivs : List Value} (h : ObO w B v n os ivs) (hg : Grew w w' g) (hv : ∀ k, v.ownBlock = some k → k ≠ g) (hvs : ∀ a ∈ ivs, ∀ k, a.ownBlock = some k → k ≠ g) : ObO w' B v n os ivs :=
  ⟨h.lo, h.li, h.row.grew hg hv, fun k o iv ho hi => (h.ids k o iv ho hi).grew hg (fun q hq => hvs iv (List.mem_of_getElem? hi) q hq)⟩
set_option maxRecDepth 100000 in
set_option maxHeartbeats 1600000 in
theorem drawSegText_u (v : Value) (n : Nat) (xs : List Int) (w : World) (hv : Rd w 1 v n (xs.map (Value.int .u8))) (hx : ∀ x ∈ xs, 0 ≤ x ∧ x ≤ 255) (hn : n ≤ 1048576) :
    Calls Try.prog 51 #[v] w (GivesG (segA xs (newS xs n)).1 w) := by
  obtain ⟨R, hR⟩ : ∃ R, R = segA xs (newS xs n) := ⟨_, rfl⟩
  rw [← hR]
  obtain ⟨A, cap, rfl, hm⟩ := hv.shape
  have HR := Lib.hid hR
  have HV := Lib.hid hv
  have HX := Lib.hid hx
  clear hR hv hx hm
  go_enter Try.func51, Try.ntmps51
  go_upto_region 1 with (fail)
  obtain ⟨W, hW⟩ : ∃ W, W = w.alloc (.cells (vxC noX (.slice none 0 0)).toArray 37) := ⟨_, rfl⟩
  change Code.wp _ _ _ _ (w.alloc (.cells (vxC noX (.slice none 0 0)).toArray 37))
  rw [← hW]
  have E0 := (Below.refl w.heap.size w).alloc (Nat.le_refl _) (.cells (vxC noX (.slice none 0 0)).toArray 37)
  have X0 := Lib.hid (Blk.new w 37 (vxC noX (.slice none 0 0)).toArray)
  rw [← hW] at E0 X0
  have L0 := Lib.hid E0
  clear hW E0
  go_wp2_with fail
  refine (new_u _ n xs _ (HV.out.below L0.out) HX.out hn).mono ?_
  rintro e w1 ⟨rfl, hc, hb⟩
  obtain ⟨g, hg⟩ : ∃ g, g = W.heap.size := ⟨_, rfl⟩
  rw [← hg] at hc ⊢
  have C1 := Lib.hid hc
  have X1 := Lib.hid (X0.out.below hb X0.out.lt)
  have L1 := Lib.hid (L0.out.trans (hb.mono L0.out.size))
  have S1 : Hid (w.heap.size < g) := Lib.hid (by rw [hg]; exact X0.out.lt)
  clear hc hb hg L0 X0
  go_wp2_with fail
  refine (segAny_u _ n xs (newS xs n) g _ C1.out).mono ?_
  rw [← HR.out]
  rintro e w2 ⟨ov, ivs, rfl, ho, ha, hc, hgr, hwf, hid, hn6, hda⟩
  clear HR
  obtain ⟨x, s⟩ := R
  dsimp only at ho hc hwf hid hn6 hda ⊢
  obtain ⟨A2, cp, rfl, _⟩ := ho.rd.shape
  have hlt := S1.out
  have SX : w.heap.size + 1 ≤ w1.heap.size := X1.out.lt
  have O2 := Lib.hid (ho.mono SX)
  have X2 := Lib.hid (X1.out.grew hgr (by omega))
  have L2 := Lib.hid (L1.out.trans (hgr.below L1.out.size (Nat.le_of_lt hlt)))
  have HW := Lib.hid (And.intro hwf (And.intro hid (And.intro hn6 hda)))
  clear ho ha hc hgr hwf hid hn6 hda hlt SX L1 X1 C1
  go_wp2_with (refine wpl_store_segM (q := x) (A := A2) (n := x.ops.length) (c := cp) rfl (by rfl) (by rfl) (by rfl) X2.out rfl ?_)
  refine bodyPost_ret (results_seg rfl (by rfl) (Bx.setCells (vs := vxC x (.slice A2 x.ops.length cp)) X2.out rfl)) rfl ?_
  exact ⟨.slice A2 x.ops.length cp, ivs, rfl, ⟨O2.out.lo, O2.out.li, (O2.out.row.farS (by omega) _ _).mono (by omega), fun i p c hp hc => ((O2.out.ids i p c hp hc).farS (by omega) _ _).mono (by omega)⟩, Below.setCells' L2.out (Nat.le_refl _) _ _, HW.out.1, HW.out.2.1, HW.out.2.2.1, HW.out.2.2.2⟩
set_option maxRecDepth 100000 in
set_option maxHeartbeats 1600000 in
theorem drawFirstOpt_u (v : Value) (n : Nat) (xs : List Int) (w : World) (hv : Rd w 1 v n (xs.map (Value.int .u8))) (hx : ∀ x ∈ xs, 0 ≤ x ∧ x ≤ 255) (hn : n ≤ 1048576) :
    Calls Try.prog 27 #[v] w (GivesG2 (segA xs (newS xs n)).1 ((1 + belowX xs 10 (segA xs (newS xs n)).2 : Nat) : Int) w) := by
  obtain ⟨R, hR⟩ : ∃ R, R = segA xs (newS xs n) := ⟨_, rfl⟩
  rw [← hR]
  obtain ⟨kd, hkd⟩ : ∃ kd, kd = 1 + belowX xs 10 R.2 := ⟨_, rfl⟩
  rw [← hkd]
  obtain ⟨A, cap, rfl, hm⟩ := hv.shape
  have HKD := Lib.hid hkd
  clear hkd
  have HR := Lib.hid hR
  have HV := Lib.hid hv
  have HX := Lib.hid hx
  clear hR hv hx hm
  go_enter Try.func27, Try.ntmps27
  go_upto_region 1 with (fail)
  obtain ⟨W, hW⟩ : ∃ W, W = w.alloc (.cells (vxC noX (.slice none 0 0)).toArray 37) := ⟨_, rfl⟩
  change Code.wp _ _ _ _ (w.alloc (.cells (vxC noX (.slice none 0 0)).toArray 37))
  rw [← hW]
  have E0 := (Below.refl w.heap.size w).alloc (Nat.le_refl _) (.cells (vxC noX (.slice none 0 0)).toArray 37)
  have X0 := Lib.hid (Blk.new w 37 (vxC noX (.slice none 0 0)).toArray)
  rw [← hW] at E0 X0
  have L0 := Lib.hid E0
  clear hW E0
  go_wp2_with fail
  refine (new_u _ n xs _ (HV.out.below L0.out) HX.out hn).mono ?_
  rintro e w1 ⟨rfl, hc, hb⟩
  obtain ⟨g, hg⟩ : ∃ g, g = W.heap.size := ⟨_, rfl⟩
  rw [← hg] at hc ⊢
  have C1 := Lib.hid hc
  have X1 := Lib.hid (X0.out.below hb X0.out.lt)
  have L1 := Lib.hid (L0.out.trans (hb.mono L0.out.size))
  have S1 : Hid (w.heap.size < g) := Lib.hid (by rw [hg]; exact X0.out.lt)
  clear hc hb hg L0 X0
  go_wp2_with fail
  refine (segAny_u _ n xs (newS xs n) g _ C1.out).mono ?_
  rw [← HR.out]
  rintro e w2 ⟨ov, ivs, rfl, ho, ha, hc, hgr, hwf, hid, hn6, hda⟩
  clear HR
  obtain ⟨x, s⟩ := R
  have HKX : Hid (kd = 1 + belowX xs 10 s) := Lib.hid HKD.out
  clear HKD
  dsimp only at ho hc hwf hid hn6 hda ⊢
  obtain ⟨A2, cp, rfl, _⟩ := ho.rd.shape
  have hlt := S1.out
  have SX : w.heap.size + 1 ≤ w1.heap.size := X1.out.lt
  have O2 := Lib.hid (ho.mono SX)
  have X2 := Lib.hid (X1.out.grew hgr (by omega))
  have L2 := Lib.hid (L1.out.trans (hgr.below L1.out.size (Nat.le_of_lt hlt)))
  have HW := Lib.hid (And.intro hwf (And.intro hid (And.intro hn6 hda)))
  have C2 := Lib.hid hc
  have HLG : Hid (g < w1.heap.size) := Lib.hid C1.out.lt
  have HQ : Hid ((∀ q, (Value.slice A2 x.ops.length cp).ownBlock = some q → w1.heap.size ≤ q) ∧ ∀ a ∈ ivs, ∀ q, a.ownBlock = some q → w1.heap.size ≤ q) := Lib.hid ⟨fun q hq => (ho.row.lt q hq).1, ho.ges⟩
  clear ho ha hc hgr hwf hid hn6 hda SX L1 X1 C1
  obtain ⟨N, hN⟩ : ∃ N, N = belowX xs 10 s := ⟨_, rfl⟩
  have bN : N < 10 := by rw [hN]; exact belowX_lt xs s (by omega)
  have HKN : Hid ((1 : Int) + (N : Int) = (kd : Int)) := Lib.hid (by rw [HKX.out, hN]; omega)
  have HN := Lib.hid hN
  clear hN HKX
  go_wp2_with fail
  refine (below_u _ n xs s g 10 _ C2.out (by omega) (by omega)).mono ?_
  rw [← HN.out]
  rintro e w3 ⟨rfl, hc, hg⟩
  have X3 := Lib.hid (X2.out.grew hg (by omega))
  have L3 := Lib.hid (L2.out.trans (hg.below L2.out.size (Nat.le_of_lt hlt)))
  have O3 := Lib.hid (O2.out.grewNe hg (fun q hq => by have := HQ.out.1 q hq; have := HLG.out; omega) (fun a ha q hq => by have := HQ.out.2 a ha q hq; have := HLG.out; omega))
  clear hc hg X2 L2 O2 C2 hlt
  go_wp2_with (refine wpl_store_segM (q := x) (A := A2) (n := x.ops.length) (c := cp) rfl (by rfl) (by rfl) (by rfl) X3.out rfl ?_)
  rw [HKN.out]
  refine bodyPost_ret (results_seg2 rfl (by rfl) (by rfl) (Bx.setCells (vs := vxC x (.slice A2 x.ops.length cp)) X3.out rfl)) rfl ?_
  exact ⟨.slice A2 x.ops.length cp, ivs, rfl, ⟨O3.out.lo, O3.out.li, (O3.out.row.farS (by omega) _ _).mono (by omega), fun i p c hp hc => ((O3.out.ids i p c hp hc).farS (by omega) _ _).mono (by omega)⟩, Below.setCells' L3.out (Nat.le_refl _) _ _, HW.out.1, HW.out.2.1, HW.out.2.2.1, HW.out.2.2.2⟩
end Go.Proofs.Ytkgbkgonlopciaa
