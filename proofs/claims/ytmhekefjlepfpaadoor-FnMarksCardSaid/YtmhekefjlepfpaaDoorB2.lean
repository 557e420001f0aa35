/- The walk: impl.compress. -/
import Derived.Test.YtmhekefjlepfpaaDoorProg
import Derived.Test.YtmhekefjlepfpaaDoorK
import Derived.Test.YtmhekefjlepfpaaDoorK2
import Derived.Test.YtmhekefjlepfpaaDoorS
import Derived.Test.YtmhekefjlepfpaaDoorB1
import Derived.StillTailTactics
import Derived.Deep.QuietTactic
import Derived.BigQuiet
import Derived.Outline
import Derived.RegionTactic
namespace Go.Proofs.YtmhekefjlepfpaaDoor
open Go.RowKit
set_option linter.unusedVariables false
set_option linter.unusedSimpArgs false

set_option maxRecDepth 100000 in
set_option maxHeartbeats 2000000 in
theorem compress_i (s : St) (hs : s.ok) (blk : ByteArray) (hb : blk.size = 64) (w : World) (hK : HoldsK w) :
    Calls Tryd.prog 67 #[.agg (stv s), .string blk] w fun e w' => e = .returned (.agg (stv (compS s blk.data.toList))) ∧ Below w.heap.size w w' := by
  have HB := Lib.hid hb
  clear hb
  obtain ⟨r, hr⟩ : ∃ r, r = compS s blk.data.toList := ⟨_, rfl⟩
  rw [← hr]
  have HR := Lib.hid hr
  clear hr
  unfold stv vw
  go_enter Tryd.func67, Tryd.ntmps67
  go_wp2
  have b0 := (((Blk.new w 53 (stv s)).alloc (.cells (stv ⟨0, 0, 0, 0, 0, 0, 0, 0⟩) 53)).alloc (.cells (List.replicate 64 (vw 0)).toArray 56))
  have b1 := ((Blk.new (w.alloc (.cells (stv s) 53)) 53 (stv ⟨0, 0, 0, 0, 0, 0, 0, 0⟩)).alloc (.cells (List.replicate 64 (vw 0)).toArray 56))
  have b2 := Blk.new ((w.alloc (.cells (stv s) 53)).alloc (.cells (stv ⟨0, 0, 0, 0, 0, 0, 0, 0⟩) 53)) 56 (List.replicate 64 (vw 0)).toArray
  have bl : Below w.heap.size w (((w.alloc (.cells (stv s) 53)).alloc (.cells (stv ⟨0, 0, 0, 0, 0, 0, 0, 0⟩) 53)).alloc (.cells (List.replicate 64 (vw 0)).toArray 56)) := (((Below.refl _ w).alloc (Nat.le_refl _) _).alloc (by simp) _).alloc (by simp; omega) _
  simp only [World.size_alloc] at b1 b2
  have B0 := Lib.hid b0
  have B1 := Lib.hid b1
  have B2 := Lib.hid b2
  have BL := Lib.hid bl
  clear b0 b1 b2 bl
  go_loopw [18] (fun i wr => ∃ k : Nat, k ≤ 64 ∧ i = .int .i64 (k : Int) ∧ Hid (Blk wr (w.heap.size + 1 + 1) 56 (schC blk.data.toList k)) ∧ Hid (Blk wr w.heap.size 53 (stv s).toList) ∧ Hid (Blk wr (w.heap.size + 1) 53 (stv ⟨0, 0, 0, 0, 0, 0, 0, 0⟩).toList) ∧ Hid (Below w.heap.size w wr)) (fun i _ => 64 - (intOf i).toNat)
  case atStart => exact ⟨0, Nat.zero_le _, rfl, B2, B0, B1, BL⟩
  case round =>
    clear B0 B1 B2 BL
    obtain ⟨k, hk, rfl, B2, B0, B1, BL⟩ := hrel
    by_cases hlt : k < 64
    · have hsz := B2.out.lt
      have hfr := B2.out.frozen k
      have hcell : wr.cell? ⟨w.heap.size + 1 + 1, k, none⟩ = some ((schC blk.data.toList k)[k]'(by rw [schC_len hk]; exact hlt)) := (B2.out.cell k).trans (List.getElem?_eq_getElem _)
      by_cases h16 : k < 16
      · have HX : Hid (∀ j, j < 64 → j < blk.size) := Lib.hid (fun j hj => by have := HB.out; omega)
        have w0 : IntKind.i64.wrap (4 * (k : Int)) = 4 * (k : Int) := IntWalk.i64_in _ (by omega)
        have t0 : (4 * (k : Int)).toNat = 4 * k := by omega
        have l0 : (0 : Int) ≤ 4 * (k : Int) := by omega
        have u0 : 4 * (k : Int) < (blk.size : Int) := by have := HB.out; omega
        have w1 : IntKind.i64.wrap (4 * (k : Int) + 1) = 4 * (k : Int) + 1 := IntWalk.i64_in _ (by omega)
        have t1 : (4 * (k : Int) + 1).toNat = 4 * k + 1 := by omega
        have l1 : (0 : Int) ≤ 4 * (k : Int) + 1 := by omega
        have u1 : 4 * (k : Int) + 1 < (blk.size : Int) := by have := HB.out; omega
        have w2 : IntKind.i64.wrap (4 * (k : Int) + 2) = 4 * (k : Int) + 2 := IntWalk.i64_in _ (by omega)
        have t2 : (4 * (k : Int) + 2).toNat = 4 * k + 2 := by omega
        have l2 : (0 : Int) ≤ 4 * (k : Int) + 2 := by omega
        have u2 : 4 * (k : Int) + 2 < (blk.size : Int) := by have := HB.out; omega
        have w3 : IntKind.i64.wrap (4 * (k : Int) + 3) = 4 * (k : Int) + 3 := IntWalk.i64_in _ (by omega)
        have t3 : (4 * (k : Int) + 3).toNat = 4 * k + 3 := by omega
        have l3 : (0 : Int) ≤ 4 * (k : Int) + 3 := by omega
        have u3 : 4 * (k : Int) + 3 < (blk.size : Int) := by have := HB.out; omega
        have i0 : 4 * k < blk.size := by have := HB.out; omega
        have x0 := blk[4 * k].toNat_lt
        have p0 : IntKind.u32.wrap (blk[4 * k].toNat : Int) = (blk[4 * k].toNat : Int) := by rw [IntKind.wrap_u32']; omega
        have i1 : 4 * k + 1 < blk.size := by have := HB.out; omega
        have x1 := blk[4 * k + 1].toNat_lt
        have p1 : IntKind.u32.wrap (blk[4 * k + 1].toNat : Int) = (blk[4 * k + 1].toNat : Int) := by rw [IntKind.wrap_u32']; omega
        have i2 : 4 * k + 2 < blk.size := by have := HB.out; omega
        have x2 := blk[4 * k + 2].toNat_lt
        have p2 : IntKind.u32.wrap (blk[4 * k + 2].toNat : Int) = (blk[4 * k + 2].toNat : Int) := by rw [IntKind.wrap_u32']; omega
        have i3 : 4 * k + 3 < blk.size := by have := HB.out; omega
        have x3 := blk[4 * k + 3].toNat_lt
        have p3 : IntKind.u32.wrap (blk[4 * k + 3].toNat : Int) = (blk[4 * k + 3].toNat : Int) := by rw [IntKind.wrap_u32']; omega
        have r0 : IntKind.u32.wrap ((blk[4 * k].toNat : Int) * 16777216) = (blk[4 * k].toNat : Int) * 16777216 := by rw [IntKind.wrap_u32']; omega
        have r1 : IntKind.u32.wrap ((blk[4 * k + 1].toNat : Int) * 65536) = (blk[4 * k + 1].toNat : Int) * 65536 := by rw [IntKind.wrap_u32']; omega
        have r2 : IntKind.u32.wrap ((blk[4 * k + 2].toNat : Int) * 256) = (blk[4 * k + 2].toNat : Int) * 256 := by rw [IntKind.wrap_u32']; omega
        have hor : bits BinOp.or IntKind.u32 (bits BinOp.or IntKind.u32 (bits BinOp.or IntKind.u32 ((blk[4 * k].toNat : Int) * 16777216) ((blk[4 * k + 1].toNat : Int) * 65536)) ((blk[4 * k + 2].toNat : Int) * 256)) (blk[4 * k + 3].toNat : Int) = (wordAt blk.data.toList k : Int) := by
          rw [or3_bits _ _ _ _ x0 x1 x2 x3]
          unfold wordAt
          rw [getD_byte blk _ i0, getD_byte blk _ i1, getD_byte blk _ i2, getD_byte blk _ i3]
        have H2 := Lib.hid ((B2.out.set_ k (vw (wordAt blk.data.toList k))).eq (schC_set hlt _ (by rw [if_pos h16])))
        have H0 := Lib.hid (B0.out.far (p := ⟨w.heap.size + 1 + 1, k, none⟩) (by dsimp only; omega) (vw (wordAt blk.data.toList k)))
        have H1 := Lib.hid (B1.out.far (p := ⟨w.heap.size + 1 + 1, k, none⟩) (by dsimp only; omega) (vw (wordAt blk.data.toList k)))
        have HL := Lib.hid (BL.out.setCell (p := ⟨w.heap.size + 1 + 1, k, none⟩) (by dsimp only; omega) (vw (wordAt blk.data.toList k)))
        clear B2 B0 B1 BL x0 x1 x2 x3
        go_wp2
        go_still_tail 31, (by kernel_rfl)
        change wpList _ _ _ _ _ wr.drew
        go_wp2
        go_roundw
        case rel => exact ⟨k + 1, hlt, by go_num, H2, H0, H1, Lib.hid HL.out.drew⟩
        case measure => simp [intOf]; omega
      · have hW : ∀ j, j < k → wr.cell? ⟨w.heap.size + 1 + 1, j, none⟩ = some (vw ((wsch blk.data.toList k).getD j 0)) := fun j hj => (B2.out.cell j).trans (schC_get hj)
        have c15 := hW (k - 15) (by omega)
        have c2 := hW (k - 2) (by omega)
        have c16 := hW (k - 16) (by omega)
        have c7 := hW (k - 7) (by omega)
        clear hW
        have z15 := wsch_getD_lt blk.data.toList k (k - 15)
        have z2 := wsch_getD_lt blk.data.toList k (k - 2)
        have z16 := wsch_getD_lt blk.data.toList k (k - 16)
        have z7 := wsch_getD_lt blk.data.toList k (k - 7)
        obtain ⟨W15, hW15⟩ : ∃ x, x = (wsch blk.data.toList k).getD (k - 15) 0 := ⟨_, rfl⟩
        obtain ⟨W2, hW2⟩ : ∃ x, x = (wsch blk.data.toList k).getD (k - 2) 0 := ⟨_, rfl⟩
        obtain ⟨W16, hW16⟩ : ∃ x, x = (wsch blk.data.toList k).getD (k - 16) 0 := ⟨_, rfl⟩
        obtain ⟨W7, hW7⟩ : ∃ x, x = (wsch blk.data.toList k).getD (k - 7) 0 := ⟨_, rfl⟩
        rw [← hW15] at c15 z15
        rw [← hW2] at c2 z2
        rw [← hW16] at c16 z16
        rw [← hW7] at c7 z7
        unfold vw at c15 c2 c16 c7
        obtain ⟨NX, hNX⟩ : ∃ NX, NX = ((((W16 + W7) % 4294967296 + sg0 W15) % 4294967296 + sg1 W2) % 4294967296) := ⟨_, rfl⟩
        have hx : (((W16 + W7) % 4294967296 + sg0 W15) % 4294967296 + sg1 W2) % 4294967296 = wnext (wsch blk.data.toList k) k := by rw [hW15, hW2, hW16, hW7]; rfl
        have H2 := Lib.hid ((B2.out.set_ k (vw NX)).eq (schC_set hlt _ (by rw [if_neg h16, hNX]; exact hx)))
        have H0 := Lib.hid (B0.out.far (p := ⟨w.heap.size + 1 + 1, k, none⟩) (by dsimp only; omega) (vw NX))
        have H1 := Lib.hid (B1.out.far (p := ⟨w.heap.size + 1 + 1, k, none⟩) (by dsimp only; omega) (vw NX))
        have HL := Lib.hid (BL.out.setCell (p := ⟨w.heap.size + 1 + 1, k, none⟩) (by dsimp only; omega) (vw NX))
        have XA : IntKind.u32.wrap (IntKind.u32.wrap (IntKind.u32.wrap ((W16 : Int) + W7) + sg0 W15) + sg1 W2) = (NX : Int) := by rw [wrap4, hNX]
        clear B2 B0 B1 BL hx hNX hW15 hW2 hW16 hW7
        have l15 : (0 : Int) ≤ (k : Int) - 15 := by omega
        have l2 : (0 : Int) ≤ (k : Int) - 2 := by omega
        have u15 : (k : Int) - 15 < 64 := by omega
        have u2 : (k : Int) - 2 < 64 := by omega
        have t15 : ((k : Int) - 15).toNat = k - 15 := by omega
        have t2 : ((k : Int) - 2).toNat = k - 2 := by omega
        have w15 : IntKind.i64.wrap ((k : Int) - 15) = (k : Int) - 15 := IntWalk.i64_in _ (by omega)
        have w2 : IntKind.i64.wrap ((k : Int) - 2) = (k : Int) - 2 := IntWalk.i64_in _ (by omega)
        go_wp2
        go_quiet (fail)
        go_wp2
        have m16 : (16 : Int) ≤ k := by omega
        have m7 : (7 : Int) ≤ k := by omega
        have X0 := sg0_bits W15 z15
        have X1 := sg1_bits W2 z2
        have l16 : (0 : Int) ≤ (k : Int) - 16 := by omega
        have l7 : (0 : Int) ≤ (k : Int) - 7 := by omega
        have u16 : (k : Int) - 16 < 64 := by omega
        have u7 : (k : Int) - 7 < 64 := by omega
        have t16 : ((k : Int) - 16).toNat = k - 16 := by omega
        have t7 : ((k : Int) - 7).toNat = k - 7 := by omega
        have w16 : IntKind.i64.wrap ((k : Int) - 16) = (k : Int) - 16 := IntWalk.i64_in _ (by omega)
        have w7 : IntKind.i64.wrap ((k : Int) - 7) = (k : Int) - 7 := IntWalk.i64_in _ (by omega)
        refine wp_region_still_tail 29 (by kernel_rfl) (by kernel_rfl) ?_
        simp only [List.take_succ_cons, List.take_zero, List.drop_succ_cons, List.drop_zero]
        change wpStill _ _ (World.drew (wr.drewN nq)) (fun a' => wpList _ _ _ _ a' (World.drew (wr.drewN nq))) _ _
        repeat still_step
        still_call (turn_i' W15 7 _ z15 (by omega) (by omega))
        repeat still_step
        still_call (turn_i' W15 18 _ z15 (by omega) (by omega))
        repeat still_step
        still_call (turn_i' W2 17 _ z2 (by omega) (by omega))
        repeat still_step
        still_call (turn_i' W2 19 _ z2 (by omega) (by omega))
        repeat still_step
        refine wpStill_nil ?_
        go_wp2
        go_roundw
        case rel => exact ⟨k + 1, hlt, by go_num, H2, H0, H1, Lib.hid (below_drewN HL.out _)⟩
        case measure => simp [intOf]; omega
    · have e64 : k = 64 := by omega
      rw [e64] at B2
      clear e64
      have c0 : wr.cell? ⟨w.heap.size, 0, none⟩ = some (.int .u32 (s.a : Int)) := B0.out.cell 0
      have c1 : wr.cell? ⟨w.heap.size, 1, none⟩ = some (.int .u32 (s.b : Int)) := B0.out.cell 1
      have c2 : wr.cell? ⟨w.heap.size, 2, none⟩ = some (.int .u32 (s.c : Int)) := B0.out.cell 2
      have c3 : wr.cell? ⟨w.heap.size, 3, none⟩ = some (.int .u32 (s.d : Int)) := B0.out.cell 3
      have c4 : wr.cell? ⟨w.heap.size, 4, none⟩ = some (.int .u32 (s.e : Int)) := B0.out.cell 4
      have c5 : wr.cell? ⟨w.heap.size, 5, none⟩ = some (.int .u32 (s.f : Int)) := B0.out.cell 5
      have c6 : wr.cell? ⟨w.heap.size, 6, none⟩ = some (.int .u32 (s.g : Int)) := B0.out.cell 6
      have c7 : wr.cell? ⟨w.heap.size, 7, none⟩ = some (.int .u32 (s.h : Int)) := B0.out.cell 7
      obtain ⟨wo, rfl⟩ : ∃ wo : World, wo = wr := ⟨_, rfl⟩
      have bG : Blk (wo.alloc (.cells (stv s) 53)) wo.heap.size 53 (stv s).toList := Blk.new wo 53 (stv s)
      have D2 := Lib.hid (B2.out.alloc (.cells (stv s) 53))
      have D0 := Lib.hid (B0.out.alloc (.cells (stv s) 53))
      have D1 := Lib.hid (B1.out.alloc (.cells (stv s) 53))
      have DL := Lib.hid (BL.out.alloc BL.out.size (.cells (stv s) 53))
      have DG := Lib.hid bG
      have hG : w.heap.size + 1 + 1 < wo.heap.size := B2.out.lt
      clear bG B2 B0 B1 BL
      go_wp2
      clear c0 c1 c2 c3 c4 c5 c6 c7
      go_loopw [93] (fun i wr => ∃ k : Nat, k ≤ 64 ∧ i = .int .i64 (k : Int) ∧ Hid (Blk wr wo.heap.size 53 (stv (srounds (wsch blk.data.toList 64) s k)).toList) ∧ Hid (Blk wr (w.heap.size + 1 + 1) 56 (schC blk.data.toList 64)) ∧ Hid (Blk wr w.heap.size 53 (stv s).toList) ∧ Hid (Blk wr (w.heap.size + 1) 53 (stv ⟨0, 0, 0, 0, 0, 0, 0, 0⟩).toList) ∧ Hid (Below w.heap.size w wr)) (fun i _ => 64 - (intOf i).toNat)
      case atStart =>
        exact ⟨0, Nat.zero_le _, rfl, DG, D2, D0, D1, DL⟩
      case round =>
        clear DG D2 D0 D1 DL
        obtain ⟨k, hk, rfl, DG, D2, D0, D1, DL⟩ := hrel
        by_cases hlt : k < 64
        · obtain ⟨t, ht⟩ : ∃ t, t = srounds (wsch blk.data.toList 64) s k := ⟨_, rfl⟩
          have tok : t.ok := by rw [ht]; exact srounds_ok hs k
          rw [← ht] at DG
          obtain ⟨KK, hKK⟩ : ∃ x, x = roundK.getD k 0 := ⟨_, rfl⟩
          obtain ⟨WW, hWW⟩ : ∃ x, x = (wsch blk.data.toList 64).getD k 0 := ⟨_, rfl⟩
          have HN : Hid (srounds (wsch blk.data.toList 64) s (k + 1) = sround KK WW t) := Lib.hid (by rw [hKK, hWW, ht]; rfl)
          obtain ⟨za, zb, zc, zd, ze, zf, zg, zh⟩ := tok
          have cK : wr.cell? ⟨1, k, none⟩ = some (.int .u32 (KK : Int)) := by rw [hKK]; exact (DL.out.cell (p := ⟨1, k, none⟩) hK.1).trans (hK.2 k hlt)
          have cW : wr.cell? ⟨w.heap.size + 1 + 1, k, none⟩ = some (.int .u32 (WW : Int)) := by rw [hWW]; exact (D2.out.cell k).trans (schC_get hlt)
          clear hKK hWW ht
          have c0 : wr.cell? ⟨wo.heap.size, 0, none⟩ = some (.int .u32 (t.a : Int)) := DG.out.cell 0
          have c1 : wr.cell? ⟨wo.heap.size, 1, none⟩ = some (.int .u32 (t.b : Int)) := DG.out.cell 1
          have c2 : wr.cell? ⟨wo.heap.size, 2, none⟩ = some (.int .u32 (t.c : Int)) := DG.out.cell 2
          have c3 : wr.cell? ⟨wo.heap.size, 3, none⟩ = some (.int .u32 (t.d : Int)) := DG.out.cell 3
          have c4 : wr.cell? ⟨wo.heap.size, 4, none⟩ = some (.int .u32 (t.e : Int)) := DG.out.cell 4
          have c5 : wr.cell? ⟨wo.heap.size, 5, none⟩ = some (.int .u32 (t.f : Int)) := DG.out.cell 5
          have c6 : wr.cell? ⟨wo.heap.size, 6, none⟩ = some (.int .u32 (t.g : Int)) := DG.out.cell 6
          have c7 : wr.cell? ⟨wo.heap.size, 7, none⟩ = some (.int .u32 (t.h : Int)) := DG.out.cell 7
          have f0 := DG.out.frozen 0
          have f1 := DG.out.frozen 1
          have f2 := DG.out.frozen 2
          have f3 := DG.out.frozen 3
          have f4 := DG.out.frozen 4
          have f5 := DG.out.frozen 5
          have f6 := DG.out.frozen 6
          have f7 := DG.out.frozen 7
          obtain ⟨NA, hNA⟩ : ∃ x, x = (xOf KK WW t + yOf t) % 4294967296 := ⟨_, rfl⟩
          obtain ⟨NE, hNE⟩ : ∃ x, x = (t.d + xOf KK WW t) % 4294967296 := ⟨_, rfl⟩
          have RA : ((xOf KK WW t : Int) + (yOf t : Int)) % 4294967296 = (NA : Int) := by rw [hNA]; omega
          have RE : ((t.d : Int) + (xOf KK WW t : Int)) % 4294967296 = (NE : Int) := by rw [hNE]; omega
          have HS : Hid (sround KK WW t = ⟨NA, t.a, t.b, t.c, NE, t.e, t.f, t.g⟩) := Lib.hid (by rw [hNA, hNE]; rfl)
          clear hNA hNE
          have RC := ch_bits t.e t.f t.g ze zf zg
          have RM := maj_bits t.a t.b t.c za zb zc
          have R1 := big1_bits t.e ze
          have R0 := big0_bits t.a za
          have RX := wrapX KK WW t
          have RY := wrapY t
          go_wp2
          go_quiet (fail)
          go_wp2
          refine wp_region_still_lit (by kernel_rfl) (by kernel_rfl) ?_
          change wpStill _ _ (World.drew (wr.drewN nq)) (fun a' => Exit.then _ _ Exit.normal a' (World.drew (wr.drewN nq))) _ _
          repeat still_step
          still_call (turn_i' t.e 6 _ ze (by omega) (by omega))
          repeat still_step
          still_call (turn_i' t.e 11 _ ze (by omega) (by omega))
          repeat still_step
          still_call (turn_i' t.e 25 _ ze (by omega) (by omega))
          repeat still_step
          refine wpStill_nil ?_
          go_wp2_with (first | (go_at_call 88; ((with_reducible refine (turn_i_2 t.a _ za).mono ?_); rintro e w' ⟨rfl, rfl⟩)) | (go_at_call 88; ((with_reducible refine (turn_i_13 t.a _ za).mono ?_); rintro e w' ⟨rfl, rfl⟩)) | (go_at_call 88; ((with_reducible refine (turn_i_22 t.a _ za).mono ?_); rintro e w' ⟨rfl, rfl⟩)))
          go_roundw
          case rel =>
            refine ⟨k + 1, hlt, by go_num, ?_, ?_, ?_, ?_, ?_⟩
            · rw [HN.out, HS.out]; exact Lib.hid (put8_same (s' := ⟨NA, t.a, t.b, t.c, NE, t.e, t.f, t.g⟩) (DG.out.drewN (nq + 1)))
            · exact Lib.hid (put8_far (s := ⟨NA, t.a, t.b, t.c, NE, t.e, t.f, t.g⟩) (D2.out.drewN (nq + 1)) (by omega))
            · exact Lib.hid (put8_far (s := ⟨NA, t.a, t.b, t.c, NE, t.e, t.f, t.g⟩) (D0.out.drewN (nq + 1)) (by omega))
            · exact Lib.hid (put8_far (s := ⟨NA, t.a, t.b, t.c, NE, t.e, t.f, t.g⟩) (D1.out.drewN (nq + 1)) (by omega))
            · exact Lib.hid (put8_below (s := ⟨NA, t.a, t.b, t.c, NE, t.e, t.f, t.g⟩) (below_drewN DL.out (nq + 1)) (by omega))
          case measure => simp [intOf]; omega
        · have e64 : k = 64 := by omega
          rw [e64] at DG
          clear e64
          obtain ⟨t, ht⟩ : ∃ t, t = srounds (wsch blk.data.toList 64) s 64 := ⟨_, rfl⟩
          rw [← ht] at DG
          have HT := Lib.hid ht
          clear ht
          go_wp2
          go_loopw [177] (fun i wr => ∃ j : Nat, j ≤ 8 ∧ i = .int .i64 (j : Int) ∧ Hid (Blk wr wo.heap.size 53 ((mixL s t j).map vw)) ∧ Hid (Blk wr w.heap.size 53 (stv s).toList) ∧ Hid (Blk wr (w.heap.size + 1) 53 (stv ⟨0, 0, 0, 0, 0, 0, 0, 0⟩).toList) ∧ Hid (Below w.heap.size w wr)) (fun i _ => 8 - (intOf i).toNat)
          case atStart => exact ⟨0, Nat.zero_le _, rfl, DG, D0, D1, DL⟩
          case round =>
            clear DG D0 D1 DL D2
            obtain ⟨j, hj, rfl, DG, D0, D1, DL⟩ := hrel
            by_cases hl8 : j < 8
            · obtain ⟨TJ, hTJ⟩ : ∃ x, x = (stl t).getD j 0 := ⟨_, rfl⟩
              obtain ⟨SJ, hSJ⟩ : ∃ x, x = (stl s).getD j 0 := ⟨_, rfl⟩
              obtain ⟨NJ, hNJ⟩ : ∃ x, x = (TJ + SJ) % 4294967296 := ⟨_, rfl⟩
              have cT : wr.cell? ⟨wo.heap.size, j, none⟩ = some (.int .u32 (TJ : Int)) := by rw [hTJ]; exact (DG.out.cell j).trans (mixL_get hl8)
              have cS : wr.cell? ⟨w.heap.size, j, none⟩ = some (.int .u32 (SJ : Int)) := by rw [hSJ]; exact (D0.out.cell j).trans (stl_get hl8)
              have fr := DG.out.frozen j
              have R : IntKind.u32.wrap ((TJ : Int) + (SJ : Int)) = (NJ : Int) := by rw [hNJ, IntKind.wrap_u32']; omega
              have EG : Hid (Blk (wr.setCell ⟨wo.heap.size, j, none⟩ (vw NJ)) wo.heap.size 53 ((mixL s t (j + 1)).map vw)) := Lib.hid ((DG.out.set_ j (vw NJ)).eq (by rw [hNJ, hTJ, hSJ]; exact mixL_set hl8))
              have E0 := Lib.hid (D0.out.far (p := ⟨wo.heap.size, j, none⟩) (by dsimp only; omega) (vw NJ))
              have E1 := Lib.hid (D1.out.far (p := ⟨wo.heap.size, j, none⟩) (by dsimp only; omega) (vw NJ))
              have EL := Lib.hid (DL.out.setCell (p := ⟨wo.heap.size, j, none⟩) (by dsimp only; omega) (vw NJ))
              clear DG D0 D1 DL hTJ hSJ hNJ
              go_wp2
              refine wp_region_still_tail 8 (by kernel_rfl) (by kernel_rfl) ?_
              simp only [List.take_succ_cons, List.take_zero, List.drop_succ_cons, List.drop_zero]
              change wpStill _ _ (World.drew wr) (fun a' => wpList _ _ _ _ a' (World.drew wr)) _ _
              repeat still_step
              refine wpStill_nil ?_
              go_wp2
              go_roundw
              case rel => exact ⟨j + 1, hl8, by go_num, EG, E0, E1, Lib.hid EL.out.drew⟩
              case measure => simp [intOf]; omega
            · have e8 : j = 8 := by omega
              rw [e8, mixL_all, ← stv_stl, show addSt t s = r by rw [HT.out, HR.out]; rfl] at DG
              clear e8
              have c0 : wr.cell? ⟨wo.heap.size, 0, none⟩ = some (.int .u32 (r.a : Int)) := DG.out.cell 0
              have c1 : wr.cell? ⟨wo.heap.size, 1, none⟩ = some (.int .u32 (r.b : Int)) := DG.out.cell 1
              have c2 : wr.cell? ⟨wo.heap.size, 2, none⟩ = some (.int .u32 (r.c : Int)) := DG.out.cell 2
              have c3 : wr.cell? ⟨wo.heap.size, 3, none⟩ = some (.int .u32 (r.d : Int)) := DG.out.cell 3
              have c4 : wr.cell? ⟨wo.heap.size, 4, none⟩ = some (.int .u32 (r.e : Int)) := DG.out.cell 4
              have c5 : wr.cell? ⟨wo.heap.size, 5, none⟩ = some (.int .u32 (r.f : Int)) := DG.out.cell 5
              have c6 : wr.cell? ⟨wo.heap.size, 6, none⟩ = some (.int .u32 (r.g : Int)) := DG.out.cell 6
              have c7 : wr.cell? ⟨wo.heap.size, 7, none⟩ = some (.int .u32 (r.h : Int)) := DG.out.cell 7
              have d0 : wr.cell? ⟨w.heap.size + 1, 0, none⟩ = some (.int .u32 0) := D1.out.cell 0
              have d1 : wr.cell? ⟨w.heap.size + 1, 1, none⟩ = some (.int .u32 0) := D1.out.cell 1
              have d2 : wr.cell? ⟨w.heap.size + 1, 2, none⟩ = some (.int .u32 0) := D1.out.cell 2
              have d3 : wr.cell? ⟨w.heap.size + 1, 3, none⟩ = some (.int .u32 0) := D1.out.cell 3
              have d4 : wr.cell? ⟨w.heap.size + 1, 4, none⟩ = some (.int .u32 0) := D1.out.cell 4
              have d5 : wr.cell? ⟨w.heap.size + 1, 5, none⟩ = some (.int .u32 0) := D1.out.cell 5
              have d6 : wr.cell? ⟨w.heap.size + 1, 6, none⟩ = some (.int .u32 0) := D1.out.cell 6
              have d7 : wr.cell? ⟨w.heap.size + 1, 7, none⟩ = some (.int .u32 0) := D1.out.cell 7
              have f0 := D1.out.frozen 0
              have f1 := D1.out.frozen 1
              have f2 := D1.out.frozen 2
              have f3 := D1.out.frozen 3
              have f4 := D1.out.frozen 4
              have f5 := D1.out.frozen 5
              have f6 := D1.out.frozen 6
              have f7 := D1.out.frozen 7
              have hs1 := D1.out.lt
              clear HT HR
              go_wp2
              clear c0 c1 c2 c3 c4 c5 c6 c7 d0 d1 d2 d3 d4 d5 d6 d7 f0 f1 f2 f3 f4 f5 f6 f7
              have EL := put8_below (s := r) DL.out (show w.heap.size ≤ w.heap.size + 1 by omega)
              have ER := put8_same (s' := r) D1.out
              change bodyPost _ _ _ _ _ (put8 wr (w.heap.size + 1) r)
              generalize put8 wr (w.heap.size + 1) r = W1 at EL ER ⊢
              have e0 : W1.cell? ⟨w.heap.size + 1, 0, none⟩ = some (.int .u32 (r.a : Int)) := ER.cell 0
              have e1 : W1.cell? ⟨w.heap.size + 1, 1, none⟩ = some (.int .u32 (r.b : Int)) := ER.cell 1
              have e2 : W1.cell? ⟨w.heap.size + 1, 2, none⟩ = some (.int .u32 (r.c : Int)) := ER.cell 2
              have e3 : W1.cell? ⟨w.heap.size + 1, 3, none⟩ = some (.int .u32 (r.d : Int)) := ER.cell 3
              have e4 : W1.cell? ⟨w.heap.size + 1, 4, none⟩ = some (.int .u32 (r.e : Int)) := ER.cell 4
              have e5 : W1.cell? ⟨w.heap.size + 1, 5, none⟩ = some (.int .u32 (r.f : Int)) := ER.cell 5
              have e6 : W1.cell? ⟨w.heap.size + 1, 6, none⟩ = some (.int .u32 (r.g : Int)) := ER.cell 6
              have e7 : W1.cell? ⟨w.heap.size + 1, 7, none⟩ = some (.int .u32 (r.h : Int)) := ER.cell 7
              exact bodyPost_ret (v := .agg #[.int .u32 (r.a : Int), .int .u32 (r.b : Int), .int .u32 (r.c : Int), .int .u32 (r.d : Int), .int .u32 (r.e : Int), .int .u32 (r.f : Int), .int .u32 (r.g : Int), .int .u32 (r.h : Int)]) (by simp [results, Tryd.results67, go_sem, e0, e1, e2, e3, e4, e5, e6, e7]) rfl ⟨rfl, EL⟩
end Go.Proofs.YtmhekefjlepfpaaDoor
