/- The walk of the draw of any option. -/
import Derived.Test.YtkgbkgonlopciaaD8
import Derived.Deep.Cut
namespace Go.Proofs.Ytkgbkgonlopciaa
open Go.RowKit
set_option linter.unusedVariables false
set_option linter.unusedSimpArgs false
def pick1 : List Int := [-1, 256, 7, 255]
def pick2 : List Int := [0, 7, 8, 20]
def pick4 : List Int := [281474976710655, 281474976710656, -1]
/-- what is turned in an option: by the number that was drawn -/
noncomputable def anyK (xs : List Int) (o : OD) (c : Nat) (s : St) : OD × St :=
  if c = 0 then ({ o with k := (belowX xs 12 s : Nat) }, belowN xs 12 s)
  else if c = 1 then ({ o with id := pick1.getD (belowX xs 4 s) 0 }, belowN xs 4 s)
  else if c = 2 then ({ o with ma := str (textL xs (pick2.getD (belowX xs 4 s) 0).toNat (belowN xs 4 s)).1 }, (textL xs (pick2.getD (belowX xs 4 s) 0).toNat (belowN xs 4 s)).2)
  else if c = 3 then ({ o with ids := [(belowX xs 3 s : Nat), (belowX xs 3 (belowN xs 3 s) : Nat)] }, belowN xs 3 (belowN xs 3 s))
  else if c = 4 then ({ o with se := pick4.getD (belowX xs 3 s) 0 }, belowN xs 3 s)
  else if c = 5 then ({ o with fl := true }, s)
  else (o, s)
noncomputable def anyX (xs : List Int) (st : St) : OD × St := anyK xs (optX xs st).1 (belowX xs 14 (optX xs st).2) (belowN xs 14 (optX xs st).2)
theorem obs_lit (w : World) (e : TypeId) (cs : Array Value) (n B : Nat) (hB : B ≤ w.heap.size) (hn : cs.toList.length = n) (hm : n ≤ maxLen) : Obs (w.alloc (.cells cs e)) B 1 (.slice (some ⟨w.heap.size, 0, none⟩) n n) n cs.toList :=
  Obs.of_own (World.ownsRow_lit (base := B) (e := e) (size := 1) w cs n hB hm (by rw [← Array.length_toList, hn]; simp))
theorem getD_mem4 {p : Int → Prop} {l : List Int} (hl : ∀ x ∈ l, p x) (h0 : p 0) (k : Nat) : p (l.getD k 0) := by
  rw [List.getD_eq_getElem?_getD]
  cases h : l[k]? with
  | none => exact h0
  | some x => exact hl x (List.mem_of_getElem? h)
set_option maxRecDepth 100000 in
set_option maxHeartbeats 6400000 in
theorem any_u (v : Value) (n : Nat) (xs : List Int) (st : St) (g : Nat) (w : World) (hc : CurS v n xs w g st) : Calls Try.prog 84 #[.pointer (some ⟨g, 0, none⟩)] w (GivesO v n xs (anyX xs st) g w) := by
  have hgl := hc.lt
  obtain ⟨R, hR⟩ : ∃ R, R = anyX xs st := ⟨_, rfl⟩
  rw [← hR]
  have HR := Lib.hid hR
  have HC := Lib.hid hc
  clear hR hc
  go_enter Try.func84, Try.ntmps84
  go_upto_region 1 with (fail)
  obtain ⟨W, hW⟩ : ∃ W, W = w.alloc (.cells (voC (OD.new 0 []) (.slice none 0 0)).toArray 27) := ⟨_, rfl⟩
  change Code.wp _ _ _ _ (w.alloc (.cells (voC (OD.new 0 []) (.slice none 0 0)).toArray 27))
  rw [← hW]
  have E0 := (Below.refl w.heap.size w).alloc (Nat.le_refl _) (.cells (voC (OD.new 0 []) (.slice none 0 0)).toArray 27)
  have X0 := Lib.hid (Blk.new w 27 (voC (OD.new 0 []) (.slice none 0 0)).toArray)
  rw [← hW] at E0 X0
  have C0 := Lib.hid (HC.out.below E0)
  have G0 : Hid (Grew w W g) := Lib.hid (Grew.of_below E0)
  have S0 : Hid (w.heap.size + 1 ≤ W.heap.size) := Lib.hid X0.out.lt
  clear hW HC E0
  go_wp2_with fail
  refine (opt_u v n xs st g _ C0.out).mono ?_
  rintro e w1 ⟨iv, rfl, ho, hc, hg, hwf, hid⟩
  have HRX : Hid (R = anyK xs (optX xs st).1 (belowX xs 14 (optX xs st).2) (belowN xs 14 (optX xs st).2)) := Lib.hid HR.out
  obtain ⟨q, hq⟩ : ∃ q, q = optX xs st := ⟨_, rfl⟩
  rw [← hq] at ho hc hwf hid HRX ⊢
  clear hq HR
  obtain ⟨o, s1⟩ := q
  dsimp only at ho hc hwf hid HRX ⊢
  obtain ⟨A, cp, rfl⟩ := ho.shape
  have HWF := Lib.hid hwf
  have HID := Lib.hid hid
  have O1 := Lib.hid (ho.mono S0.out)
  have C1 := Lib.hid hc
  have G1 := Lib.hid (G0.out.trans hg)
  have X1 := Lib.hid (X0.out.grewS hg hgl)
  have S1 := Lib.hid (Nat.le_trans S0.out hg.size)
  clear ho hc hg hwf hid C0 G0 X0 S0
  go_upto_region 2 with ((refine wpl_store_opt rfl (by rfl) (by rfl) (by rfl) ?_))
  obtain ⟨W3, hW3⟩ : ∃ W, W = w1.alloc (.cells (voC o (.slice A o.ids.length cp)).toArray 27) := ⟨_, rfl⟩
  rw [← hW3]
  obtain ⟨b3, hb3⟩ : ∃ b, b = w1.heap.size := ⟨_, rfl⟩
  have E3 := (Below.refl w1.heap.size w1).alloc (Nat.le_refl _) (.cells (voC o (.slice A o.ids.length cp)).toArray 27)
  have X3 := Lib.hid (Blk.new w1 27 (voC o (.slice A o.ids.length cp)).toArray)
  rw [← hW3] at E3 X3
  rw [← hb3] at X3 ⊢
  have Y3 := Lib.hid (X1.out.below E3 X1.out.lt)
  have C3 := Lib.hid (C1.out.below E3)
  have G3 := Lib.hid (G1.out.trans (Grew.of_below E3))
  have O3 := Lib.hid (O1.out.below E3)
  have HOB : Hid (∀ q, (Value.slice A o.ids.length cp).ownBlock = some q → q < b3) := Lib.hid (fun q hq => by rw [hb3]; exact (O1.out.lt q hq).2)
  have HNE : Hid (w.heap.size + 1 ≤ b3) := Lib.hid (by rw [hb3]; exact S1.out)
  clear hW3 hb3 E3 C1 G1 X1 O1 S1
  obtain ⟨c, hcq⟩ : ∃ c, c = belowX xs 14 s1 := ⟨_, rfl⟩
  obtain ⟨s2, hs2⟩ : ∃ s, s = belowN xs 14 s1 := ⟨_, rfl⟩
  have hc14 : c < 14 := by rw [hcq]; exact belowX_lt xs s1 (by omega)
  rw [← hcq, ← hs2] at HRX
  have HCQ := Lib.hid hcq
  have HS2 := Lib.hid hs2
  clear hcq hs2
  go_wp2_with fail
  refine (below_u v n xs s1 g 14 _ C3.out (by omega) (by omega)).mono ?_
  rw [← HCQ.out, ← HS2.out]
  rintro e w4 ⟨rfl, hc, hg⟩
  have C4 := Lib.hid hc
  have G4 := Lib.hid (G3.out.trans hg)
  have X4 := Lib.hid (X3.out.grewS hg (by have := HNE.out; omega))
  have Y4 := Lib.hid (Y3.out.grewS hg hgl)
  have O4 := Lib.hid (O3.out.grew hg (fun q hq => by have := (O3.out.lt q hq).1; omega))
  clear hc hg C3 G3 X3 Y3 O3
  by_cases e6 : 6 ≤ c
  · have q0 : ((c : Int) == 0) = false := by simp; omega
    have q1 : ((c : Int) == 1) = false := by simp; omega
    have q2 : ((c : Int) == 2) = false := by simp; omega
    have q3 : ((c : Int) == 3) = false := by simp; omega
    have q4 : ((c : Int) == 4) = false := by simp; omega
    have q5 : ((c : Int) == 5) = false := by simp; omega
    have HE : Hid (R = (o, s2)) := Lib.hid (by rw [HRX.out]; unfold anyK; rw [if_neg (by omega), if_neg (by omega), if_neg (by omega), if_neg (by omega), if_neg (by omega), if_neg (by omega)])
    clear e6
    go_wp2_with (first | (refine wpl_opt (o := o) rfl (by rfl) (by rfl) (Bx.of_blk X4.out) ?_) | (refine wpl_store_optM (o := o) rfl (by rfl) (by rfl) (by rfl) Y4.out rfl ?_))
    refine bodyPost_ret (results_opt rfl (by rfl) (Bx.setCells (vs := voC o (.slice A o.ids.length cp)) Y4.out rfl)) rfl ?_
    rw [HE.out]
    have BT : Below w.heap.size w4 (w4.setCells w.heap.size 0 (voC o (.slice A o.ids.length cp))) := Below.setCells' (Below.refl _ _) (Nat.le_refl _) _ _
    exact ⟨.slice A o.ids.length cp, rfl, (O4.out.farS (by omega) _ _).mono (by omega), C4.out.belowB BT hgl, G4.out.below_trans BT, HWF.out, HID.out⟩
  by_cases e5 : c = 5
  · have q0 : ((c : Int) == 0) = false := by simp; omega
    have q1 : ((c : Int) == 1) = false := by simp; omega
    have q2 : ((c : Int) == 2) = false := by simp; omega
    have q3 : ((c : Int) == 3) = false := by simp; omega
    have q4 : ((c : Int) == 4) = false := by simp; omega
    have q5 : ((c : Int) == 5) = true := by simp; omega
    have HE : Hid (R = ({ o with fl := true }, s2)) := Lib.hid (by rw [HRX.out]; unfold anyK; rw [if_neg (by omega), if_neg (by omega), if_neg (by omega), if_neg (by omega), if_neg (by omega), if_pos e5])
    obtain ⟨o', ho'⟩ : ∃ o' : OD, o' = { o with fl := true } := ⟨_, rfl⟩
    rw [← ho'] at HE
    have y10 : w4.cell? ⟨b3, 10, none⟩ = some (.bool o.fl) := X4.out.cell 10
    have f10 := X4.out.frozen 10
    go_upto_region 15 with (fail)
    obtain ⟨W5, hW5⟩ : ∃ W, W = w4.setCell ⟨b3, 10, none⟩ (.bool true) := ⟨_, rfl⟩
    rw [← hW5]
    have hne := HNE.out
    have X5 : Hid (Blk W5 b3 27 (voC o' (.slice A o.ids.length cp))) := Lib.hid (by rw [hW5, ho']; exact X4.out.set_ 10 _)
    have Y5 : Hid (Blk W5 w.heap.size 27 (voC (OD.new 0 []) (.slice none 0 0))) := Lib.hid (by rw [hW5]; exact Y4.out.far (by dsimp only; omega) _)
    have BT5 : Below b3 w4 W5 := by rw [hW5]; exact (Below.refl _ _).setCell (by dsimp only; omega) _
    have C5 := Lib.hid (C4.out.belowB BT5 (by omega))
    have G5 := Lib.hid (G4.out.below_trans (BT5.mono (by omega)))
    have O5 : Hid (Obs W5 (w.heap.size + 1) 1 (.slice A o.ids.length cp) o.ids.length (o.ids.map vn)) := Lib.hid (O4.out.same BT5.size (fun q hq => BT5.block q (HOB.out q hq)))
    have HW5 : Hid o'.wf := Lib.hid (by rw [ho']; exact HWF.out)
    have HD5 : Hid (o'.ids = o.ids) := Lib.hid (by rw [ho'])
    clear hW5 ho' y10 f10 BT5
    go_wp2_with (first | (refine wpl_opt (o := o') rfl (by rfl) (by rfl) (Bx.of_blk X5.out) ?_) | (refine wpl_store_optM (o := o') rfl (by rfl) (by rfl) (by rfl) Y5.out rfl ?_))
    refine bodyPost_ret (results_opt rfl (by rfl) (Bx.setCells (vs := voC o' (.slice A o.ids.length cp)) Y5.out rfl)) rfl ?_
    rw [HE.out]
    have BT : Below w.heap.size W5 (W5.setCells w.heap.size 0 (voC o' (.slice A o.ids.length cp))) := Below.setCells' (Below.refl _ _) (Nat.le_refl _) _ _
    exact ⟨.slice A o.ids.length cp, rfl, ((show Obs W5 (w.heap.size + 1) 1 (.slice A o.ids.length cp) o'.ids.length (o'.ids.map vn) from by rw [HD5.out]; exact O5.out).farS (by omega) _ _).mono (by omega), C5.out.belowB BT hgl, G5.out.below_trans BT, HW5.out, by rw [show o'.ids = o.ids from HD5.out]; exact HID.out⟩
  by_cases e0 : c = 0
  · have q0 : ((c : Int) == 0) = true := by simp; omega
    have q1 : ((c : Int) == 1) = false := by simp; omega
    have q2 : ((c : Int) == 2) = false := by simp; omega
    have q3 : ((c : Int) == 3) = false := by simp; omega
    have q4 : ((c : Int) == 4) = false := by simp; omega
    have q5 : ((c : Int) == 5) = false := by simp; omega
    obtain ⟨N, hN⟩ : ∃ N, N = belowX xs 12 s2 := ⟨_, rfl⟩
    have hNl : N < 12 := by rw [hN]; exact belowX_lt xs s2 (by omega)
    obtain ⟨s3, hs3⟩ : ∃ s, s = belowN xs 12 s2 := ⟨_, rfl⟩
    have HE0 : Hid (R = ({ o with k := (N : Int) }, s3)) := Lib.hid (by rw [HRX.out]; unfold anyK; rw [if_pos e0, hN, hs3])
    have HN := Lib.hid hN
    have HS3 := Lib.hid hs3
    clear hN hs3 e0
    go_wp2_with fail
    refine (below_u v n xs s2 g 12 _ C4.out (by omega) (by omega)).mono ?_
    rw [← HN.out, ← HS3.out]
    rintro e w5 ⟨rfl, hc, hg⟩
    have hne := HNE.out
    have C5 := Lib.hid hc
    have G5 := Lib.hid (G4.out.trans hg)
    have X5 := Lib.hid (X4.out.grewS hg (by omega))
    have Y5 := Lib.hid (Y4.out.grewS hg hgl)
    have O5 := Lib.hid (O4.out.grew hg (fun q hq => by have := (O4.out.lt q hq).1; omega))
    clear hc hg C4 G4 X4 Y4 O4
    obtain ⟨o', ho'⟩ : ∃ o' : OD, o' = { o with k := (N : Int) } := ⟨_, rfl⟩
    rw [← ho'] at HE0
    have HE := HE0
    have y0 : w5.cell? ⟨b3, 0, none⟩ = some (.int .i64 o.k) := X5.out.cell 0
    have f0 := X5.out.frozen 0
    go_upto_region 15 with (fail)
    obtain ⟨W5, hW5⟩ : ∃ W, W = w5.setCell ⟨b3, 0, none⟩ (.int .i64 (N : Int)) := ⟨_, rfl⟩
    rw [← hW5]
    have X6 : Hid (Blk W5 b3 27 (voC o' (.slice A o.ids.length cp))) := Lib.hid (by rw [hW5, ho']; exact X5.out.set_ 0 _)
    have Y6 : Hid (Blk W5 w.heap.size 27 (voC (OD.new 0 []) (.slice none 0 0))) := Lib.hid (by rw [hW5]; exact Y5.out.far (by dsimp only; omega) _)
    have BT5 : Below b3 w5 W5 := by rw [hW5]; exact (Below.refl _ _).setCell (by dsimp only; omega) _
    have C6 := Lib.hid (C5.out.belowB BT5 (by omega))
    have G6 := Lib.hid (G5.out.below_trans (BT5.mono (by omega)))
    have O6 : Hid (Obs W5 (w.heap.size + 1) 1 (.slice A o.ids.length cp) o.ids.length (o.ids.map vn)) := Lib.hid (O5.out.same BT5.size (fun q hq => BT5.block q (HOB.out q hq)))
    have HW5 : Hid o'.wf := Lib.hid (by rw [ho']; exact ⟨⟨i64R_nat (by omega), HWF.out.1.2⟩, HWF.out.2⟩)
    have HD5 : Hid (o'.ids = o.ids) := Lib.hid (by rw [ho'])
    clear hW5 ho' y0 f0 BT5 HE0
    go_wp2_with (first | (refine wpl_opt (o := o') rfl (by rfl) (by rfl) (Bx.of_blk X6.out) ?_) | (refine wpl_store_optM (o := o') rfl (by rfl) (by rfl) (by rfl) Y6.out rfl ?_))
    refine bodyPost_ret (results_opt rfl (by rfl) (Bx.setCells (vs := voC o' (.slice A o.ids.length cp)) Y6.out rfl)) rfl ?_
    rw [HE.out]
    have BT : Below w.heap.size W5 (W5.setCells w.heap.size 0 (voC o' (.slice A o.ids.length cp))) := Below.setCells' (Below.refl _ _) (Nat.le_refl _) _ _
    exact ⟨.slice A o.ids.length cp, rfl, ((show Obs W5 (w.heap.size + 1) 1 (.slice A o.ids.length cp) o'.ids.length (o'.ids.map vn) from by rw [HD5.out]; exact O6.out).farS (by omega) _ _).mono (by omega), C6.out.belowB BT hgl, G6.out.below_trans BT, HW5.out, by rw [show o'.ids = o.ids from HD5.out]; exact HID.out⟩
  by_cases e1 : c = 1
  · have q0 : ((c : Int) == 0) = false := by simp; omega
    have q1 : ((c : Int) == 1) = true := by simp; omega
    have q2 : ((c : Int) == 2) = false := by simp; omega
    have q3 : ((c : Int) == 3) = false := by simp; omega
    have q4 : ((c : Int) == 4) = false := by simp; omega
    have q5 : ((c : Int) == 5) = false := by simp; omega
    have HE0 : Hid (R = ({ o with id := pick1.getD (belowX xs 4 s2) 0 }, belowN xs 4 s2)) := Lib.hid (by rw [HRX.out]; unfold anyK; rw [if_neg (by omega)]; rw [if_pos e1])
    clear e1
    obtain ⟨N, hN⟩ : ∃ N, N = pick1.getD (belowX xs 4 s2) 0 := ⟨_, rfl⟩
    obtain ⟨s3, hs3⟩ : ∃ s, s = belowN xs 4 s2 := ⟨_, rfl⟩
    rw [← hN, ← hs3] at HE0
    have HN := Lib.hid hN
    have HS3 := Lib.hid hs3
    clear hN hs3
    have P5 := Lib.hid (obs_lit w4 3 (#[.int .i64 (-1), .int .i64 (256), .int .i64 (7), .int .i64 (255)] : Array Value) 4 w4.heap.size (Nat.le_refl _) rfl (by decide))
    have E5 := Lib.hid ((Below.refl w4.heap.size w4).alloc (Nat.le_refl _) (.cells (#[.int .i64 (-1), .int .i64 (256), .int .i64 (7), .int .i64 (255)] : Array Value) 3))
    have L5 : Hid (g < w4.heap.size) := Lib.hid C4.out.lt
    go_wp2_with fail
    refine (pickInt_u v n xs s2 g _ 4 pick1 _ (C4.out.below E5.out) P5.out.rd (by omega) (by omega) (by intro b off k cap hb; simp only [Value.slice.injEq, Option.some.injEq, Addr.mk.injEq] at hb; have := L5.out; omega)).mono ?_
    rw [← HN.out, ← HS3.out]
    rintro e w5 ⟨rfl, hc, hg⟩
    have hne := HNE.out
    have X5 := Lib.hid ((X4.out.below E5.out X4.out.lt).grewS hg (by omega))
    have Y5 := Lib.hid ((Y4.out.below E5.out Y4.out.lt).grewS hg hgl)
    have O5 := Lib.hid ((O4.out.below E5.out).grew hg (fun q hq => by have := (O4.out.lt q hq).1; omega))
    have G5 := Lib.hid ((G4.out.trans (Grew.of_below E5.out)).trans hg)
    have C5 := Lib.hid hc
    clear hc hg C4 G4 X4 Y4 O4 P5 E5 L5
    have HNR : Hid (i64R N) := Lib.hid (by rw [HN.out]; exact getD_mem4 (p := i64R) (by intro x hx; simp only [pick1, List.mem_cons, List.not_mem_nil, or_false] at hx; unfold i64R; omega) (by unfold i64R; omega) _)
    obtain ⟨o', ho'⟩ : ∃ o' : OD, o' = { o with id := N } := ⟨_, rfl⟩
    rw [← ho'] at HE0
    have HE := HE0
    have hne := HNE.out
    have y0 : w5.cell? ⟨b3, 1, none⟩ = some (.int .i64 o.id) := X5.out.cell 1
    have f0 := X5.out.frozen 1
    go_upto_region 15 with (fail)
    obtain ⟨W5, hW5⟩ : ∃ W, W = w5.setCell ⟨b3, 1, none⟩ (.int .i64 N) := ⟨_, rfl⟩
    rw [← hW5]
    have X6 : Hid (Blk W5 b3 27 (voC o' (.slice A o.ids.length cp))) := Lib.hid (by rw [hW5, ho']; exact X5.out.set_ 1 _)
    have Y6 : Hid (Blk W5 w.heap.size 27 (voC (OD.new 0 []) (.slice none 0 0))) := Lib.hid (by rw [hW5]; exact Y5.out.far (by dsimp only; omega) _)
    have BT5 : Below b3 w5 W5 := by rw [hW5]; exact (Below.refl _ _).setCell (by dsimp only; omega) _
    have C6 := Lib.hid (C5.out.belowB BT5 (by omega))
    have G6 := Lib.hid (G5.out.below_trans (BT5.mono (by omega)))
    have O6 : Hid (Obs W5 (w.heap.size + 1) 1 (.slice A o.ids.length cp) o.ids.length (o.ids.map vn)) := Lib.hid (O5.out.same BT5.size (fun q hq => BT5.block q (HOB.out q hq)))
    have HW5 : Hid o'.wf := Lib.hid (by rw [ho']; exact ⟨⟨HWF.out.1.1, HNR.out, HWF.out.1.2.2⟩, HWF.out.2⟩)
    have HD5 : Hid (o'.ids = o.ids) := Lib.hid (by rw [ho'])
    clear hW5 ho' y0 f0 BT5 HE0
    go_wp2_with (first | (refine wpl_opt (o := o') rfl (by rfl) (by rfl) (Bx.of_blk X6.out) ?_) | (refine wpl_store_optM (o := o') rfl (by rfl) (by rfl) (by rfl) Y6.out rfl ?_))
    refine bodyPost_ret (results_opt rfl (by rfl) (Bx.setCells (vs := voC o' (.slice A o.ids.length cp)) Y6.out rfl)) rfl ?_
    rw [HE.out]
    have BT : Below w.heap.size W5 (W5.setCells w.heap.size 0 (voC o' (.slice A o.ids.length cp))) := Below.setCells' (Below.refl _ _) (Nat.le_refl _) _ _
    exact ⟨.slice A o.ids.length cp, rfl, ((show Obs W5 (w.heap.size + 1) 1 (.slice A o.ids.length cp) o'.ids.length (o'.ids.map vn) from by rw [HD5.out]; exact O6.out).farS (by omega) _ _).mono (by omega), C6.out.belowB BT hgl, G6.out.below_trans BT, HW5.out, by rw [show o'.ids = o.ids from HD5.out]; exact HID.out⟩
  by_cases e4 : c = 4
  · have q0 : ((c : Int) == 0) = false := by simp; omega
    have q1 : ((c : Int) == 1) = false := by simp; omega
    have q2 : ((c : Int) == 2) = false := by simp; omega
    have q3 : ((c : Int) == 3) = false := by simp; omega
    have q4 : ((c : Int) == 4) = true := by simp; omega
    have q5 : ((c : Int) == 5) = false := by simp; omega
    have HE0 : Hid (R = ({ o with se := pick4.getD (belowX xs 3 s2) 0 }, belowN xs 3 s2)) := Lib.hid (by rw [HRX.out]; unfold anyK; rw [if_neg (by omega)]; rw [if_neg (by omega)]; rw [if_neg (by omega)]; rw [if_neg (by omega)]; rw [if_pos e4])
    clear e4
    obtain ⟨N, hN⟩ : ∃ N, N = pick4.getD (belowX xs 3 s2) 0 := ⟨_, rfl⟩
    obtain ⟨s3, hs3⟩ : ∃ s, s = belowN xs 3 s2 := ⟨_, rfl⟩
    rw [← hN, ← hs3] at HE0
    have HN := Lib.hid hN
    have HS3 := Lib.hid hs3
    clear hN hs3
    have P5 := Lib.hid (obs_lit w4 3 (#[.int .i64 (281474976710655), .int .i64 (281474976710656), .int .i64 (-1)] : Array Value) 3 w4.heap.size (Nat.le_refl _) rfl (by decide))
    have E5 := Lib.hid ((Below.refl w4.heap.size w4).alloc (Nat.le_refl _) (.cells (#[.int .i64 (281474976710655), .int .i64 (281474976710656), .int .i64 (-1)] : Array Value) 3))
    have L5 : Hid (g < w4.heap.size) := Lib.hid C4.out.lt
    go_wp2_with fail
    refine (pickInt_u v n xs s2 g _ 3 pick4 _ (C4.out.below E5.out) P5.out.rd (by omega) (by omega) (by intro b off k cap hb; simp only [Value.slice.injEq, Option.some.injEq, Addr.mk.injEq] at hb; have := L5.out; omega)).mono ?_
    rw [← HN.out, ← HS3.out]
    rintro e w5 ⟨rfl, hc, hg⟩
    have hne := HNE.out
    have X5 := Lib.hid ((X4.out.below E5.out X4.out.lt).grewS hg (by omega))
    have Y5 := Lib.hid ((Y4.out.below E5.out Y4.out.lt).grewS hg hgl)
    have O5 := Lib.hid ((O4.out.below E5.out).grew hg (fun q hq => by have := (O4.out.lt q hq).1; omega))
    have G5 := Lib.hid ((G4.out.trans (Grew.of_below E5.out)).trans hg)
    have C5 := Lib.hid hc
    clear hc hg C4 G4 X4 Y4 O4 P5 E5 L5
    have HNR : Hid (i64R N) := Lib.hid (by rw [HN.out]; exact getD_mem4 (p := i64R) (by intro x hx; simp only [pick4, List.mem_cons, List.not_mem_nil, or_false] at hx; unfold i64R; omega) (by unfold i64R; omega) _)
    obtain ⟨o', ho'⟩ : ∃ o' : OD, o' = { o with se := N } := ⟨_, rfl⟩
    rw [← ho'] at HE0
    have HE := HE0
    have hne := HNE.out
    have y0 : w5.cell? ⟨b3, 6, none⟩ = some (.int .i64 o.se) := X5.out.cell 6
    have f0 := X5.out.frozen 6
    go_upto_region 15 with (fail)
    obtain ⟨W5, hW5⟩ : ∃ W, W = w5.setCell ⟨b3, 6, none⟩ (.int .i64 N) := ⟨_, rfl⟩
    rw [← hW5]
    have X6 : Hid (Blk W5 b3 27 (voC o' (.slice A o.ids.length cp))) := Lib.hid (by rw [hW5, ho']; exact X5.out.set_ 6 _)
    have Y6 : Hid (Blk W5 w.heap.size 27 (voC (OD.new 0 []) (.slice none 0 0))) := Lib.hid (by rw [hW5]; exact Y5.out.far (by dsimp only; omega) _)
    have BT5 : Below b3 w5 W5 := by rw [hW5]; exact (Below.refl _ _).setCell (by dsimp only; omega) _
    have C6 := Lib.hid (C5.out.belowB BT5 (by omega))
    have G6 := Lib.hid (G5.out.below_trans (BT5.mono (by omega)))
    have O6 : Hid (Obs W5 (w.heap.size + 1) 1 (.slice A o.ids.length cp) o.ids.length (o.ids.map vn)) := Lib.hid (O5.out.same BT5.size (fun q hq => BT5.block q (HOB.out q hq)))
    have HW5 : Hid o'.wf := Lib.hid (by rw [ho']; exact (let h := HWF.out; ⟨⟨h.1.1, h.1.2.1, h.1.2.2.1, h.1.2.2.2.1, h.1.2.2.2.2.1, h.1.2.2.2.2.2.1, HNR.out, h.1.2.2.2.2.2.2.2⟩, h.2⟩))
    have HD5 : Hid (o'.ids = o.ids) := Lib.hid (by rw [ho'])
    clear hW5 ho' y0 f0 BT5 HE0
    go_wp2_with (first | (refine wpl_opt (o := o') rfl (by rfl) (by rfl) (Bx.of_blk X6.out) ?_) | (refine wpl_store_optM (o := o') rfl (by rfl) (by rfl) (by rfl) Y6.out rfl ?_))
    refine bodyPost_ret (results_opt rfl (by rfl) (Bx.setCells (vs := voC o' (.slice A o.ids.length cp)) Y6.out rfl)) rfl ?_
    rw [HE.out]
    have BT : Below w.heap.size W5 (W5.setCells w.heap.size 0 (voC o' (.slice A o.ids.length cp))) := Below.setCells' (Below.refl _ _) (Nat.le_refl _) _ _
    exact ⟨.slice A o.ids.length cp, rfl, ((show Obs W5 (w.heap.size + 1) 1 (.slice A o.ids.length cp) o'.ids.length (o'.ids.map vn) from by rw [HD5.out]; exact O6.out).farS (by omega) _ _).mono (by omega), C6.out.belowB BT hgl, G6.out.below_trans BT, HW5.out, by rw [show o'.ids = o.ids from HD5.out]; exact HID.out⟩
  by_cases e2 : c = 2
  · have q0 : ((c : Int) == 0) = false := by simp; omega
    have q1 : ((c : Int) == 1) = false := by simp; omega
    have q2 : ((c : Int) == 2) = true := by simp; omega
    have q3 : ((c : Int) == 3) = false := by simp; omega
    have q4 : ((c : Int) == 4) = false := by simp; omega
    have q5 : ((c : Int) == 5) = false := by simp; omega
    have HE00 : Hid (R = ({ o with ma := str (textL xs (pick2.getD (belowX xs 4 s2) 0).toNat (belowN xs 4 s2)).1 }, (textL xs (pick2.getD (belowX xs 4 s2) 0).toNat (belowN xs 4 s2)).2)) := Lib.hid (by rw [HRX.out]; unfold anyK; rw [if_neg (by omega)]; rw [if_neg (by omega)]; rw [if_pos e2])
    clear e2
    have HE0 := HE00
    obtain ⟨N, hN⟩ : ∃ N, N = pick2.getD (belowX xs 4 s2) 0 := ⟨_, rfl⟩
    obtain ⟨s3, hs3⟩ : ∃ s, s = belowN xs 4 s2 := ⟨_, rfl⟩
    rw [← hN, ← hs3] at HE0
    have HN := Lib.hid hN
    have HS3 := Lib.hid hs3
    clear hN hs3
    have P5 := Lib.hid (obs_lit w4 3 (#[.int .i64 (0), .int .i64 (7), .int .i64 (8), .int .i64 (20)] : Array Value) 4 w4.heap.size (Nat.le_refl _) rfl (by decide))
    have E5 := Lib.hid ((Below.refl w4.heap.size w4).alloc (Nat.le_refl _) (.cells (#[.int .i64 (0), .int .i64 (7), .int .i64 (8), .int .i64 (20)] : Array Value) 3))
    have L5 : Hid (g < w4.heap.size) := Lib.hid C4.out.lt
    go_wp2_with fail
    refine (pickInt_u v n xs s2 g _ 4 pick2 _ (C4.out.below E5.out) P5.out.rd (by omega) (by omega) (by intro b off k cap hb; simp only [Value.slice.injEq, Option.some.injEq, Addr.mk.injEq] at hb; have := L5.out; omega)).mono ?_
    rw [← HN.out, ← HS3.out]
    rintro e w5 ⟨rfl, hc, hg⟩
    have hne := HNE.out
    have X5 := Lib.hid ((X4.out.below E5.out X4.out.lt).grewS hg (by omega))
    have Y5 := Lib.hid ((Y4.out.below E5.out Y4.out.lt).grewS hg hgl)
    have O5 := Lib.hid ((O4.out.below E5.out).grew hg (fun q hq => by have := (O4.out.lt q hq).1; omega))
    have G5 := Lib.hid ((G4.out.trans (Grew.of_below E5.out)).trans hg)
    have C5 := Lib.hid hc
    clear hc hg C4 G4 X4 Y4 O4 P5 E5 L5
    have HNR : 0 ≤ N ∧ N ≤ 20 := by rw [HN.out]; exact getD_mem4 (p := fun N => 0 ≤ N ∧ N ≤ 20) (by intro x hx; simp only [pick2, List.mem_cons, List.not_mem_nil, or_false] at hx; omega) (by omega) _
    obtain ⟨M, rfl⟩ : ∃ M : Nat, N = (M : Int) := ⟨N.toNat, by omega⟩
    rw [Int.toNat_natCast] at HE0
    obtain ⟨TX, hTX⟩ : ∃ T, T = str (textL xs M s3).1 := ⟨_, rfl⟩
    have hTL : TX.size ≤ maxLen := by rw [hTX, str_size, textL_len]; unfold maxLen; omega
    obtain ⟨s4, hs4⟩ : ∃ s, s = (textL xs M s3).2 := ⟨_, rfl⟩
    rw [← hTX, ← hs4] at HE0
    have HTX := Lib.hid hTX
    have HS4 := Lib.hid hs4
    have HTL := Lib.hid hTL
    clear hTX hs4 hTL
    go_wp2_with fail
    refine (text_u v n xs s3 g M _ C5.out (by omega)).mono ?_
    rw [← HTX.out, ← HS4.out]
    rintro e w6 ⟨rfl, hc, hg⟩
    have hne := HNE.out
    have X7 := Lib.hid (X5.out.grewS hg (by omega))
    have Y7 := Lib.hid (Y5.out.grewS hg hgl)
    have O7 := Lib.hid (O5.out.grew hg (fun q hq => by have := (O5.out.lt q hq).1; omega))
    have G7 := Lib.hid (G5.out.trans hg)
    have C7 := Lib.hid hc
    clear hc hg C5 G5 X5 Y5 O5
    obtain ⟨o', ho'⟩ : ∃ o' : OD, o' = { o with ma := TX } := ⟨_, rfl⟩
    rw [← ho'] at HE0
    have HE := HE0
    have hne := HNE.out
    have y0 : w6.cell? ⟨b3, 12, none⟩ = some (.string o.ma) := X7.out.cell 12
    have f0 := X7.out.frozen 12
    go_upto_region 15 with (fail)
    obtain ⟨W5, hW5⟩ : ∃ W, W = w6.setCell ⟨b3, 12, none⟩ (.string TX) := ⟨_, rfl⟩
    rw [← hW5]
    have X6 : Hid (Blk W5 b3 27 (voC o' (.slice A o.ids.length cp))) := Lib.hid (by rw [hW5, ho']; exact X7.out.set_ 12 _)
    have Y6 : Hid (Blk W5 w.heap.size 27 (voC (OD.new 0 []) (.slice none 0 0))) := Lib.hid (by rw [hW5]; exact Y7.out.far (by dsimp only; omega) _)
    have BT5 : Below b3 w6 W5 := by rw [hW5]; exact (Below.refl _ _).setCell (by dsimp only; omega) _
    have C6 := Lib.hid (C7.out.belowB BT5 (by omega))
    have G6 := Lib.hid (G7.out.below_trans (BT5.mono (by omega)))
    have O6 : Hid (Obs W5 (w.heap.size + 1) 1 (.slice A o.ids.length cp) o.ids.length (o.ids.map vn)) := Lib.hid (O7.out.same BT5.size (fun q hq => BT5.block q (HOB.out q hq)))
    have HW5 : Hid o'.wf := Lib.hid (by rw [ho']; exact ⟨HWF.out.1, ⟨HWF.out.2.1.1, HTL.out⟩, HWF.out.2.2⟩)
    have HD5 : Hid (o'.ids = o.ids) := Lib.hid (by rw [ho'])
    clear hW5 ho' y0 f0 BT5 HE0
    go_wp2_with (first | (refine wpl_opt (o := o') rfl (by rfl) (by rfl) (Bx.of_blk X6.out) ?_) | (refine wpl_store_optM (o := o') rfl (by rfl) (by rfl) (by rfl) Y6.out rfl ?_))
    refine bodyPost_ret (results_opt rfl (by rfl) (Bx.setCells (vs := voC o' (.slice A o.ids.length cp)) Y6.out rfl)) rfl ?_
    rw [HE.out]
    have BT : Below w.heap.size W5 (W5.setCells w.heap.size 0 (voC o' (.slice A o.ids.length cp))) := Below.setCells' (Below.refl _ _) (Nat.le_refl _) _ _
    exact ⟨.slice A o.ids.length cp, rfl, ((show Obs W5 (w.heap.size + 1) 1 (.slice A o.ids.length cp) o'.ids.length (o'.ids.map vn) from by rw [HD5.out]; exact O6.out).farS (by omega) _ _).mono (by omega), C6.out.belowB BT hgl, G6.out.below_trans BT, HW5.out, by rw [show o'.ids = o.ids from HD5.out]; exact HID.out⟩
  by_cases e3 : c = 3
  · have q0 : ((c : Int) == 0) = false := by simp; omega
    have q1 : ((c : Int) == 1) = false := by simp; omega
    have q2 : ((c : Int) == 2) = false := by simp; omega
    have q3 : ((c : Int) == 3) = true := by simp; omega
    have q4 : ((c : Int) == 4) = false := by simp; omega
    have q5 : ((c : Int) == 5) = false := by simp; omega
    have HE0 : Hid (R = ({ o with ids := [(belowX xs 3 s2 : Nat), (belowX xs 3 (belowN xs 3 s2) : Nat)] }, belowN xs 3 (belowN xs 3 s2))) := Lib.hid (by rw [HRX.out]; unfold anyK; rw [if_neg (by omega)]; rw [if_neg (by omega)]; rw [if_neg (by omega)]; rw [if_pos e3])
    clear e3
    obtain ⟨u1, hN⟩ : ∃ N, N = belowX xs 3 s2 := ⟨_, rfl⟩
    have hu1 : u1 < 3 := by rw [hN]; exact belowX_lt xs s2 (by omega)
    obtain ⟨s3, hs3⟩ : ∃ s, s = belowN xs 3 s2 := ⟨_, rfl⟩
    rw [← hs3, ← hN] at HE0
    have Hu1 := Lib.hid hN
    have Hs3 := Lib.hid hs3
    clear hN hs3
    go_wp2_with fail
    refine (below_u v n xs s2 g 3 _ C4.out (by omega) (by omega)).mono ?_
    rw [← Hu1.out, ← Hs3.out]
    rintro e w5 ⟨rfl, hc, hg⟩
    have hne := HNE.out
    have X5 := Lib.hid (X4.out.grewS hg (by omega))
    have Y5 := Lib.hid (Y4.out.grewS hg hgl)
    have S5 : Hid (b3 + 1 ≤ w5.heap.size) := Lib.hid X5.out.lt
    have G5 := Lib.hid (G4.out.trans hg)
    have C5 := Lib.hid hc
    clear hc hg C4 G4 X4 Y4
    obtain ⟨u2, hN⟩ : ∃ N, N = belowX xs 3 s3 := ⟨_, rfl⟩
    have hu2 : u2 < 3 := by rw [hN]; exact belowX_lt xs s3 (by omega)
    obtain ⟨s4, hs3⟩ : ∃ s, s = belowN xs 3 s3 := ⟨_, rfl⟩
    rw [← hs3, ← hN] at HE0
    have Hu2 := Lib.hid hN
    have Hs4 := Lib.hid hs3
    clear hN hs3
    go_wp2_with fail
    refine (below_u v n xs s3 g 3 _ C5.out (by omega) (by omega)).mono ?_
    rw [← Hu2.out, ← Hs4.out]
    rintro e w6 ⟨rfl, hc, hg⟩
    have hne := HNE.out
    have X6 := Lib.hid (X5.out.grewS hg (by omega))
    have Y6 := Lib.hid (Y5.out.grewS hg hgl)
    have S6 : Hid (b3 + 1 ≤ w6.heap.size) := Lib.hid X6.out.lt
    have G6 := Lib.hid (G5.out.trans hg)
    have C6 := Lib.hid hc
    clear hc hg C5 G5 X5 Y5
    obtain ⟨o', ho'⟩ : ∃ o' : OD, o' = { o with ids := [(u1 : Int), (u2 : Int)] } := ⟨_, rfl⟩
    rw [← ho'] at HE0
    have HE := HE0
    have HIDS : Hid (o'.ids = [(u1 : Int), (u2 : Int)]) := Lib.hid (by rw [ho'])
    have HWW : Hid o'.wf := Lib.hid (by rw [ho']; refine ⟨HWF.out.1, HWF.out.2.1, fun x hx => ?_⟩; simp only [List.mem_cons, List.not_mem_nil, or_false] at hx; unfold i64R; omega)
    have hne := HNE.out
    have E6 := Lib.hid ((Below.refl w6.heap.size w6).alloc (Nat.le_refl _) (.cells (#[.int .i64 (u1 : Int), .int .i64 (u2 : Int)] : Array Value) 3))
    have y0 := (X6.out.below E6.out X6.out.lt).cell 13
    have f0 := (X6.out.below E6.out X6.out.lt).frozen 13
    have y00 : (w6.alloc (.cells (#[.int .i64 (u1 : Int), .int .i64 (u2 : Int)] : Array Value) 3)).cell? ⟨b3, 13, none⟩ = some (.slice A o.ids.length cp) := y0
    clear y0
    go_upto_region 15 with (fail)
    obtain ⟨b7, hb7⟩ : ∃ b, b = w6.heap.size := ⟨_, rfl⟩
    obtain ⟨V7, hV7⟩ : ∃ W, W = w6.alloc (.cells (#[.int .i64 (u1 : Int), .int .i64 (u2 : Int)] : Array Value) 3) := ⟨_, rfl⟩
    obtain ⟨W7, hW7⟩ : ∃ W, W = V7.setCell ⟨b3, 13, none⟩ (.slice (some ⟨b7, 0, none⟩) 2 2) := ⟨_, rfl⟩
    have PO : Hid (Obs V7 b7 1 (.slice (some ⟨b7, 0, none⟩) 2 2) 2 ([(u1 : Int), (u2 : Int)].map vn)) := Lib.hid (by rw [hV7, hb7]; exact obs_lit w6 3 (#[.int .i64 (u1 : Int), .int .i64 (u2 : Int)] : Array Value) 2 w6.heap.size (Nat.le_refl _) rfl (by decide))
    have E6' : Below w6.heap.size w6 V7 := by rw [hV7]; exact E6.out
    rw [← hV7, ← hb7]
    rw [← hW7]
    have S7 : b3 + 1 ≤ b7 := by rw [hb7]; exact S6.out
    have XV := Lib.hid (X6.out.below E6' X6.out.lt)
    have YV := Lib.hid (Y6.out.below E6' Y6.out.lt)
    have X7 : Hid (Blk W7 b3 27 (voC o' (.slice (some ⟨b7, 0, none⟩) 2 2))) := Lib.hid (by rw [hW7, ho']; exact XV.out.set_ 13 _)
    have Y7 : Hid (Blk W7 w.heap.size 27 (voC (OD.new 0 []) (.slice none 0 0))) := Lib.hid (by rw [hW7]; exact YV.out.far (by dsimp only; omega) _)
    have BT5 : Below b3 V7 W7 := by rw [hW7]; exact (Below.refl _ _).setCell (by dsimp only; omega) _
    have C7 := Lib.hid ((C6.out.below E6').belowB BT5 (by omega))
    have G7 := Lib.hid ((G6.out.trans (Grew.of_below E6')).below_trans (BT5.mono (by omega)))
    have O7 : Hid (Obs W7 b7 1 (.slice (some ⟨b7, 0, none⟩) 2 2) 2 ([(u1 : Int), (u2 : Int)].map vn)) := Lib.hid (by rw [hW7]; exact PO.out.far (by dsimp only; omega) _)
    clear hW7 hV7 hb7 ho' y00 f0 BT5 HE0 E6 E6' PO XV YV
    go_wp2_with (first | (refine wpl_opt (o := o') rfl (by rfl) (by rfl) (Bx.of_blk X7.out) ?_) | (refine wpl_store_optM (o := o') rfl (by rfl) (by rfl) (by rfl) Y7.out rfl ?_))
    refine bodyPost_ret (results_opt rfl (by rfl) (Bx.setCells (vs := voC o' (.slice (some ⟨b7, 0, none⟩) 2 2)) Y7.out rfl)) rfl ?_
    rw [HE.out]
    have BT : Below w.heap.size W7 (W7.setCells w.heap.size 0 (voC o' (.slice (some ⟨b7, 0, none⟩) 2 2))) := Below.setCells' (Below.refl _ _) (Nat.le_refl _) _ _
    exact ⟨.slice (some ⟨b7, 0, none⟩) 2 2, rfl, ((show Obs W7 b7 1 (.slice (some ⟨b7, 0, none⟩) 2 2) o'.ids.length (o'.ids.map vn) from by rw [HIDS.out]; exact O7.out).farS (by omega) _ _).mono (by omega), C7.out.belowB BT hgl, G7.out.below_trans BT, HWW.out, by rw [show o'.ids = _ from HIDS.out]; exact (by decide : 2 ≤ 8)⟩
  exact absurd hc14 (by omega)
end Go.Proofs.Ytkgbkgonlopciaa
