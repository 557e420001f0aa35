/- The walks: the reference's ShaBlock, and the law. -/
import Derived.Test.YtmhekefjlepfpaaDoorProg
import Derived.Test.YtmhekefjlepfpaaDoorK
import Derived.Test.YtmhekefjlepfpaaDoorK2
import Derived.Test.YtmhekefjlepfpaaDoorK3
import Derived.Test.YtmhekefjlepfpaaDoorK4
import Derived.Test.YtmhekefjlepfpaaDoorS
import Derived.Test.YtmhekefjlepfpaaDoorS2
import Derived.Test.YtmhekefjlepfpaaDoorA1
import Derived.Test.YtmhekefjlepfpaaDoorB1
import Derived.Test.YtmhekefjlepfpaaDoorB3
import Derived.Test.YtmhekefjlepfpaaDoorB4
import Derived.Test.YtmhekefjlepfpaaDoorB5
import Derived.Test.YtmhekefjlepfpaaDoorB6
import Derived.Test.YtmhekefjlepfpaaDoorB9
import Derived.Test.YtmhekefjlepfpaaDoorB12
import Derived.Test.YtmhekefjlepfpaaDoorM1
import Derived.Deep.RegionHeld3
import Derived.Outline
namespace Go.Proofs.YtmhekefjlepfpaaDoor
open Go.RowKit
set_option linter.unusedVariables false
set_option linter.unusedSimpArgs false

theorem wpList_append_full {P : Program} (w : World) {ops : Array Oper} {rest : List Oper} {o : Oper} {a : Act} {Q : Exit → Act → World → Prop} (hgd : o.guard = none) (s x : Operand) (t : TypeId)
    (ho : o.op = Op.call { callee := Callee.builtin Builtin.append, args := #[s, x], argTypes := #[t, t] }) (B : Nat) (e : TypeId) (i : TypeInfo) (z : Value) (size bytes : Nat)
    (ht : P.underlying t = some (.slice e)) (hi : P.info? e = some i) (hz : i.zero = some z) (hsize : i.size = size) (hby : i.bytes = bytes) (hzs : z.cells.size = size) (hsz : 0 < size)
    (v : Value) (n : Nat) (xs : List Value) (hs : a.eval s = v) (h : Obs w B size v n xs) (B2 : Nat) (v2 : Value) (m : Nat) (ys : List Value) (hx : a.eval x = v2) (h2 : Obs w B2 size v2 m ys)
    (h1 : ∀ (u : Value), u ∈ ys → u.oneCell' = true) (h63 : n + m ≤ maxLen) (hbytes : (n + m) * bytes ≤ 140737488355328) (hbase : B ≤ w.heap.size) (k : Nat) (hk : n + m = k) (hpos : 0 < k)
    (hK : ∀ (g cap : Nat) (w' : World), Obs w' B size (.slice (some ⟨g, 0, none⟩) k cap) k (xs ++ ys) → Below B w w' → w.grownBy w' v.ownBlock → wpList P ops Q rest (a.put o.dst (.slice (some ⟨g, 0, none⟩) k cap)) w') : wpList P ops Q (o :: rest) a w := by
  subst hk
  refine wpList_append_obs2 w hgd s x t ho B e i z size bytes ht hi hz hsize hby hzs hsz v n xs hs h B2 v2 m ys hx h2 h1 h63 hbytes hbase (fun v' w' h3 h4 h5 => ?_)
  obtain ⟨g, cap, rfl⟩ := h3.full hpos
  exact hK g cap w' h3 h4 h5
theorem one_vn {n : Nat} {xs : List Int} {ys : List Value} (h : ys = xs.map vn) : ∀ u, u ∈ ys → u.oneCell' = true := by subst h; exact vn_one _
def mixV (s r : St) (j : Nat) : List Nat := (stl r).take j ++ (stl s).drop j
theorem mixV_zero (s r : St) : ((mixV s r 0).map vu) = ((stl s).map (fun (x : Nat) => (x : Int))).map vn := by simp only [mixV, List.take_zero, List.nil_append, List.drop_zero, List.map_map]; rfl
theorem mixV_all (s r : St) : mixV s r 8 = stl r := rfl
theorem mixV_set {s r : St} {j : Nat} (h : j < 8) : ((mixV s r j).map vu).set j (vu ((stl r).getD j 0)) = (mixV s r (j + 1)).map vu := by
  rcases (show j = 0 ∨ j = 1 ∨ j = 2 ∨ j = 3 ∨ j = 4 ∨ j = 5 ∨ j = 6 ∨ j = 7 by omega) with rfl | rfl | rfl | rfl | rfl | rfl | rfl | rfl <;> rfl
theorem mixV_len (s r : St) {j : Nat} (h : j ≤ 8) : (mixV s r j).length = 8 := by simp [mixV, stl]; omega
theorem shaBlock_s_size (v : Value) (n : Nat) (xs : List Int) (B : Nat) (b : ByteArray) (w : World) (h : Obs w B 1 v n (xs.map vn)) (hn : n ≤ 4294967296) (hbad : n ≠ 8 ∨ b.size ≠ 64) :
    Calls Tryd.prog 34 #[v, .string b] w (GivesRow 1 n (xs.map vn) w) := by
  obtain ⟨i0, hi, hz0, hz1, hz2⟩ := info_parts i64_info
  obtain ⟨A, cap, rfl⟩ := h.shape
  have he := Lib.hid (obs_empty w 3 1 w.heap.size (Nat.le_refl _))
  have H := Lib.hid (h.alloc (.cells #[] 3))
  have HB : Hid (Below w.heap.size w (w.alloc (.cells #[] 3))) := Lib.hid ((Below.refl _ _).alloc (Nat.le_refl _) _)
  clear h
  by_cases h8 : n = 8
  · have hb : ((b.size : Int) == 64) = false := by simp; omega
    have hn8 : ((n : Int) == 8) = true := by simp; omega
    subst h8
    clear hbad
    go_enter Tryd.func34, Tryd.ntmps34
    go_wp2_with (at_builtin; refine wpList_append_obs2 _ rfl _ _ 22 rfl w.heap.size 3 i0 (.int .i64 0) 1 8 Tryd.underlying22 hi hz0 hz1 hz2 rfl (by decide) _ 0 [] rfl he.out B _ 8 (xs.map vn) rfl H.out (vn_one _) (by unfold maxLen; omega) (by omega) (by simp) ?_; intro v1 w1 hown1 hb1 hg1)
    go_ret
    refine ⟨v1, rfl, ?_, HB.out.trans hb1⟩
    rw [Nat.zero_add, List.nil_append] at hown1
    exact hown1
  · have hn8 : ((n : Int) == 8) = false := by simp; omega
    clear hbad h8
    go_enter Tryd.func34, Tryd.ntmps34
    go_wp2_with (at_builtin; refine wpList_append_obs2 _ rfl _ _ 22 rfl w.heap.size 3 i0 (.int .i64 0) 1 8 Tryd.underlying22 hi hz0 hz1 hz2 rfl (by decide) _ 0 [] rfl he.out B _ n (xs.map vn) rfl H.out (vn_one _) (by unfold maxLen; omega) (by omega) (by simp) ?_; intro v1 w1 hown1 hb1 hg1)
    go_ret
    refine ⟨v1, rfl, ?_, HB.out.trans hb1⟩
    rw [Nat.zero_add, List.nil_append] at hown1
    exact hown1
theorem shaBlock_s_bad (v : Value) (xs : List Int) (B : Nat) (b : ByteArray) (w : World) (h : Obs w B 1 v 8 (xs.map vn)) (hb : b.size = 64) (hbad : xs.all isW = false) :
    Calls Tryd.prog 34 #[v, .string b] w (GivesRow 1 8 (xs.map vn) w) := by
  obtain ⟨i0, hi, hz0, hz1, hz2⟩ := info_parts i64_info
  obtain ⟨g, cap, rfl⟩ := h.full (by omega)
  have hgl := (h.lt g rfl).2
  obtain ⟨q, x, hq, hx, hall⟩ := first_bad hbad
  have hl8 : xs.length = 8 := by have := h.1; simpa using this
  have hq8 : q < 8 := by have := (List.getElem?_eq_some_iff.1 hq).1; omega
  have HCX : Hid (w.cell? ⟨g, q, none⟩ = some (.int .i64 x)) := Lib.hid (h.cellAt (by rw [List.getElem?_map, hq]; rfl)).1
  have HALL : Hid (∀ k, k < q → ∃ y : Int, (0 ≤ y ∧ y ≤ 4294967295) ∧ w.cell? ⟨g, k, none⟩ = some (.int .i64 y)) := Lib.hid (fun k hk => by
    have hk8 : k < xs.length := by omega
    have hy := hall k (xs[k]'hk8) hk (List.getElem?_eq_getElem hk8)
    refine ⟨xs[k]'hk8, by unfold isW at hy; simpa using hy, (h.cellAt (by rw [List.getElem?_map, List.getElem?_eq_getElem hk8]; rfl)).1⟩)
  have HX : Hid (¬ (0 ≤ x ∧ x ≤ 4294967295)) := Lib.hid (by unfold isW at hx; rw [← Bool.decide_and, decide_eq_false_iff_not] at hx; exact hx)
  have hb2 : ((b.size : Int) == 64) = true := by simp; omega
  have hb3 : ((b.size : Int) != 64) = false := by simp; omega
  have he := Lib.hid (obs_empty w 3 1 w.heap.size (Nat.le_refl _))
  have H := Lib.hid (h.alloc (.cells #[] 3))
  have HB : Hid (Below w.heap.size w (w.alloc (.cells #[] 3))) := Lib.hid ((Below.refl _ _).alloc (Nat.le_refl _) _)
  have HONE := vn_one xs
  clear h hq hx hall hl8 hb hbad
  go_enter Tryd.func34, Tryd.ntmps34
  go_wp2_with (at_builtin; refine wpList_append_full _ rfl _ _ 22 rfl w.heap.size 3 i0 (.int .i64 0) 1 8 Tryd.underlying22 hi hz0 hz1 hz2 rfl (by decide) _ 0 [] rfl he.out B _ 8 (xs.map vn) rfl H.out HONE (by unfold maxLen; omega) (by omega) (by simp) 8 rfl (by omega) ?_; intro g1 cap1 w1 hown1 hb1 hg1)
  have O1 : Hid (Obs w1 w.heap.size 1 (.slice (some ⟨g1, 0, none⟩) 8 cap1) 8 (xs.map vn)) := Lib.hid (by rw [List.nil_append] at hown1; exact hown1)
  have L1 := Lib.hid (HB.out.trans hb1)
  have hgl1 := (hown1.lt g1 rfl)
  have B0 : Hid (Blk (w1.alloc (.cells (stv ⟨0, 0, 0, 0, 0, 0, 0, 0⟩) 53)) w1.heap.size 53 (stv ⟨0, 0, 0, 0, 0, 0, 0, 0⟩).toList) := Lib.hid (Blk.new _ _ _)
  have L0 : Hid (Below w1.heap.size w1 (w1.alloc (.cells (stv ⟨0, 0, 0, 0, 0, 0, 0, 0⟩) 53))) := Lib.hid ((Below.refl _ _).alloc (Nat.le_refl _) _)
  clear hown1 hb1 hg1
  go_loopw [7] (fun i wr => ∃ k : Nat, k ≤ q ∧ i = .int .i64 (k : Int) ∧ (∃ cs : List Value, cs.length = 8 ∧ Hid (Blk wr w1.heap.size 53 cs)) ∧ Hid (Below w1.heap.size w1 wr)) (fun i _ => 8 - (intOf i).toNat)
  case atStart => exact ⟨0, Nat.zero_le _, rfl, ⟨_, rfl, B0⟩, L0⟩
  case round =>
    clear B0 L0
    obtain ⟨k, hk, rfl, ⟨cs, hcs, BK⟩, LK⟩ := hrel
    have HCS := Lib.hid hcs
    clear hcs
    have LW := Lib.hid (L1.out.trans (LK.out.mono L1.out.size))
    by_cases hlt : k < q
    · obtain ⟨y, hy, hcy⟩ := HALL.out k hlt
      have c1 : wr.cell? ⟨g, k, none⟩ = some (.int .i64 y) := (LW.out.cell (p := ⟨g, k, none⟩) hgl).trans hcy
      have HY := Lib.hid hy
      obtain ⟨hy0, hy1⟩ := hy
      have hcell : wr.cell? ⟨w1.heap.size, k, none⟩ = some _ := (BK.out.cell k).trans (List.getElem?_eq_getElem (by rw [HCS.out]; omega))
      have hfr := BK.out.frozen k
      have hsz := BK.out.lt
      clear hcy
      go_wp2_with fail
      refine (within_s_yes y 0 4294967295 _ HY.out).mono ?_
      rintro e w2 ⟨rfl, rfl⟩
      go_wp2
      go_roundw
      case rel => exact ⟨k + 1, by omega, by go_num, ⟨_, by rw [List.length_set]; exact HCS.out, Lib.hid (BK.out.set_ k (.int .u32 y))⟩, Lib.hid (LK.out.setCell (p := ⟨w1.heap.size, k, none⟩) (Nat.le_refl _) (.int .u32 y))⟩
      case measure => simp [intOf]; omega
    · obtain rfl : k = q := by omega
      have c1 : wr.cell? ⟨g, k, none⟩ = some (.int .i64 x) := (LW.out.cell (p := ⟨g, k, none⟩) hgl).trans HCX.out
      have hlt8 : (k : Int) < 8 := by omega
      go_wp2_with fail
      refine (within_s_no x 0 4294967295 _ HX.out).mono ?_
      rintro e w2 ⟨rfl, rfl⟩
      go_wp2
      go_ret
      exact ⟨_, rfl, O1.out.below LK.out, LW.out⟩
set_option maxRecDepth 100000 in
set_option maxHeartbeats 1000000 in
theorem shaBlock_s_good (v : Value) (s : St) (hs : s.ok) (B : Nat) (b : ByteArray) (w : World) (h : Obs w B 1 v 8 (((stl s).map (fun (x : Nat) => (x : Int))).map vn)) (hb : b.size = 64) :
    Calls Tryd.prog 34 #[v, .string b] w (GivesRow 1 8 ((stl (compS s b.data.toList)).map vu) w) := by
  obtain ⟨i0, hi, hz0, hz1, hz2⟩ := info_parts i64_info
  obtain ⟨g, cap, rfl⟩ := h.full (by omega)
  have hgl := (h.lt g rfl).2
  have HC : Hid (∀ k, k < 8 → w.cell? ⟨g, k, none⟩ = some (.int .i64 ((stl s).getD k 0 : Nat))) := Lib.hid (fun k hk => (h.cellAt (stl_vn hk)).1)
  have hb2 : ((b.size : Int) == 64) = true := by simp; omega
  have hb3 : ((b.size : Int) != 64) = false := by simp; omega
  have HBS := Lib.hid hb
  have he := Lib.hid (obs_empty w 3 1 w.heap.size (Nat.le_refl _))
  have H := Lib.hid (h.alloc (.cells #[] 3))
  have HB : Hid (Below w.heap.size w (w.alloc (.cells #[] 3))) := Lib.hid ((Below.refl _ _).alloc (Nat.le_refl _) _)
  have HONE := vn_one ((stl s).map (fun (x : Nat) => (x : Int)))
  obtain ⟨r, hr⟩ : ∃ r, r = compS s b.data.toList := ⟨_, rfl⟩
  rw [← hr]
  have rok : r.ok := by rw [hr]; exact compS_ok _ _
  have HR := Lib.hid hr
  clear h hb hr
  go_enter Tryd.func34, Tryd.ntmps34
  go_wp2_with (at_builtin; refine wpList_append_full _ rfl _ _ 22 rfl w.heap.size 3 i0 (.int .i64 0) 1 8 Tryd.underlying22 hi hz0 hz1 hz2 rfl (by decide) _ 0 [] rfl he.out B _ 8 (((stl s).map (fun (x : Nat) => (x : Int))).map vn) rfl H.out HONE (by unfold maxLen; omega) (by omega) (by simp) 8 rfl (by omega) ?_; intro g1 cap1 w1 hown1 hb1 hg1)
  have O1 : Hid (Obs w1 w.heap.size 1 (.slice (some ⟨g1, 0, none⟩) 8 cap1) 8 ((mixV s r 0).map vu)) := Lib.hid (by rw [List.nil_append] at hown1; rw [mixV_zero]; exact hown1)
  have L1 := Lib.hid (HB.out.trans hb1)
  obtain ⟨hg1a, hg1b⟩ := hown1.lt g1 rfl
  have B0 : Hid (Blk (w1.alloc (.cells (stv ⟨0, 0, 0, 0, 0, 0, 0, 0⟩) 53)) w1.heap.size 53 (wz s 0)) := Lib.hid (Blk.new _ _ _)
  have L0 : Hid (Below w1.heap.size w1 (w1.alloc (.cells (stv ⟨0, 0, 0, 0, 0, 0, 0, 0⟩) 53))) := Lib.hid ((Below.refl _ _).alloc (Nat.le_refl _) _)
  clear hown1 hb1 hg1
  go_loopw [7] (fun i wr => ∃ k : Nat, k ≤ 8 ∧ i = .int .i64 (k : Int) ∧ Hid (Blk wr w1.heap.size 53 (wz s k)) ∧ Hid (Below w1.heap.size w1 wr)) (fun i _ => 8 - (intOf i).toNat)
  case atStart => exact ⟨0, Nat.zero_le _, rfl, B0, L0⟩
  case round =>
    clear B0 L0
    obtain ⟨k, hk, rfl, BK, LK⟩ := hrel
    have LW := Lib.hid (L1.out.trans (LK.out.mono L1.out.size))
    by_cases hlt : k < 8
    · have hx32 := stl_lt hs k
      have c1 : wr.cell? ⟨g, k, none⟩ = some (.int .i64 ((stl s).getD k 0 : Nat)) := (LW.out.cell (p := ⟨g, k, none⟩) hgl).trans (HC.out k hlt)
      have B1 := BK.out.set_ k (vw ((stl s).getD k 0))
      rw [wz_set hlt] at B1
      obtain ⟨x, hx⟩ : ∃ x, x = (stl s).getD k 0 := ⟨_, rfl⟩
      rw [← hx] at c1 hx32 B1
      have B2 := Lib.hid B1
      have L2 := Lib.hid (LK.out.setCell (p := ⟨w1.heap.size, k, none⟩) (Nat.le_refl _) (vw x))
      have hcell : wr.cell? ⟨w1.heap.size, k, none⟩ = some _ := (BK.out.cell k).trans (List.getElem?_eq_getElem (by rw [wz_len hk]; omega))
      have hfr := BK.out.frozen k
      have hsz := BK.out.lt
      clear hx B1
      go_wp2_with fail
      refine (within_s_yes x 0 4294967295 _ (by omega)).mono ?_
      rintro e w2 ⟨rfl, rfl⟩
      go_wp2
      go_roundw
      case rel => exact ⟨k + 1, by omega, by go_num, B2, L2⟩
      case measure => simp [intOf]; omega
    · obtain rfl : k = 8 := by omega
      rw [wz_all] at BK
      have c0 : wr.cell? ⟨w1.heap.size, 0, none⟩ = some (.int .u32 (s.a : Int)) := BK.out.cell 0
      have c1 : wr.cell? ⟨w1.heap.size, 1, none⟩ = some (.int .u32 (s.b : Int)) := BK.out.cell 1
      have c2 : wr.cell? ⟨w1.heap.size, 2, none⟩ = some (.int .u32 (s.c : Int)) := BK.out.cell 2
      have c3 : wr.cell? ⟨w1.heap.size, 3, none⟩ = some (.int .u32 (s.d : Int)) := BK.out.cell 3
      have c4 : wr.cell? ⟨w1.heap.size, 4, none⟩ = some (.int .u32 (s.e : Int)) := BK.out.cell 4
      have c5 : wr.cell? ⟨w1.heap.size, 5, none⟩ = some (.int .u32 (s.f : Int)) := BK.out.cell 5
      have c6 : wr.cell? ⟨w1.heap.size, 6, none⟩ = some (.int .u32 (s.g : Int)) := BK.out.cell 6
      have c7 : wr.cell? ⟨w1.heap.size, 7, none⟩ = some (.int .u32 (s.h : Int)) := BK.out.cell 7
      have hsz := BK.out.lt
      have BKd := Lib.hid BK.out.drew
      have LKd := Lib.hid LK.out.drew
      clear BK LK LW
      go_wp2
      refine wp_region_any (by kernel_rfl) ?_
      try (change wpAny _ _ _ _ _ _ _ (World.drew _))
      refine wpAny_take (i := 1) (v := ?_) rfl (by kernel_rfl) (by kernel_rfl) (by kernel_rfl) (fun _ _ _ h => h) (Or.inl ⟨by rfl, ?_⟩) ?_
      rotate_left
      · (intro w; go_simp; try (with_reducible rfl))
      refine wpAny_ready (rs := [0, 2]) (by kernel_rfl) (by simp) ?_
      refine AllReady.cons rfl (fun K hK => ?_) (AllReady.cons rfl (fun K hK => ?_) AllReady.nil)
      · go_simp
        refine hK _ _ ?_; clear hK K
        refine wpAny_ready (rs := [2]) (by kernel_rfl) (by simp) ?_
        refine AllReady.cons rfl (fun K hK => ?_) AllReady.nil
        go_simp
        go_wp2_with fail
        refine (keys_s _).mono ?_
        rintro e w4 ⟨rfl, hb4⟩
        have BK4 := Lib.hid (BKd.out.below hb4 hsz)
        have LK4 := Lib.hid (LKd.out.trans (hb4.mono LKd.out.size))
        clear hb4
        refine hK _ _ ?_; clear hK K
        refine wpAny_ready (rs := [3]) (by kernel_rfl) (by simp) ?_
        refine AllReady.cons rfl (fun K hK => ?_) AllReady.nil
        go_simp
        go_wp2_with fail
        refine (block_s' s hs b HBS.out r HR.out _).mono ?_
        rintro e w5 ⟨rfl, hb5⟩
        have BK5 := BK4.out.below hb5 BK4.out.lt
        have LK5 := Lib.hid (LK4.out.trans (hb5.mono LK4.out.size))
        clear hb5 c0 c1 c2 c3 c4 c5 c6 c7
        have d0 : w5.cell? ⟨w1.heap.size, 0, none⟩ = some (.int .u32 (s.a : Int)) := BK5.cell 0
        have d1 : w5.cell? ⟨w1.heap.size, 1, none⟩ = some (.int .u32 (s.b : Int)) := BK5.cell 1
        have d2 : w5.cell? ⟨w1.heap.size, 2, none⟩ = some (.int .u32 (s.c : Int)) := BK5.cell 2
        have d3 : w5.cell? ⟨w1.heap.size, 3, none⟩ = some (.int .u32 (s.d : Int)) := BK5.cell 3
        have d4 : w5.cell? ⟨w1.heap.size, 4, none⟩ = some (.int .u32 (s.e : Int)) := BK5.cell 4
        have d5 : w5.cell? ⟨w1.heap.size, 5, none⟩ = some (.int .u32 (s.f : Int)) := BK5.cell 5
        have d6 : w5.cell? ⟨w1.heap.size, 6, none⟩ = some (.int .u32 (s.g : Int)) := BK5.cell 6
        have d7 : w5.cell? ⟨w1.heap.size, 7, none⟩ = some (.int .u32 (s.h : Int)) := BK5.cell 7
        have f0 := BK5.frozen 0
        have f1 := BK5.frozen 1
        have f2 := BK5.frozen 2
        have f3 := BK5.frozen 3
        have f4 := BK5.frozen 4
        have f5 := BK5.frozen 5
        have f6 := BK5.frozen 6
        have f7 := BK5.frozen 7
        have hsz5 := BK5.lt
        have B5 := Lib.hid BK5
        clear BK5
        refine hK _ _ ?_; clear hK K
        refine wpAny_ready (rs := [4]) (by kernel_rfl) (by simp) ?_
        refine AllReady.cons rfl (fun K hK => ?_) AllReady.nil
        go_simp
        refine hK _ _ ?_; clear hK K
        refine wpAny_done (by kernel_rfl) ?_ _
        have B6 : Hid (Blk (put8 w5 w1.heap.size r) w1.heap.size 53 (stv r).toList) := Lib.hid (put8_same (s' := r) B5.out)
        have L6 : Hid (Below w1.heap.size w1 (put8 w5 w1.heap.size r)) := Lib.hid (put8_below (s := r) LK5.out (Nat.le_refl _))
        clear B5 LK5 BK4 LK4 BKd LKd d0 d1 d2 d3 d4 d5 d6 d7 f0 f1 f2 f3 f4 f5 f6 f7 hsz5 hsz
        change Exit.then _ _ Exit.normal _ (put8 w5 w1.heap.size r)
        generalize put8 w5 w1.heap.size r = W6 at B6 L6 ⊢
        have O6 := Lib.hid (O1.out.below L6.out)
        have LW := Lib.hid (L1.out.trans (L6.out.mono L1.out.size))
        go_wp2
        go_loopw [8] (fun i wr => ∃ j : Nat, j ≤ 8 ∧ i = .int .i64 (j : Int) ∧ Hid (Obs wr w.heap.size 1 (.slice (some ⟨g1, 0, none⟩) 8 cap1) 8 ((mixV s r j).map vu)) ∧ Hid (Blk wr w1.heap.size 53 (stv r).toList) ∧ Hid (Below w.heap.size w wr)) (fun i _ => 8 - (intOf i).toNat)
        case atStart => exact ⟨0, Nat.zero_le _, rfl, O6, B6, LW⟩
        case round =>
          clear B6 L6 O6 LW O1 L1
          obtain ⟨j, hj, rfl, OJ, BJ, LJ⟩ := hrel
          by_cases hl8 : j < 8
          · have y32 := stl_lt rok j
            have e1 : wr.cell? ⟨w1.heap.size, j, none⟩ = some (.int .u32 ((stl r).getD j 0 : Nat)) := (BJ.out.cell j).trans (stl_get hl8)
            obtain ⟨u, hu⟩ : ∃ u, ((mixV s r j).map vu)[j]? = some u := ⟨_, List.getElem?_eq_getElem (by rw [List.length_map, mixV_len _ _ hj]; exact hl8)⟩
            obtain ⟨hcell, hfr⟩ := OJ.out.cellAt hu
            clear hu
            have O2 := OJ.out.set_ j (by omega) (vu ((stl r).getD j 0))
            rw [mixV_set hl8] at O2
            obtain ⟨y, hy⟩ : ∃ y, y = (stl r).getD j 0 := ⟨_, rfl⟩
            rw [← hy] at e1 y32 O2
            have OX := Lib.hid O2
            have BX := Lib.hid (BJ.out.far (p := ⟨g1, j, none⟩) (by dsimp only; omega) (vu y))
            have LX := Lib.hid (LJ.out.setCell (p := ⟨g1, j, none⟩) hg1a (vu y))
            have hszj := BJ.out.lt
            clear hy O2 OJ BJ LJ
            go_wp2
            go_roundw
            case rel => exact ⟨j + 1, by omega, by go_num, OX, BX, LX⟩
            case measure => simp [intOf]; omega
          · obtain rfl : j = 8 := by omega
            rw [mixV_all] at OJ
            go_wp2
            go_ret
            exact ⟨_, rfl, OJ.out, LJ.out⟩
      · go_simp
        go_wp2_with fail
        refine (keys_s _).mono ?_
        rintro e w4 ⟨rfl, hb4⟩
        have BK4 := Lib.hid (BKd.out.below hb4 hsz)
        have LK4 := Lib.hid (LKd.out.trans (hb4.mono LKd.out.size))
        clear hb4
        refine hK _ _ ?_; clear hK K
        have x0 : w4.cell? ⟨w1.heap.size, 0, none⟩ = some (.int .u32 (s.a : Int)) := BK4.out.cell 0
        have x1 : w4.cell? ⟨w1.heap.size, 1, none⟩ = some (.int .u32 (s.b : Int)) := BK4.out.cell 1
        have x2 : w4.cell? ⟨w1.heap.size, 2, none⟩ = some (.int .u32 (s.c : Int)) := BK4.out.cell 2
        have x3 : w4.cell? ⟨w1.heap.size, 3, none⟩ = some (.int .u32 (s.d : Int)) := BK4.out.cell 3
        have x4 : w4.cell? ⟨w1.heap.size, 4, none⟩ = some (.int .u32 (s.e : Int)) := BK4.out.cell 4
        have x5 : w4.cell? ⟨w1.heap.size, 5, none⟩ = some (.int .u32 (s.f : Int)) := BK4.out.cell 5
        have x6 : w4.cell? ⟨w1.heap.size, 6, none⟩ = some (.int .u32 (s.g : Int)) := BK4.out.cell 6
        have x7 : w4.cell? ⟨w1.heap.size, 7, none⟩ = some (.int .u32 (s.h : Int)) := BK4.out.cell 7
        refine wpAny_ready (rs := [0]) (by kernel_rfl) (by simp) ?_
        refine AllReady.cons rfl (fun K hK => ?_) AllReady.nil
        go_simp
        refine hK _ _ ?_; clear hK K
        refine wpAny_ready (rs := [3]) (by kernel_rfl) (by simp) ?_
        refine AllReady.cons rfl (fun K hK => ?_) AllReady.nil
        go_simp
        go_wp2_with fail
        refine (block_s' s hs b HBS.out r HR.out _).mono ?_
        rintro e w5 ⟨rfl, hb5⟩
        have BK5 := BK4.out.below hb5 BK4.out.lt
        have LK5 := Lib.hid (LK4.out.trans (hb5.mono LK4.out.size))
        clear hb5 c0 c1 c2 c3 c4 c5 c6 c7 x0 x1 x2 x3 x4 x5 x6 x7
        have d0 : w5.cell? ⟨w1.heap.size, 0, none⟩ = some (.int .u32 (s.a : Int)) := BK5.cell 0
        have d1 : w5.cell? ⟨w1.heap.size, 1, none⟩ = some (.int .u32 (s.b : Int)) := BK5.cell 1
        have d2 : w5.cell? ⟨w1.heap.size, 2, none⟩ = some (.int .u32 (s.c : Int)) := BK5.cell 2
        have d3 : w5.cell? ⟨w1.heap.size, 3, none⟩ = some (.int .u32 (s.d : Int)) := BK5.cell 3
        have d4 : w5.cell? ⟨w1.heap.size, 4, none⟩ = some (.int .u32 (s.e : Int)) := BK5.cell 4
        have d5 : w5.cell? ⟨w1.heap.size, 5, none⟩ = some (.int .u32 (s.f : Int)) := BK5.cell 5
        have d6 : w5.cell? ⟨w1.heap.size, 6, none⟩ = some (.int .u32 (s.g : Int)) := BK5.cell 6
        have d7 : w5.cell? ⟨w1.heap.size, 7, none⟩ = some (.int .u32 (s.h : Int)) := BK5.cell 7
        have f0 := BK5.frozen 0
        have f1 := BK5.frozen 1
        have f2 := BK5.frozen 2
        have f3 := BK5.frozen 3
        have f4 := BK5.frozen 4
        have f5 := BK5.frozen 5
        have f6 := BK5.frozen 6
        have f7 := BK5.frozen 7
        have hsz5 := BK5.lt
        have B5 := Lib.hid BK5
        clear BK5
        refine hK _ _ ?_; clear hK K
        refine wpAny_ready (rs := [4]) (by kernel_rfl) (by simp) ?_
        refine AllReady.cons rfl (fun K hK => ?_) AllReady.nil
        go_simp
        refine hK _ _ ?_; clear hK K
        refine wpAny_done (by kernel_rfl) ?_ _
        have B6 : Hid (Blk (put8 w5 w1.heap.size r) w1.heap.size 53 (stv r).toList) := Lib.hid (put8_same (s' := r) B5.out)
        have L6 : Hid (Below w1.heap.size w1 (put8 w5 w1.heap.size r)) := Lib.hid (put8_below (s := r) LK5.out (Nat.le_refl _))
        clear B5 LK5 BK4 LK4 BKd LKd d0 d1 d2 d3 d4 d5 d6 d7 f0 f1 f2 f3 f4 f5 f6 f7 hsz5 hsz
        change Exit.then _ _ Exit.normal _ (put8 w5 w1.heap.size r)
        generalize put8 w5 w1.heap.size r = W6 at B6 L6 ⊢
        have O6 := Lib.hid (O1.out.below L6.out)
        have LW := Lib.hid (L1.out.trans (L6.out.mono L1.out.size))
        go_wp2
        go_loopw [8] (fun i wr => ∃ j : Nat, j ≤ 8 ∧ i = .int .i64 (j : Int) ∧ Hid (Obs wr w.heap.size 1 (.slice (some ⟨g1, 0, none⟩) 8 cap1) 8 ((mixV s r j).map vu)) ∧ Hid (Blk wr w1.heap.size 53 (stv r).toList) ∧ Hid (Below w.heap.size w wr)) (fun i _ => 8 - (intOf i).toNat)
        case atStart => exact ⟨0, Nat.zero_le _, rfl, O6, B6, LW⟩
        case round =>
          clear B6 L6 O6 LW O1 L1
          obtain ⟨j, hj, rfl, OJ, BJ, LJ⟩ := hrel
          by_cases hl8 : j < 8
          · have y32 := stl_lt rok j
            have e1 : wr.cell? ⟨w1.heap.size, j, none⟩ = some (.int .u32 ((stl r).getD j 0 : Nat)) := (BJ.out.cell j).trans (stl_get hl8)
            obtain ⟨u, hu⟩ : ∃ u, ((mixV s r j).map vu)[j]? = some u := ⟨_, List.getElem?_eq_getElem (by rw [List.length_map, mixV_len _ _ hj]; exact hl8)⟩
            obtain ⟨hcell, hfr⟩ := OJ.out.cellAt hu
            clear hu
            have O2 := OJ.out.set_ j (by omega) (vu ((stl r).getD j 0))
            rw [mixV_set hl8] at O2
            obtain ⟨y, hy⟩ : ∃ y, y = (stl r).getD j 0 := ⟨_, rfl⟩
            rw [← hy] at e1 y32 O2
            have OX := Lib.hid O2
            have BX := Lib.hid (BJ.out.far (p := ⟨g1, j, none⟩) (by dsimp only; omega) (vu y))
            have LX := Lib.hid (LJ.out.setCell (p := ⟨g1, j, none⟩) hg1a (vu y))
            have hszj := BJ.out.lt
            clear hy O2 OJ BJ LJ
            go_wp2
            go_roundw
            case rel => exact ⟨j + 1, by omega, by go_num, OX, BX, LX⟩
            case measure => simp [intOf]; omega
          · obtain rfl : j = 8 := by omega
            rw [mixV_all] at OJ
            go_wp2
            go_ret
            exact ⟨_, rfl, OJ.out, LJ.out⟩
theorem shaBlock_s (v : Value) (n : Nat) (xs : List Int) (B : Nat) (b : ByteArray) (w : World) (h : Obs w B 1 v n (xs.map vn)) (hn : n ≤ 4294967296) :
    Calls Tryd.prog 34 #[v, .string b] w (GivesRow 1 n ((shaBlockL xs b).map vn) w) := by
  have hl : xs.length = n := by have := h.1; simpa using this
  by_cases h1 : n = 8 ∧ b.size = 64
  · obtain ⟨rfl, hb⟩ := h1
    cases hall : xs.all isW
    · rw [shaBlockL_no (by rw [hall]; simp)]
      exact shaBlock_s_bad v xs B b w h hb hall
    · obtain ⟨s, hs, rfl⟩ := words_of hl hall
      rw [shaBlockL_yes hs hb]
      exact shaBlock_s_good v s hs B b w h hb
  · rw [shaBlockL_no (by rw [hl]; exact fun e => h1 ⟨e.1, e.2.1⟩)]
    exact shaBlock_s_size v n xs B b w h hn (by omega)
end Go.Proofs.YtmhekefjlepfpaaDoor
