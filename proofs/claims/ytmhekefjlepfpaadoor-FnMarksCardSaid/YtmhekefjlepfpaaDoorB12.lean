/- The walks: ShaBlock. -/
import Derived.Test.YtmhekefjlepfpaaDoorProg
import Derived.Test.YtmhekefjlepfpaaDoorK
import Derived.Test.YtmhekefjlepfpaaDoorK2
import Derived.Test.YtmhekefjlepfpaaDoorK3
import Derived.Test.YtmhekefjlepfpaaDoorK4
import Derived.Test.YtmhekefjlepfpaaDoorS
import Derived.Test.YtmhekefjlepfpaaDoorS2
import Derived.Test.YtmhekefjlepfpaaDoorA1
import Derived.Test.YtmhekefjlepfpaaDoorB1
import Derived.Test.YtmhekefjlepfpaaDoorB2
import Derived.Test.YtmhekefjlepfpaaDoorB3
import Derived.Test.YtmhekefjlepfpaaDoorB4
import Derived.Test.YtmhekefjlepfpaaDoorB5
import Derived.Test.YtmhekefjlepfpaaDoorB9
import Derived.Test.YtmhekefjlepfpaaDoorM1
import Derived.Deep.RegionHeld3
import Derived.Outline
namespace Go.Proofs.YtmhekefjlepfpaaDoor
open Go.RowKit
set_option linter.unusedVariables false
set_option linter.unusedSimpArgs false

theorem vn_one (l : List Int) : ∀ u, u ∈ l.map vn → u.oneCell' = true := by
  intro u hu
  obtain ⟨b, _, rfl⟩ := List.mem_map.1 hu
  rfl
theorem copyInts_i (v : Value) (n : Nat) (xs : List Int) (B : Nat) (w : World) (h : Obs w B 1 v n (xs.map vn)) (hn : n ≤ 4294967296) :
    Calls Tryd.prog 74 #[v] w (GivesRow 1 n (xs.map vn) w) := by
  obtain ⟨i0, hi, hz0, hz1, hz2⟩ := info_parts i64_info
  have he := Lib.hid (obs_empty w 3 1 w.heap.size (Nat.le_refl _))
  have H := Lib.hid (h.alloc (.cells #[] 3))
  have hb : Below w.heap.size w (w.alloc (.cells #[] 3)) := (Below.refl _ _).alloc (Nat.le_refl _) _
  have HB := Lib.hid hb
  clear h hb
  go_enter Tryd.func74, Tryd.ntmps74
  go_wp2_with (at_builtin; refine wpList_append_obs2 _ rfl _ _ 22 rfl w.heap.size 3 i0 (.int .i64 0) 1 8 Tryd.underlying22 hi hz0 hz1 hz2 rfl (by decide) _ 0 [] rfl he.out B v n (xs.map vn) rfl H.out (vn_one _) (by unfold maxLen; omega) (by omega) (by simp) ?_; intro v1 w1 hown1 hb1 hg1)
  go_ret
  refine ⟨v1, rfl, ?_, HB.out.trans hb1⟩
  rw [Nat.zero_add, List.nil_append] at hown1
  exact hown1
/-- a number that is a word -/
def isW (x : Int) : Bool := decide (0 ≤ x) && decide (x ≤ 4294967295)
/-- what ShaBlock answers -/
def shaBlockL (xs : List Int) (b : ByteArray) : List Int :=
  if xs.length = 8 ∧ b.size = 64 ∧ xs.all isW = true then
    (stl (compS ⟨(xs.getD 0 0).toNat, (xs.getD 1 0).toNat, (xs.getD 2 0).toNat, (xs.getD 3 0).toNat, (xs.getD 4 0).toNat, (xs.getD 5 0).toNat, (xs.getD 6 0).toNat, (xs.getD 7 0).toNat⟩ b.data.toList)).map fun (x : Nat) => (x : Int)
  else xs
theorem words_of {xs : List Int} (h8 : xs.length = 8) (h : xs.all isW = true) : ∃ s : St, s.ok ∧ xs = (stl s).map (fun (x : Nat) => (x : Int)) := by
  match xs, h8 with
  | [x0, x1, x2, x3, x4, x5, x6, x7], _ =>
    simp only [List.all_cons, List.all_nil, Bool.and_eq_true, isW, decide_eq_true_eq] at h
    obtain ⟨h0, h1, h2, h3, h4, h5, h6, h7, _⟩ := h
    refine ⟨⟨x0.toNat, x1.toNat, x2.toNat, x3.toNat, x4.toNat, x5.toNat, x6.toNat, x7.toNat⟩, ?_, ?_⟩
    · unfold St.ok; dsimp only; omega
    · simp only [stl, List.map_cons, List.map_nil]
      congr 1
      · omega
      congr 1
      · omega
      congr 1
      · omega
      congr 1
      · omega
      congr 1
      · omega
      congr 1
      · omega
      congr 1
      · omega
      congr 1
      omega
theorem shaBlockL_yes {s : St} {b : ByteArray} (hs : s.ok) (hb : b.size = 64) : shaBlockL ((stl s).map (fun (x : Nat) => (x : Int))) b = (stl (compS s b.data.toList)).map fun (x : Nat) => (x : Int) := by
  unfold shaBlockL
  rw [if_pos]
  · rfl
  · refine ⟨rfl, hb, ?_⟩
    obtain ⟨h0, h1, h2, h3, h4, h5, h6, h7⟩ := hs
    simp [stl, isW]
    omega
theorem shaBlockL_no {xs : List Int} {b : ByteArray} (h : ¬ (xs.length = 8 ∧ b.size = 64 ∧ xs.all isW = true)) : shaBlockL xs b = xs := by unfold shaBlockL; rw [if_neg h]
/-- the first number that is no word -/
theorem first_bad : ∀ {xs : List Int}, xs.all isW = false → ∃ j x, xs[j]? = some x ∧ isW x = false ∧ ∀ (i : Nat) (y : Int), i < j → xs[i]? = some y → isW y = true
  | [], h => by simp at h
  | x :: r, h => by
    by_cases hx : isW x = true
    · obtain ⟨j, y, h1, h2, h3⟩ := first_bad (xs := r) (by simpa [hx] using h)
      refine ⟨j + 1, y, by simpa using h1, h2, fun i z hi hz => ?_⟩
      cases i with
      | zero => simp at hz; rw [← hz]; exact hx
      | succ i => exact h3 i z (by omega) (by simpa using hz)
    · exact ⟨0, x, rfl, by simpa using hx, fun i y hi => absurd hi (Nat.not_lt_zero _)⟩
/-- the first k words, the rest zeros -/
def wz (s : St) (k : Nat) : List Value := ((stl s).take k ++ List.replicate (8 - k) 0).map vw
theorem wz_len {s : St} {k : Nat} (h : k ≤ 8) : (wz s k).length = 8 := by simp [wz, stl]; omega
theorem wz_set {s : St} {k : Nat} (h : k < 8) : (wz s k).set k (vw ((stl s).getD k 0)) = wz s (k + 1) := by
  rcases (show k = 0 ∨ k = 1 ∨ k = 2 ∨ k = 3 ∨ k = 4 ∨ k = 5 ∨ k = 6 ∨ k = 7 by omega) with rfl | rfl | rfl | rfl | rfl | rfl | rfl | rfl <;> rfl
theorem wz_all (s : St) : wz s 8 = (stv s).toList := rfl
theorem wz_zero (s : St) : wz s 0 = (stv ⟨0, 0, 0, 0, 0, 0, 0, 0⟩).toList := rfl
theorem stl_vn {s : St} {k : Nat} (h : k < 8) : (((stl s).map (fun (x : Nat) => (x : Int))).map vn)[k]? = some (.int .i64 ((stl s).getD k 0 : Nat)) := by
  rcases (show k = 0 ∨ k = 1 ∨ k = 2 ∨ k = 3 ∨ k = 4 ∨ k = 5 ∨ k = 6 ∨ k = 7 by omega) with rfl | rfl | rfl | rfl | rfl | rfl | rfl | rfl <;> rfl
theorem shaBlock_i_size (v : Value) (n : Nat) (xs : List Int) (B : Nat) (b : ByteArray) (w : World) (h : Obs w B 1 v n (xs.map vn)) (hn : n ≤ 4294967296) (hbad : n ≠ 8 ∨ b.size ≠ 64) :
    Calls Tryd.prog 36 #[v, .string b] w (GivesRow 1 n (xs.map vn) w) := by
  obtain ⟨A, cap, rfl⟩ := h.shape
  have H := Lib.hid h
  clear h
  by_cases h8 : n = 8
  · have hb : ((b.size : Int) == 64) = false := by simp; omega
    have hn8 : ((n : Int) == 8) = true := by simp; omega
    subst h8
    clear hbad
    go_enter Tryd.func36, Tryd.ntmps36
    go_wp2_with fail
    refine (copyInts_i _ 8 xs B _ H.out hn).mono ?_
    rintro e w1 ⟨v1, rfl, ho, hb1⟩
    go_wp2
    go_ret
    exact ⟨v1, rfl, ho, hb1⟩
  · have hn8 : ((n : Int) == 8) = false := by simp; omega
    clear hbad h8
    go_enter Tryd.func36, Tryd.ntmps36
    go_wp2_with fail
    refine (copyInts_i _ n xs B _ H.out hn).mono ?_
    rintro e w1 ⟨v1, rfl, ho, hb1⟩
    go_wp2
    go_ret
    exact ⟨v1, rfl, ho, hb1⟩
theorem shaBlock_i_bad (v : Value) (xs : List Int) (B : Nat) (b : ByteArray) (w : World) (h : Obs w B 1 v 8 (xs.map vn)) (hb : b.size = 64) (hbad : xs.all isW = false) :
    Calls Tryd.prog 36 #[v, .string b] w (GivesRow 1 8 (xs.map vn) w) := by
  obtain ⟨g, cap, rfl⟩ := h.full (by omega)
  have hgl := (h.lt g rfl).2
  obtain ⟨q, x, hq, hx, hall⟩ := first_bad hbad
  have hl8 : xs.length = 8 := by have := h.1; simpa using this
  have hq8 : q < 8 := by have := (List.getElem?_eq_some_iff.1 hq).1; omega
  have hcx : w.cell? ⟨g, q, none⟩ = some (.int .i64 x) := (h.cellAt (by rw [List.getElem?_map, hq]; rfl)).1
  have HALL : Hid (∀ k, k < q → ∃ y : Int, (0 ≤ y ∧ y ≤ 4294967295) ∧ w.cell? ⟨g, k, none⟩ = some (.int .i64 y)) := Lib.hid (fun k hk => by
    have hk8 : k < xs.length := by omega
    have hy := hall k (xs[k]'hk8) hk (List.getElem?_eq_getElem hk8)
    refine ⟨xs[k]'hk8, by unfold isW at hy; simpa using hy, (h.cellAt (by rw [List.getElem?_map, List.getElem?_eq_getElem hk8]; rfl)).1⟩)
  have HX : Hid (¬ (0 ≤ x ∧ x ≤ 4294967295)) := Lib.hid (by unfold isW at hx; rw [← Bool.decide_and, decide_eq_false_iff_not] at hx; exact hx)
  have hb2 : ((b.size : Int) == 64) = true := by simp; omega
  have hb3 : ((b.size : Int) != 64) = false := by simp; omega
  have b0 : Blk (w.alloc (.cells (stv ⟨0, 0, 0, 0, 0, 0, 0, 0⟩) 53)) w.heap.size 53 (stv ⟨0, 0, 0, 0, 0, 0, 0, 0⟩).toList := Blk.new _ _ _
  have B0 := Lib.hid b0
  have H := Lib.hid h
  have L0 : Hid (Below w.heap.size w (w.alloc (.cells (stv ⟨0, 0, 0, 0, 0, 0, 0, 0⟩) 53))) := Lib.hid ((Below.refl _ _).alloc (Nat.le_refl _) _)
  have HCX := Lib.hid hcx
  clear h hq hx hall hl8 hb hbad b0 hcx
  go_enter Tryd.func36, Tryd.ntmps36
  go_wp2
  go_loopw [20] (fun i wr => ∃ k : Nat, k ≤ q ∧ i = .int .i64 (k : Int) ∧ (∃ cs : List Value, cs.length = 8 ∧ Hid (Blk wr w.heap.size 53 cs)) ∧ Hid (Below w.heap.size w wr)) (fun i _ => 8 - (intOf i).toNat)
  case atStart => exact ⟨0, Nat.zero_le _, rfl, ⟨_, rfl, B0⟩, L0⟩
  case round =>
    clear B0 L0
    obtain ⟨k, hk, rfl, ⟨cs, hcs, BK⟩, LK⟩ := hrel
    have HCS := Lib.hid hcs
    clear hcs
    by_cases hlt : k < q
    · obtain ⟨y, hy, hcy⟩ := HALL.out k hlt
      have c1 : wr.cell? ⟨g, k, none⟩ = some (.int .i64 y) := (LK.out.cell (p := ⟨g, k, none⟩) hgl).trans hcy
      have HY := Lib.hid hy
      obtain ⟨hy0, hy1⟩ := hy
      have hcell : wr.cell? ⟨w.heap.size, k, none⟩ = some _ := (BK.out.cell k).trans (List.getElem?_eq_getElem (by rw [HCS.out]; omega))
      have hfr := BK.out.frozen k
      have hsz := BK.out.lt
      clear hcy
      go_wp2_with fail
      refine (within_i_yes y 0 4294967295 _ HY.out).mono ?_
      rintro e w1 ⟨rfl, rfl⟩
      go_wp2
      go_roundw
      case rel => exact ⟨k + 1, by omega, by go_num, ⟨_, by rw [List.length_set]; exact HCS.out, Lib.hid (BK.out.set_ k (.int .u32 y))⟩, Lib.hid (LK.out.setCell (p := ⟨w.heap.size, k, none⟩) (Nat.le_refl _) (.int .u32 y))⟩
      case measure => simp [intOf]; omega
    · obtain rfl : k = q := by omega
      have c1 : wr.cell? ⟨g, k, none⟩ = some (.int .i64 x) := (LK.out.cell (p := ⟨g, k, none⟩) hgl).trans HCX.out
      go_wp2_with fail
      refine (within_i_no x 0 4294967295 _ HX.out).mono ?_
      rintro e w1 ⟨rfl, rfl⟩
      go_wp2_with fail
      refine (copyInts_i _ 8 xs B _ (H.out.below LK.out) (by omega)).mono ?_
      rintro e w2 ⟨v1, rfl, ho, hb2⟩
      have HO := Lib.hid (ho.mono LK.out.size)
      have L2 := Lib.hid (LK.out.trans (hb2.mono LK.out.size))
      clear ho hb2
      go_wp2
      go_ret
      exact ⟨v1, rfl, HO.out, L2.out⟩
theorem shaBlock_i_good (v : Value) (s : St) (hs : s.ok) (B : Nat) (b : ByteArray) (w : World) (h : Obs w B 1 v 8 (((stl s).map (fun (x : Nat) => (x : Int))).map vn)) (hb : b.size = 64) (hK : HoldsK w) :
    Calls Tryd.prog 36 #[v, .string b] w (GivesRow 1 8 ((stl (compS s b.data.toList)).map vu) w) := by
  obtain ⟨g, cap, rfl⟩ := h.full (by omega)
  have hgl := (h.lt g rfl).2
  have HC : Hid (∀ k, k < 8 → w.cell? ⟨g, k, none⟩ = some (.int .i64 ((stl s).getD k 0 : Nat))) := Lib.hid (fun k hk => (h.cellAt (stl_vn hk)).1)
  have hb2 : ((b.size : Int) == 64) = true := by simp; omega
  have hb3 : ((b.size : Int) != 64) = false := by simp; omega
  have HB := Lib.hid hb
  have HK := Lib.hid hK
  have B0 : Hid (Blk (w.alloc (.cells (stv ⟨0, 0, 0, 0, 0, 0, 0, 0⟩) 53)) w.heap.size 53 (wz s 0)) := Lib.hid (Blk.new _ _ _)
  have L0 : Hid (Below w.heap.size w (w.alloc (.cells (stv ⟨0, 0, 0, 0, 0, 0, 0, 0⟩) 53))) := Lib.hid ((Below.refl _ _).alloc (Nat.le_refl _) _)
  obtain ⟨r, hr⟩ : ∃ r, r = compS s b.data.toList := ⟨_, rfl⟩
  rw [← hr]
  have rok : r.ok := by rw [hr]; exact compS_ok _ _
  have HR := Lib.hid hr
  clear h hb hK hr
  go_enter Tryd.func36, Tryd.ntmps36
  go_wp2
  go_loopw [20] (fun i wr => ∃ k : Nat, k ≤ 8 ∧ i = .int .i64 (k : Int) ∧ Hid (Blk wr w.heap.size 53 (wz s k)) ∧ Hid (Below w.heap.size w wr)) (fun i _ => 8 - (intOf i).toNat)
  case atStart => exact ⟨0, Nat.zero_le _, rfl, B0, L0⟩
  case round =>
    clear B0 L0
    obtain ⟨k, hk, rfl, BK, LK⟩ := hrel
    by_cases hlt : k < 8
    · have hx32 := stl_lt hs k
      have c1 : wr.cell? ⟨g, k, none⟩ = some (.int .i64 ((stl s).getD k 0 : Nat)) := (LK.out.cell (p := ⟨g, k, none⟩) hgl).trans (HC.out k hlt)
      have B1 := BK.out.set_ k (vw ((stl s).getD k 0))
      rw [wz_set hlt] at B1
      obtain ⟨x, hx⟩ : ∃ x, x = (stl s).getD k 0 := ⟨_, rfl⟩
      rw [← hx] at c1 hx32 B1
      have B2 := Lib.hid B1
      have L2 := Lib.hid (LK.out.setCell (p := ⟨w.heap.size, k, none⟩) (Nat.le_refl _) (vw x))
      have hcell : wr.cell? ⟨w.heap.size, k, none⟩ = some _ := (BK.out.cell k).trans (List.getElem?_eq_getElem (by rw [wz_len hk]; omega))
      have hfr := BK.out.frozen k
      have hsz := BK.out.lt
      clear hx B1
      go_wp2_with fail
      refine (within_i_yes x 0 4294967295 _ (by omega)).mono ?_
      rintro e w1 ⟨rfl, rfl⟩
      go_wp2
      go_roundw
      case rel => exact ⟨k + 1, by omega, by go_num, B2, L2⟩
      case measure => simp [intOf]; omega
    · obtain rfl : k = 8 := by omega
      rw [wz_all] at BK
      have c0 : wr.cell? ⟨w.heap.size, 0, none⟩ = some (.int .u32 (s.a : Int)) := BK.out.cell 0
      have c1 : wr.cell? ⟨w.heap.size, 1, none⟩ = some (.int .u32 (s.b : Int)) := BK.out.cell 1
      have c2 : wr.cell? ⟨w.heap.size, 2, none⟩ = some (.int .u32 (s.c : Int)) := BK.out.cell 2
      have c3 : wr.cell? ⟨w.heap.size, 3, none⟩ = some (.int .u32 (s.d : Int)) := BK.out.cell 3
      have c4 : wr.cell? ⟨w.heap.size, 4, none⟩ = some (.int .u32 (s.e : Int)) := BK.out.cell 4
      have c5 : wr.cell? ⟨w.heap.size, 5, none⟩ = some (.int .u32 (s.f : Int)) := BK.out.cell 5
      have c6 : wr.cell? ⟨w.heap.size, 6, none⟩ = some (.int .u32 (s.g : Int)) := BK.out.cell 6
      have c7 : wr.cell? ⟨w.heap.size, 7, none⟩ = some (.int .u32 (s.h : Int)) := BK.out.cell 7
      go_wp2_with fail
      refine (compress_i' s hs b HB.out r HR.out _ (HK.out.below LK.out)).mono ?_
      rintro e w2 ⟨rfl, hb2⟩
      have L2 := Lib.hid (LK.out.trans (hb2.mono LK.out.size))
      clear hb2
      go_wp2_with fail
      refine (stateInts_i r rok _).mono ?_
      rintro e w3 ⟨v3, rfl, ho, hb3⟩
      have HO := Lib.hid (ho.mono L2.out.size)
      have L3 := Lib.hid (L2.out.trans (hb3.mono L2.out.size))
      clear ho hb3
      go_wp2
      go_ret
      exact ⟨v3, rfl, HO.out, L3.out⟩
theorem shaBlock_i (v : Value) (n : Nat) (xs : List Int) (B : Nat) (b : ByteArray) (w : World) (h : Obs w B 1 v n (xs.map vn)) (hn : n ≤ 4294967296) (hK : HoldsK w) :
    Calls Tryd.prog 36 #[v, .string b] w (GivesRow 1 n ((shaBlockL xs b).map vn) w) := by
  have hl : xs.length = n := by have := h.1; simpa using this
  by_cases h1 : n = 8 ∧ b.size = 64
  · obtain ⟨rfl, hb⟩ := h1
    cases hall : xs.all isW
    · rw [shaBlockL_no (by rw [hall]; simp)]
      exact shaBlock_i_bad v xs B b w h hb hall
    · obtain ⟨s, hs, rfl⟩ := words_of hl hall
      rw [shaBlockL_yes hs hb]
      exact shaBlock_i_good v s hs B b w h hb hK
  · rw [shaBlockL_no (by rw [hl]; exact fun e => h1 ⟨e.1, e.2.1⟩)]
    exact shaBlock_i_size v n xs B b w h hn (by omega)
end Go.Proofs.YtmhekefjlepfpaaDoor
