/- The walks: numbers, picks and texts that are drawn. -/
import Derived.Test.YtmhekefjlepfpaaDoorProg
import Derived.Test.YtmhekefjlepfpaaDoorK
import Derived.Test.YtmhekefjlepfpaaDoorK2
import Derived.Test.YtmhekefjlepfpaaDoorK3
import Derived.Test.YtmhekefjlepfpaaDoorK4
import Derived.Test.YtmhekefjlepfpaaDoorA1
import Derived.Test.YtmhekefjlepfpaaDoorD1
import Derived.Outline
namespace Go.Proofs.YtmhekefjlepfpaaDoor
open Go.RowKit
set_option linter.unusedVariables false
set_option linter.unusedSimpArgs false

theorem obs_empty0 (w : World) (e : TypeId) (size B : Nat) (hB : B ≤ w.heap.size) : Obs (w.alloc (.cells #[] e)) B size (.slice (some ⟨w.heap.size, 0, none⟩) 0 0) 0 [] :=
  ⟨by simp, .inr ⟨w.heap.size, 0, rfl, hB, by simp, Nat.le_refl _, Nat.zero_le _, fun j hj => absurd hj (by simp), fun j u hu => by simp at hu⟩⟩
set_option maxRecDepth 100000 in
theorem below_s (g N : Nat) (w : World) (hc : Cur w g) (h1 : 1 ≤ N) (hN : N ≤ 1099511627776) : Calls Tryd.prog 84 #[.pointer (some ⟨g, 0, none⟩), .int .i64 (N : Int)] w (GivesNum N g w) := by
  have HC := Lib.hid hc
  clear hc
  have hp : (0 : Int) < N := by omega
  by_cases h : N ≤ 256
  · go_enter Tryd.func84, Tryd.ntmps84
    go_wp2_with fail
    refine (byte_s g _ HC.out).mono ?_
    rintro e w1 ⟨x, hx, rfl, hc1, hg1⟩
    go_wp2
    go_ret
    exact ⟨x % N, Nat.mod_lt _ (by omega), ret_int (by simp), hc1, hg1⟩
  · go_enter Tryd.func84, Tryd.ntmps84
    go_wp2_with fail
    refine (byte_s g _ HC.out).mono ?_
    rintro e w1 ⟨x, hx, rfl, hc1, hg1⟩
    have C1 := Lib.hid hc1
    have G1 := Lib.hid hg1
    clear hc1 hg1
    go_wp2_with fail
    refine (byte_s g _ C1.out).mono ?_
    rintro e w2 ⟨y, hy, rfl, hc2, hg2⟩
    have C2 := Lib.hid hc2
    have G2 := Lib.hid (G1.out.trans hg2)
    clear hc2 hg2
    go_wp2_with fail
    refine (byte_s g _ C2.out).mono ?_
    rintro e w3 ⟨z, hz, rfl, hc3, hg3⟩
    have C3 := Lib.hid hc3
    have G3 := Lib.hid (G2.out.trans hg3)
    clear hc3 hg3
    go_wp2_with fail
    refine (byte_s g _ C3.out).mono ?_
    rintro e w4 ⟨u, hu, rfl, hc4, hg4⟩
    have C4 := Lib.hid hc4
    have G4 := Lib.hid (G3.out.trans hg4)
    clear hc4 hg4
    go_wp2
    go_ret
    exact ⟨(x * 16777216 + y * 65536 + z * 256 + u) % N, Nat.mod_lt _ (by omega), ret_int (by simp), C4.out, G4.out⟩
/-- one of these has been drawn -/
def GivesOf (xs : List Int) (g : Nat) (w : World) (e : Ending) (w' : World) : Prop := ∃ x ∈ xs, e = .returned (.int .i64 x) ∧ Cur w' g ∧ Grew w w' g
theorem pickInt_s (g : Nat) (v : Value) (n : Nat) (xs : List Int) (w : World) (hc : Cur w g) (hv : Rd w 1 v n (xs.map vn)) (h0 : 0 < n) (hn : n ≤ 256)
    (hne : ∀ b off m cap, v = .slice (some ⟨b, off, none⟩) m cap → b ≠ g) : Calls Tryd.prog 91 #[.pointer (some ⟨g, 0, none⟩), v] w (GivesOf xs g w) := by
  obtain ⟨A, cap, rfl, hm⟩ := hv.shape
  have hl : xs.length = n := by have := hv.len; simpa using this
  have HL := Lib.hid hl
  have HC := Lib.hid hc
  have HV := Lib.hid hv
  have HNE := Lib.hid hne
  clear hc hv hl hne hm
  go_enter Tryd.func91, Tryd.ntmps91
  go_wp2_with fail
  refine (below_s g n _ HC.out h0 (by omega)).mono ?_
  rintro e w1 ⟨x, hx, rfl, hc1, hg1⟩
  have hxl : x < xs.length := by have := HL.out; omega
  obtain ⟨b, off, cap', he, hbl, hmm, hcc⟩ := (HV.out.grew hg1 (fun _ => HNE.out)).full h0
  simp only [Value.slice.injEq] at he
  obtain ⟨rfl, _, rfl⟩ := he
  have c1 : w1.cell? ⟨b, off + x, none⟩ = some (.int .i64 (xs[x]'hxl)) := hcc x _ (getElem?_map_vn _ _ _)
  have C1 := Lib.hid hc1
  have G1 := Lib.hid hg1
  obtain ⟨y, hy⟩ : ∃ y, y = xs[x]'hxl := ⟨_, rfl⟩
  have HY : Hid (y ∈ xs) := Lib.hid (by rw [hy]; exact List.getElem_mem _)
  rw [← hy] at c1
  clear hc1 hg1 hcc hy hxl
  go_wp2
  go_ret
  exact ⟨y, HY.out, rfl, C1.out, G1.out⟩
/-- a text has been drawn -/
def GivesText (P : ByteArray → Prop) (g : Nat) (w : World) (e : Ending) (w' : World) : Prop := ∃ s : ByteArray, P s ∧ e = .returned (.string s) ∧ Cur w' g ∧ Grew w w' g
set_option maxRecDepth 100000 in
theorem text_s_low (g N : Nat) (w : World) (hc : Cur w g) (hN : N ≤ 5000) : Calls Tryd.prog 92 #[.pointer (some ⟨g, 0, none⟩), .int .i64 (N : Int)] w (GivesText (fun s => s.size = N) g w) := by
  obtain ⟨i0, hi, hz0, hz1, hz2⟩ := info_parts u8_info
  have hgl := hc.lt
  have HC := Lib.hid hc
  have o0 := Lib.hid (obs_empty0 w 5 1 w.heap.size (Nat.le_refl _))
  have c0 : Hid (Cur (w.alloc (.cells #[] 5)) g) := Lib.hid (hc.below ((Below.refl _ _).alloc (Nat.le_refl _) _))
  have g0 : Hid (Grew w (w.alloc (.cells #[] 5)) g) := Lib.hid (.of_below ((Below.refl _ _).alloc (Nat.le_refl _) _))
  clear hc
  have hNi : (N : Int) ≤ 5000 := by omega
  go_enter Tryd.func92, Tryd.ntmps92
  go_wp2
  go_loopw [5, 6] (fun v i wr => ∃ k : Nat, k ≤ N ∧ i = .int .i64 (k : Int) ∧ (∃ l : List UInt8, l.length = k ∧ Hid (Obs wr w.heap.size 1 v k (l.map vb))) ∧ Hid (Cur wr g) ∧ Hid (Grew w wr g)) (fun _ i _ => N - (intOf i).toNat)
  case atStart => exact ⟨0, Nat.zero_le _, rfl, ⟨[], rfl, o0⟩, c0, g0⟩
  case round =>
    clear o0 c0 g0
    obtain ⟨k, hk, rfl, ⟨l, hl, OK⟩, CK, GK⟩ := hrel
    have HL := Lib.hid hl
    clear hl
    by_cases hlt : k < N
    · go_wp2_with fail
      refine (byte_s g _ CK.out).mono ?_
      rintro e w1 ⟨x, hx, rfl, hc1, hg1⟩
      have O1 := Lib.hid (OK.out.grew hg1 (fun q hq => by have := (OK.out.lt q hq).1; omega))
      have C1 := Lib.hid hc1
      have G1 := Lib.hid (GK.out.trans hg1)
      have hsz : w.heap.size ≤ w1.heap.size := G1.out.size
      clear hc1 hg1 OK CK GK
      have hvb : Value.int .u8 (x : Int) = vb (UInt8.ofNat x) := by
        have := vb_small (x : Int) (by omega) (by omega); simpa using this
      have HVB := Lib.hid hvb
      clear hvb
      go_wp2_with (at_builtin; refine wpList_append_obs _ rfl _ _ 44 rfl w.heap.size 5 i0 (.int .u8 0) 1 1 Tryd.underlying44 hi hz0 hz1 hz2 rfl (by decide) _ _ _ rfl (O1.out.alloc _) ⟨w1.heap.size, 0, none⟩ 1 1 [.int .u8 (x : Int)] rfl rfl (new_cells _ _ _) (by simp [Value.oneCell']) (by unfold maxLen; omega) (by omega) (by simp; omega) ?_; intro v2 w2 hown2 hb2 hgr2)
      have O2 : Hid (Obs w2 w.heap.size 1 v2 (k + 1) ((l ++ [UInt8.ofNat x]).map vb)) := Lib.hid (by rw [List.map_append, List.map_singleton, ← HVB.out]; exact hown2)
      have C2 := Lib.hid ((C1.out.below ((Below.refl _ _).alloc (Nat.le_refl _) _)).belowB hb2 hgl)
      have G2 := Lib.hid ((G1.out.trans (.of_below ((Below.refl _ _).alloc (Nat.le_refl _) (.cells #[.int .u8 (x : Int)] 5)))).below_trans hb2)
      clear hown2 hb2 hgr2 O1 C1 G1
      go_wp2
      go_roundw
      case rel => exact ⟨k + 1, by omega, by go_num, ⟨l ++ [UInt8.ofNat x], by rw [List.length_append, HL.out]; rfl, O2⟩, C2, G2⟩
      case measure => simp [intOf]; omega
    · obtain rfl : k = N := by omega
      have hst := obs_string (P := Tryd.prog) wr 44 9 5 Tryd.underlying44 Tryd.underlying5 Tryd.underlying9 OK.out
      go_wp2
      go_ret
      exact ⟨str l, (str_size l).trans HL.out, rfl, CK.out, GK.out⟩
theorem text_s (g N : Nat) (w : World) (hc : Cur w g) (hN : N ≤ 5000) : Calls Tryd.prog 92 #[.pointer (some ⟨g, 0, none⟩), .int .i64 (N : Int)] w (GivesText (fun s => s.size = N) g w) := text_s_low g N w hc hN
end Go.Proofs.YtmhekefjlepfpaaDoor
