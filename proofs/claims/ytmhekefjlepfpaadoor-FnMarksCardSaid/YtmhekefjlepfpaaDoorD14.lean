/- The walks of the draws of keys and texts. -/
import Derived.Test.YtmhekefjlepfpaaDoorD3
import Derived.Test.YtmhekefjlepfpaaDoorB8
import Derived.Test.YtmhekefjlepfpaaDoorV6
import Derived.RegionTactic
import Derived.Deep.QuietTactic
import Derived.BigQuiet
namespace Go.Proofs.YtmhekefjlepfpaaDoor
open Go.RowKit
set_option linter.unusedVariables false
set_option linter.unusedSimpArgs false
/-- this key may be drawn -/
def KeyD (s : ByteArray) : Prop := ∃ L b : Nat, L ∈ keyLens ∧ b < 256 ∧ s = str (List.replicate L (UInt8.ofNat b))
/-- this text may be drawn -/
def TextD (s : ByteArray) : Prop := ∃ (p : List Nat) (n : Nat), p ∈ pres ∧ n < 70 ∧ s = str (byts (p ++ List.replicate n 7))
def GivesBool (g : Nat) (w : World) (e : Ending) (w' : World) : Prop := ∃ r : Bool, e = .returned (.bool r) ∧ Cur w' g ∧ Grew w w' g
theorem once_s (g N : Nat) (w : World) (hc : Cur w g) (h1 : 1 ≤ N) (hN : N ≤ 1000) : Calls Tryd.prog 96 #[.pointer (some ⟨g, 0, none⟩), .int .i64 (N : Int)] w (GivesBool g w) := by
  have HC := Lib.hid hc
  clear hc
  go_enter Tryd.func96, Tryd.ntmps96
  go_wp2_with fail
  refine (below_s g N _ HC.out h1 (by omega)).mono ?_
  rintro e w1 ⟨x, hx, rfl, hc1, hg1⟩
  have C1 := Lib.hid hc1
  have G1 := Lib.hid hg1
  clear hc1 hg1
  go_wp2
  go_ret
  exact ⟨_, rfl, C1.out, G1.out⟩
theorem pick_s (g : Nat) (v : Value) (n : Nat) (xs : List ByteArray) (w : World) (hc : Cur w g) (hv : Rd w 1 v n (xs.map Value.string)) (h0 : 0 < n) (hn : n ≤ 256)
    (hne : ∀ b off m cap, v = .slice (some ⟨b, off, none⟩) m cap → b ≠ g) : Calls Tryd.prog 97 #[.pointer (some ⟨g, 0, none⟩), v] w (GivesText (fun s => s ∈ xs) g w) := by
  obtain ⟨A, cap, rfl, hm⟩ := hv.shape
  have hl : xs.length = n := by have := hv.len; simpa using this
  have HL := Lib.hid hl
  have HC := Lib.hid hc
  have HV := Lib.hid hv
  have HNE := Lib.hid hne
  clear hc hv hl hne hm
  go_enter Tryd.func97, Tryd.ntmps97
  go_wp2_with fail
  refine (below_s g n _ HC.out h0 (by omega)).mono ?_
  rintro e w1 ⟨x, hx, rfl, hc1, hg1⟩
  have hxl : x < xs.length := by have := HL.out; omega
  obtain ⟨b, off, cap', he, hbl, hmm, hcc⟩ := (HV.out.grew hg1 (fun _ => HNE.out)).full h0
  simp only [Value.slice.injEq] at he
  obtain ⟨rfl, _, rfl⟩ := he
  have c1 : w1.cell? ⟨b, off + x, none⟩ = some (.string (xs[x]'hxl)) := hcc x _ (by rw [List.getElem?_map, List.getElem?_eq_getElem hxl]; rfl)
  have C1 := Lib.hid hc1
  have G1 := Lib.hid hg1
  obtain ⟨y, hy⟩ : ∃ y, y = xs[x]'hxl := ⟨_, rfl⟩
  have HY : Hid (y ∈ xs) := Lib.hid (by rw [hy]; exact List.getElem_mem _)
  rw [← hy] at c1
  clear hc1 hg1 hcc hy hxl
  go_wp2
  go_ret
  exact ⟨y, HY.out, rfl, C1.out, G1.out⟩
set_option maxRecDepth 100000 in
theorem key_s (g : Nat) (w : World) (hc : Cur w g) : Calls Tryd.prog 94 #[.pointer (some ⟨g, 0, none⟩)] w (GivesText KeyD g w) := by
  have hgl := hc.lt
  have P0 := Lib.hid (rd_lit w 3 (([0, 1, 20, 32, 63, 64, 65, 100] : List Int).map vn).toArray 8 (by decide) (by decide))
  have E0 := Lib.hid ((Below.refl w.heap.size w).alloc (Nat.le_refl _) (.cells (([0, 1, 20, 32, 63, 64, 65, 100] : List Int).map vn).toArray 3))
  have C0 := Lib.hid (hc.below E0.out)
  have G0 : Hid (Grew w (w.alloc (.cells (([0, 1, 20, 32, 63, 64, 65, 100] : List Int).map vn).toArray 3)) g) := Lib.hid (.of_below E0.out)
  clear hc
  go_enter Tryd.func94, Tryd.ntmps94
  go_wp2_with fail
  refine (pickInt_s g _ 8 [0, 1, 20, 32, 63, 64, 65, 100] _ C0.out P0.out (by omega) (by omega) (by intro b off k cap hb; simp only [Value.slice.injEq, Option.some.injEq, Addr.mk.injEq] at hb; omega)).mono ?_
  rintro e w1 ⟨y, hy, rfl, hc1, hg1⟩
  have hL : ∃ L : Nat, y = (L : Int) ∧ L ∈ keyLens ∧ L ≤ 100 := by
    simp only [List.mem_cons, List.not_mem_nil, or_false] at hy
    rcases hy with rfl | rfl | rfl | rfl | rfl | rfl | rfl | rfl
    · exact ⟨0, rfl, by decide, by omega⟩
    · exact ⟨1, rfl, by decide, by omega⟩
    · exact ⟨20, rfl, by decide, by omega⟩
    · exact ⟨32, rfl, by decide, by omega⟩
    · exact ⟨63, rfl, by decide, by omega⟩
    · exact ⟨64, rfl, by decide, by omega⟩
    · exact ⟨65, rfl, by decide, by omega⟩
    · exact ⟨100, rfl, by decide, by omega⟩
  obtain ⟨L, rfl, hLk, hL100⟩ := hL
  have HLK := Lib.hid hLk
  have C1 := Lib.hid hc1
  have G1 := Lib.hid (G0.out.trans hg1)
  clear hy hc1 hg1 hLk P0 E0 C0 G0
  go_wp2_with fail
  refine (byte_s g _ C1.out).mono ?_
  rintro e w2 ⟨x, hx, rfl, hc2, hg2⟩
  have C2 := Lib.hid hc2
  have G2 := Lib.hid (G1.out.trans hg2)
  have HXX : Hid ((x : Int) = ((UInt8.ofNat x).toNat : Int)) := Lib.hid (by rw [UInt8.toNat_ofNat']; omega)
  clear hc2 hg2 C1 G1
  go_wp2_with fail
  rw [HXX.out]
  refine (long_s L (UInt8.ofNat x) _ (by omega)).mono ?_
  rintro e w3 ⟨rfl, hb⟩
  have C3 := Lib.hid (C2.out.below hb)
  have G3 := Lib.hid (G2.out.trans (.of_below hb))
  clear hb C2 G2
  go_wp2
  go_ret
  exact ⟨_, ⟨L, x, HLK.out, hx, rfl⟩, rfl, C3.out, G3.out⟩
/-- the four beginnings, as texts -/
def presB : List ByteArray := pres.map fun p => str (byts p)
set_option maxRecDepth 100000 in
theorem text3_s (g : Nat) (w : World) (hc : Cur w g) : Calls Tryd.prog 95 #[.pointer (some ⟨g, 0, none⟩)] w (GivesText TextD g w) := by
  have hgl := hc.lt
  have P0 := Lib.hid (rd_lit w 9 ((presB).map Value.string).toArray 4 (by decide) (by decide))
  have E0 := Lib.hid ((Below.refl w.heap.size w).alloc (Nat.le_refl _) (.cells (presB.map Value.string).toArray 9))
  have C0 := Lib.hid (hc.below E0.out)
  have G0 : Hid (Grew w (w.alloc (.cells (presB.map Value.string).toArray 9)) g) := Lib.hid (.of_below E0.out)
  clear hc
  go_enter Tryd.func95, Tryd.ntmps95
  go_wp2_with fail
  refine (pick_s g _ 4 presB _ C0.out P0.out (by omega) (by omega) (by intro b off k cap hb; simp only [Value.slice.injEq, Option.some.injEq, Addr.mk.injEq] at hb; omega)).mono ?_
  rintro e w1 ⟨y, hy, rfl, hc1, hg1⟩
  obtain ⟨p, hp, rfl⟩ := List.mem_map.1 hy
  have HP := Lib.hid hp
  have hps : (str (byts p)).size ≤ 28 := by
    rw [str_size, byts_len]
    have : ∀ p ∈ pres, p.length ≤ 28 := by decide
    exact this p hp
  obtain ⟨Y, hY⟩ : ∃ Y, Y = str (byts p) := ⟨_, rfl⟩
  rw [← hY] at hps ⊢
  have HY := Lib.hid hY
  have C1 := Lib.hid hc1
  have G1 := Lib.hid (G0.out.trans hg1)
  clear hy hc1 hg1 hp hY P0 E0 C0 G0
  go_wp2_with fail
  refine (below_s g 70 _ C1.out (by omega) (by omega)).mono ?_
  rintro e w2 ⟨x, hx, rfl, hc2, hg2⟩
  have C2 := Lib.hid hc2
  have G2 := Lib.hid (G1.out.trans hg2)
  clear hc2 hg2 C1 G1
  go_wp2_with fail
  refine (long_s x 7 _ (by omega)).mono ?_
  rintro e w3 ⟨rfl, hb⟩
  obtain ⟨Z, hZ⟩ : ∃ Z, Z = str (List.replicate x (7 : UInt8)) := ⟨_, rfl⟩
  have hzs : Z.size ≤ 70 := by rw [hZ, str_size, List.length_replicate]; omega
  rw [← hZ]
  have HZ := Lib.hid hZ
  have C3 := Lib.hid (C2.out.below hb)
  have G3 := Lib.hid (G2.out.trans (.of_below hb))
  have hsum : ¬ (9223372036854775807 < Y.size + Z.size) := by omega
  clear hb C2 G2 hZ
  go_wp2
  go_ret
  exact ⟨_, ⟨p, x, HP.out, hx, by rw [HY.out, HZ.out, byts_app, byts_rep]; apply ByteArray.ext; simp [str]⟩, rfl, C3.out, G3.out⟩
end Go.Proofs.YtmhekefjlepfpaaDoor
