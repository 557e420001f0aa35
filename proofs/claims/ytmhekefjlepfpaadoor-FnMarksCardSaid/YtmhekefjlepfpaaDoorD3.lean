/- The walks: a drawn text for the digest. -/
import Derived.Test.YtmhekefjlepfpaaDoorProg
import Derived.Test.YtmhekefjlepfpaaDoorK
import Derived.Test.YtmhekefjlepfpaaDoorK2
import Derived.Test.YtmhekefjlepfpaaDoorK3
import Derived.Test.YtmhekefjlepfpaaDoorK4
import Derived.Test.YtmhekefjlepfpaaDoorD1
import Derived.Test.YtmhekefjlepfpaaDoorD2
namespace Go.Proofs.YtmhekefjlepfpaaDoor
open Go.RowKit
set_option linter.unusedVariables false
set_option linter.unusedSimpArgs false

theorem rd_lit (w : World) (t : TypeId) (cs : Array Value) (n : Nat) (h : cs.size = n) (hn : n ≤ maxLen) : Rd (w.alloc (.cells cs t)) 1 (.slice (some ⟨w.heap.size, 0, none⟩) n n) n cs.toList :=
  ⟨by simp [h], .inr ⟨w.heap.size, 0, n, rfl, by simp, Nat.le_refl _, hn, fun j u hu => by rw [Nat.zero_add]; exact ((Blk.new w t cs).cell j).trans hu⟩⟩
theorem some_s (g : Nat) (w : World) (hc : Cur w g) : Calls Tryd.prog 82 #[.pointer (some ⟨g, 0, none⟩)] w (GivesText (fun s => s.size ≤ 200) g w) := by
  have hgl := hc.lt
  have C0 : Hid (Cur (w.alloc (.cells (([0, 1, 3, 9, 54, 55, 56, 63, 64, 65, 119, 120, 200] : List Int).map vn).toArray 3)) g) := Lib.hid (hc.below ((Below.refl _ _).alloc (Nat.le_refl _) _))
  have G0 : Hid (Grew w (w.alloc (.cells (([0, 1, 3, 9, 54, 55, 56, 63, 64, 65, 119, 120, 200] : List Int).map vn).toArray 3)) g) := Lib.hid (.of_below ((Below.refl _ _).alloc (Nat.le_refl _) _))
  have R0 := Lib.hid (rd_lit w 3 (([0, 1, 3, 9, 54, 55, 56, 63, 64, 65, 119, 120, 200] : List Int).map vn).toArray 13 rfl (by unfold maxLen; omega))
  clear hc
  go_enter Tryd.func82, Tryd.ntmps82
  go_wp2_with fail
  refine (pickInt_s g _ 13 [0, 1, 3, 9, 54, 55, 56, 63, 64, 65, 119, 120, 200] _ C0.out R0.out (by omega) (by omega) (fun b o m c e => by simp only [Value.slice.injEq, Option.some.injEq, Addr.mk.injEq] at e; omega)).mono ?_
  rintro e w1 ⟨x, hx, rfl, hc1, hg1⟩
  obtain ⟨N, rfl, hN⟩ : ∃ N : Nat, x = (N : Int) ∧ N ≤ 200 := by
    simp only [List.mem_cons, List.not_mem_nil, or_false] at hx
    exact ⟨x.toNat, by omega, by omega⟩
  have C1 := Lib.hid hc1
  have G1 := Lib.hid (G0.out.trans hg1)
  clear hc1 hg1 hx
  go_wp2_with fail
  refine (text_s g N _ C1.out (by omega)).mono ?_
  rintro e w2 ⟨s, hs, rfl, hc2, hg2⟩
  have C2 := Lib.hid hc2
  have G2 := Lib.hid (G1.out.trans hg2)
  have HS : Hid (s.size ≤ 200) := Lib.hid (by have : s.size = N := hs; omega)
  clear hc2 hg2 hs
  go_wp2
  go_ret
  exact ⟨s, HS.out, rfl, C2.out, G2.out⟩
/-- some text comes back, and nothing that was there has changed -/
def GivesSome (P : ByteArray → Prop) (w : World) (e : Ending) (w' : World) : Prop := ∃ s : ByteArray, P s ∧ e = .returned (.string s) ∧ Below w.heap.size w w'
theorem drawDigest_s (v : Value) (n : Nat) (xs : List Int) (w : World) (hv : Rd w 1 v n (xs.map (Value.int .u8))) (hx : ∀ x ∈ xs, 0 ≤ x ∧ x ≤ 255) (hn : n ≤ 1048576) :
    Calls Tryd.prog 57 #[v] w (GivesSome (fun s => s.size ≤ 200) w) := by
  have HV := Lib.hid hv
  have HX := Lib.hid hx
  clear hv hx
  go_enter Tryd.func57, Tryd.ntmps57
  go_wp2_with fail
  refine (new_s v n xs _ HV.out HX.out hn).mono ?_
  rintro e w1 ⟨rfl, hc1, hb1⟩
  have C1 := Lib.hid hc1
  have L1 := Lib.hid hb1
  clear hc1 hb1
  go_wp2_with fail
  refine (some_s _ _ C1.out).mono ?_
  rintro e w2 ⟨s, hs, rfl, hc2, hg2⟩
  have L2 := Lib.hid (L1.out.trans (hg2.below L1.out.size (Nat.le_refl _)))
  have HS := Lib.hid hs
  clear hc2 hg2 hs
  go_wp2
  go_ret
  exact ⟨s, HS.out, rfl, L2.out⟩
end Go.Proofs.YtmhekefjlepfpaaDoor
