/- The walks: numbers, picks and texts that are drawn. -/
import Derived.Test.YtpfhhmlbciojaaaProg
import Derived.Test.YtpfhhmlbciojaaaK
import Derived.Test.YtpfhhmlbciojaaaK2
import Derived.Test.YtpfhhmlbciojaaaK3
import Derived.Test.YtpfhhmlbciojaaaK4
import Derived.Test.YtpfhhmlbciojaaaA1
import Derived.Test.YtpfhhmlbciojaaaD1
import Derived.Outline
namespace Go.Proofs.Ytpfhhmlbciojaaa
open Go.RowKit
set_option linter.unusedVariables false
set_option linter.unusedSimpArgs false

theorem obs_empty0 (w : World) (e : TypeId) (size B : Nat) (hB : B ≤ w.heap.size) : Obs (w.alloc (.cells #[] e)) B size (.slice (some ⟨w.heap.size, 0, none⟩) 0 0) 0 [] :=
  ⟨by simp, .inr ⟨w.heap.size, 0, rfl, hB, by simp, Nat.le_refl _, Nat.zero_le _, fun j hj => absurd hj (by simp), fun j u hu => by simp at hu⟩⟩
set_option maxRecDepth 100000 in
theorem below_s (g N : Nat) (w : World) (hc : Cur w g) (h1 : 1 ≤ N) (hN : N ≤ 1099511627776) : Calls Try.prog 36 #[.pointer (some ⟨g, 0, none⟩), .int .i64 (N : Int)] w (GivesNum N g w) := by
  have HC := Lib.hid hc
  clear hc
  have hp : (0 : Int) < N := by omega
  by_cases h : N ≤ 256
  · go_enter Try.func36, Try.ntmps36
    go_wp2_with fail
    refine (byte_s g _ HC.out).mono ?_
    rintro e w1 ⟨x, hx, rfl, hc1, hg1⟩
    go_wp2
    go_ret
    exact ⟨x % N, Nat.mod_lt _ (by omega), ret_int (by simp), hc1, hg1⟩
  · go_enter Try.func36, Try.ntmps36
    go_wp2_with fail
    refine (byte_s g _ HC.out).mono ?_
    rintro e w1 ⟨x, hx, rfl, hc1, hg1⟩
    have C1 := Lib.hid hc1
    have G1 := Lib.hid hg1
    clear hc1 hg1
    go_wp2_with fail
    refine (byte_s g _ C1.out).mono ?_
    rintro e w2 ⟨y, hy, rfl, hc2, hg2⟩
    have C2 := Lib.hid hc2
    have G2 := Lib.hid (G1.out.trans hg2)
    clear hc2 hg2
    go_wp2_with fail
    refine (byte_s g _ C2.out).mono ?_
    rintro e w3 ⟨z, hz, rfl, hc3, hg3⟩
    have C3 := Lib.hid hc3
    have G3 := Lib.hid (G2.out.trans hg3)
    clear hc3 hg3
    go_wp2_with fail
    refine (byte_s g _ C3.out).mono ?_
    rintro e w4 ⟨u, hu, rfl, hc4, hg4⟩
    have C4 := Lib.hid hc4
    have G4 := Lib.hid (G3.out.trans hg4)
    clear hc4 hg4
    go_wp2
    go_ret
    exact ⟨(x * 16777216 + y * 65536 + z * 256 + u) % N, Nat.mod_lt _ (by omega), ret_int (by simp), C4.out, G4.out⟩
/-- one of these has been drawn -/
def GivesOf (xs : List Int) (g : Nat) (w : World) (e : Ending) (w' : World) : Prop := ∃ x ∈ xs, e = .returned (.int .i64 x) ∧ Cur w' g ∧ Grew w w' g
/-- a text has been drawn -/
def GivesText (P : ByteArray → Prop) (g : Nat) (w : World) (e : Ending) (w' : World) : Prop := ∃ s : ByteArray, P s ∧ e = .returned (.string s) ∧ Cur w' g ∧ Grew w w' g
end Go.Proofs.Ytpfhhmlbciojaaa
