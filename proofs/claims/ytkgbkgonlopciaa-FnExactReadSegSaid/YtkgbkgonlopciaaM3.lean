/- The walks of the laws' helpers: slices of strings compared, marked, looked at again. -/
import Derived.Test.YtkgbkgonlopciaaProg
import Derived.Test.YtkgbkgonlopciaaK
import Derived.Test.YtkgbkgonlopciaaK2
import Derived.Test.YtkgbkgonlopciaaK4
import Derived.Deep.QuietTactic
import Derived.BigQuiet
import Derived.Deep.RegionHeld3
import Derived.RegionTactic
import Derived.StillTailTactics
namespace Go.Proofs.Ytkgbkgonlopciaa
open Go.RowKit
set_option linter.unusedVariables false
set_option linter.unusedSimpArgs false

theorem Only.later {w w1 w2 : World} {v : Value} (h : Only w w1 v) (hb : Below w1.heap.size w1 w2) : Only w w2 v :=
  ⟨hb.os.trans h.os, hb.tape.trans h.tape, hb.output.trans h.output, Nat.le_trans h.size hb.size, fun k hk hne => (hb.block k (Nat.lt_of_lt_of_le hk h.size)).trans (h.block k hk hne)⟩
theorem held_keep {w w1 w2 : World} {b o : Nat} {u : Value} (hb : b < w.heap.size) (e : w.cell? ⟨b, o, none⟩ = some u) (h : w1.cell? ⟨b, o, none⟩ = some u ∧ Below w.heap.size w w1) (h2 : Below w1.heap.size w1 w2) : w2.cell? ⟨b, o, none⟩ = some u ∧ Below w.heap.size w w2 :=
  have h3 := h.2.trans (h2.mono h.2.size)
  ⟨(h3.cell (p := ⟨b, o, none⟩) hb).trans e, h3⟩
theorem getElem?_map_vs (xs : List ByteArray) (k : Nat) (h : k < xs.length) : (xs.map vs)[k]? = some (.string (xs[k]'h)) := by simp [h, vs]
def markT (k : Nat) : ByteArray := str (109 :: decD k)
set_option maxHeartbeats 1600000 in
theorem markText_l (N : Nat) (w : World) (h0 : 1 ≤ N) (hN : N ≤ 9223372036854775807) :
    Calls Try.prog 97 #[.int .i64 (N : Int)] w fun e w' => e = .returned (.string (markT N)) ∧ Below w.heap.size w w' := by
  have hp : ¬ ((N : Int) ≤ 0) := by omega
  have HDD : Hid (decD N = decG 20 N) := Lib.hid (by unfold decD decH; rw [if_neg (by omega)])
  have hl20 := decD_len N
  have HL := Lib.hid hl20
  clear hl20
  go_enter Try.func97, Try.ntmps97
  go_wp2
  clear hp
  go_loopw [0, 3] (fun n v wr => ∃ (f M : Nat) (D : List UInt8), n = .int .i64 (M : Int) ∧ v = .string (str D) ∧ M < 10 ^ f ∧ M ≤ 9223372036854775807 ∧ f + D.length ≤ 20 ∧ Hid (decG 20 N = decG f M ++ D) ∧ Below w.heap.size w wr) (fun n _ _ => (intOf n).natAbs)
  case atStart => exact ⟨20, N, [], rfl, rfl, by omega, hN, by simp, Lib.hid (by simp), Below.refl _ _⟩
  case round =>
    obtain ⟨f, M, D, rfl, rfl, hf, hM, hD, HE, hnx⟩ := hrel
    by_cases h1 : 1 ≤ M
    · have ho := one_byte (M % 10) (by omega)
      obtain ⟨c, hc⟩ : ∃ c, c = UInt8.ofNat (48 + M % 10) := ⟨_, rfl⟩
      rw [← hc] at ho
      have HO := Lib.hid ho
      have HX : Hid (str [c] ++ str D = str (c :: D)) := Lib.hid (by simp [str, ByteArray.ext_iff])
      have q1 : (0 : Int) ≤ (M : Int) % 10 := by omega
      have q0 : (M : Int) % 10 < 10 := by omega
      obtain ⟨f', rfl, hh, hf'⟩ := decG_step (show M ≠ 0 by omega) hf
      have HN : Hid (decG 20 N = decG f' (M / 10) ++ (c :: D)) := Lib.hid (by rw [HE.out, hh, ← hc]; simp)
      have HF' := Lib.hid hf'
      have HD' := Lib.hid (show f' + (D.length + 1) ≤ 20 by omega)
      clear hh hf' hf ho hc
      have s1 : (str [c]).size = 1 := by simp [str_size]
      have s2 : (str D).size = D.length := str_size _
      have c1 : ¬ 9223372036854775807 < 1 + D.length := by omega
      have hst : ∀ W : World, Sem.run Try.prog (convert 40 9 (.slice (some ⟨W.heap.size, 0, none⟩) 1 1)) (W.alloc (.cells #[.int .u8 (48 + (M : Int) % 10)] 5)) = .ok (.string (str [c])) (W.alloc (.cells #[.int .u8 (48 + (M : Int) % 10)] 5)) := fun W => by
        have e : Value.int .u8 (48 + (M : Int) % 10) = vb c := by rw [← HO.out]; rfl
        rw [e]
        exact obs_string (P := Try.prog) _ 40 9 5 Try.underlying40 Try.underlying5 Try.underlying9 (obs_one W 5 _ W.heap.size (Nat.le_refl _))
      go_wp2
      go_roundw
      case rel => exact ⟨f', M / 10, c :: D, by first | go_num | simp, by rw [HX.out], HF'.out, by omega, HD'.out, HN, hnx.alloc hnx.size _⟩
      case measure => simp [intOf]; omega
    · obtain rfl : M = 0 := by omega
      have HR : Hid (str D = str (decD N)) := Lib.hid (by rw [HDD.out, HE.out, decG_zero]; rfl)
      have s2 : (str D).size = D.length := str_size _
      have c1 : ¬ 9223372036854775807 < 1 + D.length := by omega
      go_wp2
      go_ret
      exact ⟨ret_str (by rw [HR.out]; simp [markT, str, ByteArray.ext_iff]), hnx⟩
end Go.Proofs.Ytkgbkgonlopciaa
