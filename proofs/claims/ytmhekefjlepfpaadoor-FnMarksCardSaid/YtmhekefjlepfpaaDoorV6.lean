/- The codes of a drawn text and of it with one byte more differ, under each drawn key: reckoned by the kernel, 1792 keys at once. -/
import Derived.Test.YtmhekefjlepfpaaDoorV5
namespace Go.Proofs.YtmhekefjlepfpaaDoor
set_option linter.unusedVariables false
set_option linter.unusedSimpArgs false
/-- how the texts begin -/
def pres : List (List Nat) := [[], [97], [72, 105, 32, 84, 104, 101, 114, 101], [119, 104, 97, 116, 32, 100, 111, 32, 121, 97, 32, 119, 97, 110, 116, 32, 102, 111, 114, 32, 110, 111, 116, 104, 105, 110, 103, 63]]
def textsN (n : Nat) : List (List Nat) := pres.map (· ++ List.replicate n 7)
set_option maxHeartbeats 12800000 in
theorem chk_all : ∀ n, n < 70 → chkP 1792 256 (textsN n) = true
  | 0, _ => by decide +kernel
  | 1, _ => by decide +kernel
  | 2, _ => by decide +kernel
  | 3, _ => by decide +kernel
  | 4, _ => by decide +kernel
  | 5, _ => by decide +kernel
  | 6, _ => by decide +kernel
  | 7, _ => by decide +kernel
  | 8, _ => by decide +kernel
  | 9, _ => by decide +kernel
  | 10, _ => by decide +kernel
  | 11, _ => by decide +kernel
  | 12, _ => by decide +kernel
  | 13, _ => by decide +kernel
  | 14, _ => by decide +kernel
  | 15, _ => by decide +kernel
  | 16, _ => by decide +kernel
  | 17, _ => by decide +kernel
  | 18, _ => by decide +kernel
  | 19, _ => by decide +kernel
  | 20, _ => by decide +kernel
  | 21, _ => by decide +kernel
  | 22, _ => by decide +kernel
  | 23, _ => by decide +kernel
  | 24, _ => by decide +kernel
  | 25, _ => by decide +kernel
  | 26, _ => by decide +kernel
  | 27, _ => by decide +kernel
  | 28, _ => by decide +kernel
  | 29, _ => by decide +kernel
  | 30, _ => by decide +kernel
  | 31, _ => by decide +kernel
  | 32, _ => by decide +kernel
  | 33, _ => by decide +kernel
  | 34, _ => by decide +kernel
  | 35, _ => by decide +kernel
  | 36, _ => by decide +kernel
  | 37, _ => by decide +kernel
  | 38, _ => by decide +kernel
  | 39, _ => by decide +kernel
  | 40, _ => by decide +kernel
  | 41, _ => by decide +kernel
  | 42, _ => by decide +kernel
  | 43, _ => by decide +kernel
  | 44, _ => by decide +kernel
  | 45, _ => by decide +kernel
  | 46, _ => by decide +kernel
  | 47, _ => by decide +kernel
  | 48, _ => by decide +kernel
  | 49, _ => by decide +kernel
  | 50, _ => by decide +kernel
  | 51, _ => by decide +kernel
  | 52, _ => by decide +kernel
  | 53, _ => by decide +kernel
  | 54, _ => by decide +kernel
  | 55, _ => by decide +kernel
  | 56, _ => by decide +kernel
  | 57, _ => by decide +kernel
  | 58, _ => by decide +kernel
  | 59, _ => by decide +kernel
  | 60, _ => by decide +kernel
  | 61, _ => by decide +kernel
  | 62, _ => by decide +kernel
  | 63, _ => by decide +kernel
  | 64, _ => by decide +kernel
  | 65, _ => by decide +kernel
  | 66, _ => by decide +kernel
  | 67, _ => by decide +kernel
  | 68, _ => by decide +kernel
  | 69, _ => by decide +kernel
  | n + 70, h => absurd h (by omega)
theorem texts_lt {p : List Nat} (hp : p ∈ pres) (n : Nat) : ∀ x ∈ p ++ List.replicate n 7, x < 256 := by
  intro x hx
  rcases List.mem_append.1 hx with hx | hx
  · have : ∀ p ∈ pres, ∀ x ∈ p, x < 256 := by decide
    exact this p hp x hx
  · rw [(List.mem_replicate.1 hx).2]; omega
theorem marks_q {q b : Nat} (hq : q < 7) (hb : b < 256) {p : List Nat} (hp : p ∈ pres) {n : Nat} (hn : n < 70) :
    hmacL (List.replicate (lens.getD q 0) (UInt8.ofNat b)) (byts (p ++ List.replicate n 7)) ≠ hmacL (List.replicate (lens.getD q 0) (UInt8.ofNat b)) (byts (p ++ List.replicate n 7 ++ [97])) := by
  have h := chk_ne (w := 256) (n := 1792) rfl rfl (chk_all n hn) (t := p ++ List.replicate n 7) (List.mem_map.2 ⟨p, hp, rfl⟩) (texts_lt hp n) (i := 256 * q + b) (by omega)
  rw [keyB_at rfl hb] at h
  exact h
/-- the lengths that a key may have -/
def keyLens : List Nat := [0, 1, 20, 32, 63, 64, 65, 100]
theorem hkey_none : hkeyL [] = hkeyL (List.replicate (lens.getD 0 0) (UInt8.ofNat 0)) := by rfl
theorem marks_ne {L b : Nat} (hL : L ∈ keyLens) (hb : b < 256) {p : List Nat} (hp : p ∈ pres) {n : Nat} (hn : n < 70) :
    hmacL (List.replicate L (UInt8.ofNat b)) (byts (p ++ List.replicate n 7)) ≠ hmacL (List.replicate L (UInt8.ofNat b)) (byts (p ++ List.replicate n 7) ++ [97]) := by
  have e : ∀ t, byts t ++ [97] = byts (t ++ [97]) := fun t => by rw [byts_app]; rfl
  rw [e]
  simp only [keyLens, List.mem_cons, List.not_mem_nil, or_false] at hL
  rcases hL with rfl | rfl | rfl | rfl | rfl | rfl | rfl | rfl
  · have h := marks_q (q := 0) (b := 0) (by omega) (by omega) hp hn
    rw [hmacL_S, hmacL_S, ← hkey_none] at h
    rw [show List.replicate 0 (UInt8.ofNat b) = [] from rfl, hmacL_S, hmacL_S]
    exact h
  · exact marks_q (q := 0) (by omega) hb hp hn
  · exact marks_q (q := 1) (by omega) hb hp hn
  · exact marks_q (q := 2) (by omega) hb hp hn
  · exact marks_q (q := 3) (by omega) hb hp hn
  · exact marks_q (q := 4) (by omega) hb hp hn
  · exact marks_q (q := 5) (by omega) hb hp hn
  · exact marks_q (q := 6) (by omega) hb hp hn
end Go.Proofs.YtmhekefjlepfpaaDoor
