/- SHA-256 of a text, HMAC and their cuts in plain Lean. -/
import Derived.Test.YtmhekefjlepfpaaDoorK
import Derived.Test.YtmhekefjlepfpaaDoorK2
import Derived.Test.YtmhekefjlepfpaaDoorS
namespace Go.Proofs.YtmhekefjlepfpaaDoor
set_option linter.unusedVariables false

/-- the state behind k blocks -/
def stF (l : List UInt8) : Nat → St
  | 0 => start0
  | k + 1 => compS (stF l k) ((l.drop (64 * k)).take 64)
def stB (s : St) : List UInt8 := be s.a 4 ++ (be s.b 4 ++ (be s.c 4 ++ (be s.d 4 ++ (be s.e 4 ++ (be s.f 4 ++ (be s.g 4 ++ be s.h 4))))))
def digL (t : List UInt8) : List UInt8 := stB (stF (padL t) ((padL t).length / 64))
theorem stF_ok (l : List UInt8) : ∀ k, (stF l k).ok
  | 0 => start0_ok
  | k + 1 => compS_ok _ _
theorem stB_len (s : St) : (stB s).length = 32 := by simp [stB, be_len]
theorem digL_len (t : List UInt8) : (digL t).length = 32 := stB_len _
/-- a key of at most a block -/
def keyS (k : List UInt8) : List UInt8 := if 64 < k.length then digL k else k
theorem keyS_len (k : List UInt8) : (keyS k).length ≤ 64 := by
  unfold keyS; split
  · rw [digL_len]; omega
  · omega
def hkeyL (k : List UInt8) : List UInt8 := keyS k ++ List.replicate (64 - (keyS k).length) 0
theorem hkeyL_len (k : List UInt8) : (hkeyL k).length = 64 := by have := keyS_len k; simp [hkeyL]; omega
def xorL (l : List UInt8) (b : UInt8) : List UInt8 := l.map (· ^^^ b)
theorem xorL_len (l : List UInt8) (b : UInt8) : (xorL l b).length = l.length := by simp [xorL]
def hmacL (k t : List UInt8) : List UInt8 := digL (xorL (hkeyL k) 92 ++ digL (xorL (hkeyL k) 54 ++ t))
theorem hmacL_len (k t : List UInt8) : (hmacL k t).length = 32 := digL_len _
end Go.Proofs.YtmhekefjlepfpaaDoor
