/- Decimals: the digits of a number (where the code itself makes no decimal). No program in sight. -/
import Derived.Test.YtcooijbmmkkdoaaY
namespace Go.Proofs.Ytcooijbmmkkdoaa.X
def dgt (u : Nat) : UInt8 := UInt8.ofNat (48 + u % 10)
/-- The digits of u, ahead of what is there. -/
def dg : Nat → Nat → List UInt8 → List UInt8
  | 0, _, acc => acc
  | f + 1, u, acc => if u / 10 = 0 then dgt u :: acc else dg f (u / 10) (dgt u :: acc)
def textB (n : Int) : ByteArray := if n < 0 then ⟨(45 :: dg 20 n.natAbs []).toArray⟩ else ⟨(dg 20 n.natAbs []).toArray⟩
def num_Text.f (a0 : Int) : Option ByteArray := if -9223372036854775808 ≤ a0 ∧ a0 ≤ 9223372036854775807 then some (textB a0) else none
end Go.Proofs.Ytcooijbmmkkdoaa.X
