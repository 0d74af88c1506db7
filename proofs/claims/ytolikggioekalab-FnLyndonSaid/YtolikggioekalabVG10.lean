/- Small powers do not wrap. No condition beyond those written. -/
import Derived.Test.YtolikggioekalabVG0
namespace Go.Proofs.Ytolikggioekalab.G
open Go.RowKit
set_option linter.unusedVariables false

theorem pow_le (b i : Nat) (hb : b ≤ 4) (hi : i ≤ 20) : b ^ i ≤ 4 ^ 20 :=
  Nat.le_trans (Nat.pow_le_pow_left hb i) (Nat.pow_le_pow_right (by omega) hi)

theorem pow_step (b i : Nat) (hb : b ≤ 4) (hi : i + 1 ≤ 20) : wrap64 (((b ^ i : Nat) : Int) * (b : Int)) = ((b ^ (i + 1) : Nat) : Int) := by
  have h := pow_le b (i + 1) hb hi
  have e : (4 : Nat) ^ 20 = 1099511627776 := by decide
  refine wnat _ ?_ (by omega)
  rw [Nat.pow_succ, Int.natCast_mul]

end Go.Proofs.Ytolikggioekalab.G
