/- The greatest common divisor by Euclid's way, as Go's remainder has it. No condition. -/
import Derived.Test.YtolikggioekalabVG0
namespace Go.Proofs.Ytolikggioekalab.G
open Go.RowKit
set_option linter.unusedVariables false

theorem tmod_nat (a b : Nat) : Int.tmod (a : Int) (b : Int) = ((a % b : Nat) : Int) := by
  rw [Int.tmod_eq_emod_of_nonneg (by omega)]; omega

theorem w64_le {n m : Nat} (h : n ≤ m) (hm : m ≤ 1048576) : wrap64 (n : Int) = (n : Int) :=
  wnat n rfl (Nat.lt_of_le_of_lt h (by omega))

theorem gcd_step (a b : Nat) (h : b ≠ 0) : Nat.gcd a b = Nat.gcd b (a % b) := by
  rw [Nat.gcd_comm a b, Nat.gcd_rec b a, Nat.gcd_comm]

theorem tdiv_nat (a b : Nat) : Int.tdiv (a : Int) (b : Int) = ((a / b : Nat) : Int) := by
  rw [Int.tdiv_eq_ediv_of_nonneg (by omega)]; omega

end Go.Proofs.Ytolikggioekalab.G
