/- What the two readings of a relation's shape both say. No condition. -/
import Derived.Test.YtolikggioekalabVG0
namespace Go.Proofs.Ytolikggioekalab.G
open Go.RowKit
set_option linter.unusedVariables false

/-- Every number of a row lies in [0,n). -/
abbrev RowIn (n : Nat) (r : List Int) : Prop := ∀ v ∈ r, 0 ≤ v ∧ v < (n : Int)
/-- Every row is m long and its numbers lie in [0,n). -/
abbrev RelRows (n m : Nat) (rs : List (List Int)) : Prop := ∀ r ∈ rs, r.length = m ∧ RowIn n r
/-- The reading of a relation's shape. -/
def relIn (b t : Int) (l : List (List Int)) (acc : List Bool) : Bool :=
  decide ((b = 2 ∨ b = 3) ∧ (0 ≤ t ∧ t ≤ 3) ∧ (1 ≤ l.length ∧ l.length ≤ 48) ∧ acc.length = l.length) && (decide (RelRows l.length (b.toNat ^ t.toNat) l) && ((l.getD 0 []).getD 0 0 == 0))

theorem relIn_spec {b t : Int} {l : List (List Int)} {acc : List Bool} (h : relIn b t l acc = true) :
    (b = 2 ∨ b = 3) ∧ (0 ≤ t ∧ t ≤ 3) ∧ (1 ≤ l.length ∧ l.length ≤ 48) ∧ acc.length = l.length ∧ RelRows l.length (b.toNat ^ t.toNat) l ∧ (l.getD 0 []).getD 0 0 = 0 := by
  unfold relIn at h
  simp only [Bool.and_eq_true, decide_eq_true_eq, beq_iff_eq] at h
  exact ⟨h.1.1, h.1.2.1, h.1.2.2.1, h.1.2.2.2, h.2.1, h.2.2⟩

theorem base_pow_pos (b t : Int) (hb : b = 2 ∨ b = 3) : 1 ≤ b.toNat ^ t.toNat := Nat.pow_pos (by omega)

end Go.Proofs.Ytolikggioekalab.G
