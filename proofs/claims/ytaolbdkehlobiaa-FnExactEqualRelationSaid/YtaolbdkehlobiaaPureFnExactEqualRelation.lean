/- At every base the parts of the law answer alike, and the marks hold. -/
import Derived.Test.YtaolbdkehlobiaaWalkFnExactEqualRelation
import Derived.Test.YtaolbdkehlobiaaG0
import Derived.Test.YtaolbdkehlobiaaGSized
import Derived.Test.YtaolbdkehlobiaaGArgs
namespace Go.Proofs.Ytaolbdkehlobiaa.Pure
open Go.RowKit Go.Proofs.Ytaolbdkehlobiaa.PFnExactEqualRelation Go.Proofs.YtaolbdkehlobiaaW.PrintWords Go.Proofs.YtaolbdkehlobiaaW.PrintLast Go.Proofs.YtaolbdkehlobiaaW.PrintMore Go.Proofs.Ytaolbdkehlobiaa.G
set_option linter.unusedVariables false
set_option linter.unusedSimpArgs false

/-! ### spec_l1In -/
theorem spec_l1In_eq (x a b : Int) : spec_l1In.f x a b = some (decide (a ≤ x ∧ x ≤ b)) := by
  unfold spec_l1In.f
  by_cases h : x ≥ a
  · rw [if_pos h]; simp [h]
  · rw [if_neg h]; congr 1; symm; rw [decide_eq_false_iff_not]; omega

theorem EqualRelation_at (a rb rt : Int) (R1 : List (List Int)) (R2 : List Bool) (b : Bool) (m : Int × List (List Int)) (n : Int × List Bool) (hS : spec_EqualRelation.f 60 a = some (rb, rt, R1, R2, b)) (hI : impl_EqualRelation.f 60 a = some (rb, rt, R1, R2, b)) (hE : laws_eqRelation.f 60 rb rt R1 R2 rb rt R1 R2 = some true) (hM : laws_markIntSS.f 60 R1 1 = some m) (hN : laws_markBoolS.f 60 R2 m.1 = some n) (hn : 0 ≤ n.1) (hH : laws_heldRelation.f 60 rb rt m.2 n.2 1 = some n.1) :
    ∃ (k : Nat) (rb rt : Int) (R1 R1' : List (List Int)) (R2 R2' : List Bool) (b : Bool) (mh mg : Int), 0 ≤ mg ∧ spec_EqualRelation.f k a = some (rb, rt, R1, R2, b) ∧ impl_EqualRelation.f k a = some (rb, rt, R1, R2, b) ∧ laws_eqRelation.f k rb rt R1 R2 rb rt R1 R2 = some true ∧ laws_markIntSS.f k R1 1 = some (mh, R1') ∧ laws_markBoolS.f k R2 mh = some (mg, R2') ∧ laws_heldRelation.f k rb rt R1' R2' 1 = some mg :=
  ⟨60, rb, rt, R1, m.2, R2, n.2, b, m.1, n.1, hn, hS, hI, hE, hM, hN, hH⟩
theorem EqualRelation_2 : ∃ (k : Nat) (rb rt : Int) (R1 R1' : List (List Int)) (R2 R2' : List Bool) (b : Bool) (mh mg : Int), 0 ≤ mg ∧ spec_EqualRelation.f k 2 = some (rb, rt, R1, R2, b) ∧ impl_EqualRelation.f k 2 = some (rb, rt, R1, R2, b) ∧ laws_eqRelation.f k rb rt R1 R2 rb rt R1 R2 = some true ∧ laws_markIntSS.f k R1 1 = some (mh, R1') ∧ laws_markBoolS.f k R2 mh = some (mg, R2') ∧ laws_heldRelation.f k rb rt R1' R2' 1 = some mg :=
  EqualRelation_at 2 2 2 [[0, 1, 1, 0], [1, 1, 1, 1]] [true, false] true (9, [[1, 2, 3, 4], [5, 6, 7, 8]]) (11, [true, false]) (by decide +kernel) (by decide +kernel) (by decide +kernel) (by decide +kernel) (by decide +kernel) (by decide) (by decide +kernel)
theorem EqualRelation_3 : ∃ (k : Nat) (rb rt : Int) (R1 R1' : List (List Int)) (R2 R2' : List Bool) (b : Bool) (mh mg : Int), 0 ≤ mg ∧ spec_EqualRelation.f k 3 = some (rb, rt, R1, R2, b) ∧ impl_EqualRelation.f k 3 = some (rb, rt, R1, R2, b) ∧ laws_eqRelation.f k rb rt R1 R2 rb rt R1 R2 = some true ∧ laws_markIntSS.f k R1 1 = some (mh, R1') ∧ laws_markBoolS.f k R2 mh = some (mg, R2') ∧ laws_heldRelation.f k rb rt R1' R2' 1 = some mg :=
  EqualRelation_at 3 3 2 [[0, 1, 1, 1, 0, 1, 1, 1, 0], [1, 1, 1, 1, 1, 1, 1, 1, 1]] [true, false] true (19, [[1, 2, 3, 4, 5, 6, 7, 8, 9], [10, 11, 12, 13, 14, 15, 16, 17, 18]]) (21, [false, false]) (by decide +kernel) (by decide +kernel) (by decide +kernel) (by decide +kernel) (by decide +kernel) (by decide) (by decide +kernel)
theorem FnExactEqualRelation_all (a : Int) : ∃ (k : Nat) (rb rt : Int) (R1 R1' : List (List Int)) (R2 R2' : List Bool) (b : Bool) (mh mg : Int), 0 ≤ mg ∧ spec_EqualRelation.f k a = some (rb, rt, R1, R2, b) ∧ impl_EqualRelation.f k a = some (rb, rt, R1, R2, b) ∧ laws_eqRelation.f k rb rt R1 R2 rb rt R1 R2 = some true ∧ laws_markIntSS.f k R1 1 = some (mh, R1') ∧ laws_markBoolS.f k R2 mh = some (mg, R2') ∧ laws_heldRelation.f k rb rt R1' R2' 1 = some mg := by
  by_cases c2 : a = 2
  · subst c2; exact EqualRelation_2
  by_cases c3 : a = 3
  · subst c3; exact EqualRelation_3
  refine EqualRelation_at a 0 0 [] [] false (1, []) (1, []) ?_ ?_ (by decide +kernel) (by decide +kernel) (by decide +kernel) (by decide) (by decide +kernel)
  · unfold spec_EqualRelation.f
    rw [spec_l1In_eq, decide_eq_false (by omega)]
    rfl
  · unfold impl_EqualRelation.f impl_made.f impl_isSmallBase.f
    rw [if_neg c2, show (a == 3) = false by simpa using c3]
    rfl

end Go.Proofs.Ytaolbdkehlobiaa.Pure
