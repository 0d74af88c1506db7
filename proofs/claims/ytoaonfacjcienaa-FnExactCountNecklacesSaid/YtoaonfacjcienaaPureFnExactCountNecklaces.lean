/- At every two numbers the program's CountNecklaces and the reference's come to one answer. No condition. -/
import Derived.Test.YtoaonfacjcienaaMFnExactCountNecklacesx9
import Derived.Test.YtoaonfacjcienaaG0
namespace Go.Proofs.Ytoaonfacjcienaa.Pure
open Go.RowKit Go.Proofs.Ytoaonfacjcienaa.PFnExactCountNecklaces Go.Proofs.YtoaonfacjcienaaW.PrintWords Go.Proofs.Ytoaonfacjcienaa.G
set_option linter.unusedVariables false

/-- Every case in which there is something to count, by computing. -/
theorem all_cases : ∀ a : Fin 4, ∀ b : Fin 20, ((spec_CountNecklaces.f 64 ((a.val : Int) + 1) ((b.val : Int) + 1)).isSome && (spec_CountNecklaces.f 64 ((a.val : Int) + 1) ((b.val : Int) + 1) == impl_divided.f 64 ((a.val : Int) + 1) ((b.val : Int) + 1))) = true := by decide +kernel

theorem FnExactCountNecklaces (a0 a1 : Int) : ∃ k r, spec_CountNecklaces.f k a0 a1 = some r ∧ impl_divided.f k a0 a1 = some r := by
  have e1 : ∀ x a b, spec_l1In.f x a b = some (decide (a ≤ x ∧ x ≤ b)) := by
    intro x a b
    unfold spec_l1In.f
    by_cases h : x ≥ a
    · rw [if_pos h]; simp [h]
    · rw [if_neg h]; congr 1; symm; rw [decide_eq_false_iff_not]; omega
  by_cases h0 : (1 ≤ a0 ∧ a0 ≤ 4) ∧ 1 ≤ a1 ∧ a1 ≤ 20
  · have h := all_cases ⟨(a0 - 1).toNat, by omega⟩ ⟨(a1 - 1).toNat, by omega⟩
    simp only [] at h
    rw [show (((a0 - 1).toNat : Nat) : Int) + 1 = a0 by omega, show (((a1 - 1).toNat : Nat) : Int) + 1 = a1 by omega, Bool.and_eq_true, beq_iff_eq] at h
    obtain ⟨r, hr⟩ := Option.isSome_iff_exists.1 h.1
    exact ⟨64, r, hr, by rw [← h.2]; exact hr⟩
  · refine ⟨1, -1, ?_, ?_⟩
    · unfold spec_CountNecklaces.f
      simp only [e1, Option.bind_some]
      by_cases c : 1 ≤ a0 ∧ a0 ≤ 4
      · rw [if_pos (decide_eq_true c), decide_eq_false (by omega)]
        simp only [spec_CountNecklaces.j0]
        rw [if_pos (by simp)]
      · rw [if_neg (by rw [decide_eq_true_eq]; exact c)]
        simp only [spec_CountNecklaces.j0]
        rw [if_pos (by simp)]
    · unfold impl_divided.f
      by_cases c1 : a0 < 1
      · rw [if_pos c1]
      · rw [if_neg c1]
        by_cases c2 : a0 > 4
        · rw [if_pos c2]
        · rw [if_neg c2]
          by_cases c3 : a1 < 1
          · rw [if_pos c3]
          · rw [if_neg c3, if_pos (by omega)]

end Go.Proofs.Ytoaonfacjcienaa.Pure
