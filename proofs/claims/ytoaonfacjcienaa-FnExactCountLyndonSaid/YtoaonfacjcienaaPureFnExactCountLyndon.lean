/- At every two numbers the program's CountLyndon and the reference's come to one answer. No condition. -/
import Derived.Test.YtoaonfacjcienaaMFnExactCountLyndonx9
import Derived.Test.YtoaonfacjcienaaG0
namespace Go.Proofs.Ytoaonfacjcienaa.Pure
open Go.RowKit Go.Proofs.Ytoaonfacjcienaa.PFnExactCountLyndon Go.Proofs.YtoaonfacjcienaaW.PrintWords Go.Proofs.Ytoaonfacjcienaa.G
set_option linter.unusedVariables false

theorem mobius_l0 : ∀ k x y z, spec_l11Mobius.l0 k x y z = impl_moebius.l0 k x y z := by
  intro k
  induction k with
  | zero => intro x y z; rfl
  | succ k ih => intro x y z; simp only [spec_l11Mobius.l0, impl_moebius.l0, ih]

theorem power_l0 : ∀ k x n a i, spec_l11Power.l0 k x n a i = impl_power.l0 k x a n i := by
  intro k
  induction k with
  | zero => intro x n a i; rfl
  | succ k ih => intro x n a i; simp only [spec_l11Power.l0, impl_power.l0, ih]

theorem count_l0 : ∀ k x n s d, spec_CountLyndon.l0 k x n s d = impl_divided.l0 k x n s d := by
  intro k
  induction k with
  | zero => intro x n s d; simp only [spec_CountLyndon.l0, impl_divided.l0]
  | succ k ih => intro x n s d; simp only [spec_CountLyndon.l0, impl_divided.l0, ih, spec_l11Mobius.f, impl_moebius.f, spec_l11Power.f, impl_power.f, mobius_l0, power_l0]

theorem ends : ∀ a : Fin 4, ∀ b : Fin 20, ((impl_divided.l0 64 ((a.val : Int) + 1) ((b.val : Int) + 1) 0 1).isSome && (impl_divided.l0 65 ((a.val : Int) + 1) ((b.val : Int) + 1) 0 1 == impl_divided.l0 64 ((a.val : Int) + 1) ((b.val : Int) + 1) 0 1)) = true := by decide +kernel

theorem FnExactCountLyndon (a0 a1 : Int) : ∃ k r, spec_CountLyndon.f k a0 a1 = some r ∧ impl_divided.f k a0 a1 = some r := by
  have e1 : ∀ x a b, spec_l1In.f x a b = some (decide (a ≤ x ∧ x ≤ b)) := by
    intro x a b
    unfold spec_l1In.f
    by_cases h : x ≥ a
    · rw [if_pos h]; simp [h]
    · rw [if_neg h]; congr 1; symm; rw [decide_eq_false_iff_not]; omega
  unfold spec_CountLyndon.f impl_divided.f
  simp only [e1, Option.bind_some]
  by_cases h0 : 1 ≤ a0 ∧ a0 ≤ 4
  · by_cases h1 : 1 ≤ a1 ∧ a1 ≤ 20
    · have h := ends ⟨(a0 - 1).toNat, by omega⟩ ⟨(a1 - 1).toNat, by omega⟩
      simp only [] at h
      rw [show (((a0 - 1).toNat : Nat) : Int) + 1 = a0 by omega, show (((a1 - 1).toNat : Nat) : Int) + 1 = a1 by omega, Bool.and_eq_true, beq_iff_eq] at h
      obtain ⟨r, hr⟩ := Option.isSome_iff_exists.1 h.1
      refine ⟨65, r, ?_, ?_⟩
      · rw [if_pos (decide_eq_true h0), decide_eq_true h1]
        simp only [spec_CountLyndon.j0]
        rw [if_neg (by simp), count_l0]
        exact hr
      · rw [if_neg (by omega), if_neg (by omega), if_neg (by omega), if_neg (by omega)]
        rw [h.2]
        exact hr
    · refine ⟨1, -1, ?_, ?_⟩
      · rw [if_pos (decide_eq_true h0), decide_eq_false h1]
        simp only [spec_CountLyndon.j0]
        rw [if_pos (by simp)]
      · rw [if_neg (by omega), if_neg (by omega)]
        by_cases c : a1 < 1
        · rw [if_pos c]
        · rw [if_neg c, if_pos (by omega)]
  · refine ⟨1, -1, ?_, ?_⟩
    · rw [if_neg (by rw [decide_eq_true_eq]; exact h0)]
      simp only [spec_CountLyndon.j0]
      rw [if_pos (by simp)]
    · by_cases c : a0 < 1
      · rw [if_pos c]
      · rw [if_neg c, if_pos (by omega)]

end Go.Proofs.Ytoaonfacjcienaa.Pure
