/- Marks counted through rows. No condition beyond those written. -/
import Derived.Test.YtolikggioekalabG0
namespace Go.Proofs.Ytolikggioekalab.G
open Go.RowKit
set_option linter.unusedVariables false

/-- How many cells all rows have. -/
def total : List (List Int) → Nat
  | [] => 0
  | r :: rs => r.length + total rs
/-- The rows, each cell numbered from a on. -/
def marks : Int → List (List Int) → List (List Int)
  | _, [] => []
  | a, r :: rs => iota a r.length :: marks (a + r.length) rs
theorem marks_length (l : List (List Int)) : ∀ a, (marks a l).length = l.length := by
  induction l with
  | nil => intro a; rfl
  | cons r rs ih => intro a; simp [marks, ih]
theorem total_le (B : Nat) (l : List (List Int)) (h : ∀ r ∈ l, r.length ≤ B) : total l ≤ l.length * B := by
  induction l with
  | nil => simp [total]
  | cons r rs ih =>
    have h1 := h r List.mem_cons_self
    have h2 := ih (fun x hx => h x (List.mem_cons_of_mem _ hx))
    simp only [total, List.length_cons, Nat.succ_mul]
    omega
theorem total_small {l : List (List Int)} (h1 : l.length ≤ 1048576) (h2 : ∀ r ∈ l, r.length ≤ 1048576) : total l ≤ 1099511627776 := by
  have := total_le 1048576 l h2
  have := Nat.mul_le_mul_right 1048576 h1
  omega
theorem getD_pre {α : Type} (pre : List α) (r : α) (rs : List α) (d : α) : (pre ++ r :: rs).getD pre.length d = r := by
  rw [getD_append_right _ _ _ _ (Nat.le_refl _), Nat.sub_self]; rfl
theorem set_pre {α : Type} (pre : List α) (r r' : α) (rs : List α) : (pre ++ r :: rs).set pre.length r' = (pre ++ [r']) ++ rs := by
  rw [List.set_append_right _ _ (Nat.le_refl _), Nat.sub_self]; simp

end Go.Proofs.Ytolikggioekalab.G
