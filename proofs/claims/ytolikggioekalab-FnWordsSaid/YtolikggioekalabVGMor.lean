/- Words over letters, morphisms, and a morphism's answer. No condition. -/
import Derived.Test.YtolikggioekalabVGRel
namespace Go.Proofs.Ytolikggioekalab.G
open Go.RowKit
set_option linter.unusedVariables false

/-- A word over n letters, short enough. -/
def okWord (w : List Int) (n : Nat) : Bool := decide (RowIn n w ∧ (1 ≤ n ∧ n ≤ 16) ∧ w.length ≤ 400)
/-- A morphism's images. -/
def okMor (l : List (List Int)) : Bool := decide ((1 ≤ l.length ∧ l.length ≤ 16) ∧ ∀ r ∈ l, r.length ≤ 8 ∧ RowIn l.length r)
/-- The image of a word. -/
def appM (l : List (List Int)) (w : List Int) : List Int := w.flatMap fun v => l.getD v.toNat []
/-- .. as long as it is short. -/
def appR (l : List (List Int)) (w : List Int) : List Int × Bool := if okMor l = true ∧ okWord w l.length = true ∧ (appM l w).length ≤ 400 then (appM l w, true) else ([], false)

theorem appM_len {l : List (List Int)} (h : ∀ r ∈ l, r.length ≤ 8) (w : List Int) : (appM l w).length ≤ 8 * w.length := by
  unfold appM
  induction w with
  | nil => simp
  | cons v vs ih =>
    rw [List.flatMap_cons, List.length_append, List.length_cons]
    have : (l.getD v.toNat []).length ≤ 8 := by
      by_cases c : v.toNat < l.length
      · rw [getD_eq c]; exact h _ (List.getElem_mem _)
      · rw [List.getD_eq_getElem?_getD, List.getElem?_eq_none (by omega)]; simp
    omega
theorem appM_take {l : List (List Int)} (w : List Int) (n : Nat) (h : n < w.length) : appM l (w.take (n + 1)) = appM l (w.take n) ++ l.getD (w.getD n 0).toNat [] := by
  unfold appM
  rw [take_succ_getD w n 0 h, List.flatMap_append]
  simp
theorem appM_mono {l : List (List Int)} (w : List Int) (n : Nat) : (appM l (w.take n)).length ≤ (appM l w).length := by
  have : appM l w = appM l (w.take n) ++ appM l (w.drop n) := by
    unfold appM
    rw [← List.flatMap_append, List.take_append_drop]
  rw [this, List.length_append]; omega

end Go.Proofs.Ytolikggioekalab.G
