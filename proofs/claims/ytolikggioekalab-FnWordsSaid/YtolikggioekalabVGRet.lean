/- The words between the places at which a word begins. No condition. -/
import Derived.Test.YtolikggioekalabVG1
import Derived.Test.YtolikggioekalabVGShort
namespace Go.Proofs.Ytolikggioekalab.G
open Go.RowKit
set_option linter.unusedVariables false

theorem occTo_asc (w u : List Int) (n : Nat) : (occTo w u n).Pairwise (fun x y => x < y) := by
  unfold occTo
  refine List.Pairwise.map _ (fun a b (h : a < b) => by omega) ?_
  exact (List.pairwise_lt_range (n := n)).filter _
theorem mem_occTo (w u : List Int) (n : Nat) (x : Int) : x ∈ occTo w u n ↔ ∃ i : Nat, x = (i : Int) ∧ i < n ∧ win w u.length i = u := by
  unfold occTo
  simp only [List.mem_map, List.mem_filter, List.mem_range, decide_eq_true_eq, win_cut]
  constructor
  · rintro ⟨i, ⟨h1, h2⟩, rfl⟩; exact ⟨i, rfl, h1, h2⟩
  · rintro ⟨i, rfl, h1, h2⟩; exact ⟨i, ⟨h1, h2⟩, rfl⟩
theorem occ_at (w u : List Int) (j : Nat) (h : j < (occ w u).length) : 0 ≤ (occ w u).getD j 0 ∧ (occ w u).getD j 0 + u.length ≤ (w.length : Int) := by
  have hm : (occ w u).getD j 0 ∈ occ w u := by rw [getD_eq h]; exact List.getElem_mem _
  obtain ⟨i, e, h1, _⟩ := (mem_occTo w u _ _).1 hm
  omega
theorem occ_lt (w u : List Int) (i j : Nat) (hij : i < j) (h : j < (occ w u).length) : (occ w u).getD i 0 < (occ w u).getD j 0 := by
  have := List.pairwise_iff_getElem.1 (occTo_asc w u (w.length + 1 - u.length)) i j (by unfold occ at h; omega) (by unfold occ at h; exact h) hij
  rw [getD_eq h, getD_eq (show i < (occ w u).length by omega)]
  exact this

/-- The first m words between neighbouring places. -/
def cutsTo (w at_ : List Int) (m : Nat) : List (List Int) := (List.range m).map fun k => (w.take (at_.getD (k + 1) 0).toNat).drop (at_.getD k 0).toNat
theorem cutsTo_succ (w at_ : List Int) (m : Nat) : cutsTo w at_ (m + 1) = cutsTo w at_ m ++ [(w.take (at_.getD (m + 1) 0).toNat).drop (at_.getD m 0).toNat] := by simp [cutsTo, List.range_succ]
theorem cutsTo_length (w at_ : List Int) (m : Nat) : (cutsTo w at_ m).length = m := by simp [cutsTo]
def retR (w u : List Int) : List (List Int) := if shortW w = true ∧ 0 < u.length then canon (cutsTo w (occ w u) ((occ w u).length - 1)) else []
theorem retR_rows (w u : List Int) (h : w.length ≤ 1048576) : (retR w u).length ≤ 1048576 ∧ ∀ x ∈ retR w u, x.length ≤ 1048576 := by
  unfold retR
  split
  · refine ⟨?_, fun x hx => ?_⟩
    · have h1 := canon_length (cutsTo w (occ w u) ((occ w u).length - 1))
      rw [cutsTo_length] at h1
      have h2 := occTo_length w u (w.length + 1 - u.length)
      unfold occ at h1 ⊢
      omega
    · rw [canon_mem] at hx
      obtain ⟨k, _, rfl⟩ := List.mem_map.1 hx
      rw [List.length_drop, List.length_take]
      omega
  · simp

end Go.Proofs.Ytolikggioekalab.G
