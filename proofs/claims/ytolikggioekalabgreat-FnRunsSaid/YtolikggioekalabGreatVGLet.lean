/- Less, told by a letter; Lyndon words told by letters. No condition. -/
import Derived.Test.YtolikggioekalabGreatVGLyn
namespace Go.Proofs.YtolikggioekalabGreat.G
open Go.RowKit
set_option linter.unusedVariables false
def LtAt (u v : List Int) (t : Nat) : Prop := t < v.length ∧ t ≤ u.length ∧ (∀ i, i < t → u.getD i 0 = v.getD i 0) ∧ (t = u.length ∨ u.getD t 0 < v.getD t 0)
theorem cmpW_ltAt : ∀ u v : List Int, cmpW u v < 0 → ∃ t, LtAt u v t
  | [], [], h => by simp [cmpW] at h
  | [], b :: v, _ => ⟨0, by simp [LtAt]⟩
  | a :: u, [], h => by simp [cmpW] at h
  | a :: u, b :: v, h => by
    rw [cmpW_cons] at h
    by_cases h1 : a < b
    · exact ⟨0, by simp [LtAt, h1]⟩
    · rw [if_neg h1] at h
      by_cases h2 : b < a
      · rw [if_pos h2] at h; omega
      · rw [if_neg h2] at h
        obtain ⟨t, g1, g2, g3, g4⟩ := cmpW_ltAt u v h
        refine ⟨t + 1, by simpa using g1, by simpa using g2, fun i hi => ?_, ?_⟩
        · cases i with
          | zero => simp; omega
          | succ i => simpa using g3 i (by omega)
        · rcases g4 with g4 | g4
          · exact .inl (by simp [g4])
          · exact .inr (by simpa using g4)
theorem ltAt_cmpW : ∀ (u v : List Int) (t : Nat), LtAt u v t → cmpW u v < 0
  | [], [], t, h => by have := h.1; simp at this
  | [], b :: v, t, h => by rw [cmpW_nil_left, if_neg (by simp)]; omega
  | a :: u, [], t, h => by have := h.1; simp at this
  | a :: u, b :: v, t, h => by
    obtain ⟨g1, g2, g3, g4⟩ := h
    rw [cmpW_cons]
    cases t with
    | zero =>
      rcases g4 with g4 | g4
      · simp at g4
      · simp only [List.getD_cons_zero] at g4
        rw [if_pos g4]; omega
    | succ t =>
      have e := g3 0 (by omega)
      simp only [List.getD_cons_zero] at e
      rw [if_neg (by omega), if_neg (by omega)]
      refine ltAt_cmpW u v t ⟨by simpa using g1, by simpa using g2, fun i hi => by simpa using g3 (i + 1) (by omega), ?_⟩
      rcases g4 with g4 | g4
      · exact .inl (by simpa using g4)
      · exact .inr (by simpa using g4)
theorem lyn_letter {u : List Int} (h : Lyn u) {s : Nat} (h0 : 0 < s) (hs : s < u.length) : ∃ t, s + t < u.length ∧ (∀ i, i < t → u.getD i 0 = u.getD (s + i) 0) ∧ u.getD t 0 < u.getD (s + t) 0 := by
  obtain ⟨t, g1, g2, g3, g4⟩ := cmpW_ltAt _ _ (h.2 s h0 hs)
  rw [List.length_drop] at g1
  refine ⟨t, by omega, fun i hi => by rw [g3 i hi, getD_drop], ?_⟩
  rcases g4 with g4 | g4
  · omega
  · rwa [getD_drop] at g4
end Go.Proofs.YtolikggioekalabGreat.G
