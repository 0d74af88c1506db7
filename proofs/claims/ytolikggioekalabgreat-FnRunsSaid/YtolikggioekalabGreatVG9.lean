/- Lyndon words by places, and Duval's way through a word. No condition. -/
import Derived.Test.YtolikggioekalabGreatVG5
namespace Go.Proofs.YtolikggioekalabGreat.G
set_option linter.unusedVariables false
def LynIx (w : List Int) (a p : Nat) : Prop :=
  1 ≤ p ∧ ∀ k, 1 ≤ k → k < p → ∃ j, k + j < p ∧ (∀ i, i < j → w.getD (a + i) 0 = w.getD (a + k + i) 0) ∧ w.getD (a + j) 0 < w.getD (a + k + j) 0
theorem cmpW_lt (v : List Int) : ∀ u : List Int, v.length ≤ u.length → (cmpW u v < 0 ↔ ∃ j, j < v.length ∧ (∀ i, i < j → u.getD i 0 = v.getD i 0) ∧ u.getD j 0 < v.getD j 0) := by
  induction v with
  | nil =>
    intro u _
    rw [cmpW_nil_right]
    constructor
    · intro h; split at h <;> omega
    · rintro ⟨j, h, _⟩; simp at h
  | cons b v ih =>
    intro u h
    cases u with
    | nil => simp at h
    | cons a u =>
      rw [cmpW_cons]
      by_cases h1 : a < b
      · rw [if_pos h1]
        exact ⟨fun _ => ⟨0, by simp, fun i hi => by omega, by simpa using h1⟩, fun _ => by omega⟩
      · rw [if_neg h1]
        by_cases h2 : b < a
        · rw [if_pos h2]
          refine ⟨fun h => by omega, ?_⟩
          rintro ⟨j, g1, g2, g3⟩
          cases j with
          | zero => simp at g3; omega
          | succ j => have := g2 0 (by omega); simp at this; omega
        · rw [if_neg h2]
          have e : a = b := by omega
          subst e
          rw [ih u (by simpa using h)]
          constructor
          · rintro ⟨j, g1, g2, g3⟩
            refine ⟨j + 1, by simp; omega, fun i hi => ?_, by simpa using g3⟩
            cases i with
            | zero => rfl
            | succ i => simpa using g2 i (by omega)
          · rintro ⟨j, g1, g2, g3⟩
            cases j with
            | zero => simp at g3
            | succ j => exact ⟨j, by simp at g1; omega, fun i hi => by simpa using g2 (i + 1) (by omega), by simpa using g3⟩
theorem lynIx_iff (w : List Int) : LynIx w 0 w.length ↔ 1 ≤ w.length ∧ ∀ k, 1 ≤ k → k < w.length → cmpW w (w.drop k) < 0 := by
  unfold LynIx
  constructor
  · rintro ⟨h1, h2⟩
    refine ⟨h1, fun k hk hk2 => ?_⟩
    obtain ⟨j, g1, g2, g3⟩ := h2 k hk hk2
    rw [cmpW_lt _ _ (by simp)]
    refine ⟨j, by simp; omega, fun i hi => ?_, ?_⟩
    · rw [getD_drop]; simpa using g2 i hi
    · rw [getD_drop]; simpa using g3
  · rintro ⟨h1, h2⟩
    refine ⟨h1, fun k hk hk2 => ?_⟩
    have := h2 k hk hk2
    rw [cmpW_lt _ _ (by simp)] at this
    obtain ⟨j, g1, g2, g3⟩ := this
    refine ⟨j, by simp at g1; omega, fun i hi => ?_, ?_⟩
    · have := g2 i hi; rw [getD_drop] at this; simpa using this
    · rw [getD_drop] at g3; simpa using g3
structure DInv (w : List Int) (a i j : Nat) : Prop where
  le : a ≤ i
  lt : i < j
  len : j ≤ w.length
  per : ∀ t, a ≤ t → t + (j - i) < j → w.getD t 0 = w.getD (t + (j - i)) 0
  lyn : LynIx w a (j - i)
theorem DInv.start {w : List Int} {a : Nat} (h : a < w.length) : DInv w a a (a + 1) :=
  ⟨by omega, by omega, by omega, fun t h1 h2 => by omega, ⟨by omega, fun k h1 h2 => by omega⟩⟩
theorem DInv.pers {w : List Int} {a i j : Nat} (h : DInv w a i j) (q : Nat) : ∀ t, a ≤ t → t + q * (j - i) < j → w.getD t 0 = w.getD (t + q * (j - i)) 0 := by
  induction q with
  | zero => intro t _ _; simp
  | succ q ih =>
    intro t h1 h2
    rw [Nat.succ_mul] at h2 ⊢
    rw [ih t h1 (by omega), h.per (t + q * (j - i)) (by omega) (by omega)]
    congr 1; omega
theorem DInv.more {w : List Int} {a i j : Nat} (h : DInv w a i j) (hj : j < w.length) (he : w.getD i 0 < w.getD j 0) : DInv w a a (j + 1) := by
  have l1 := h.le
  have l2 := h.lt
  refine ⟨by omega, by omega, by omega, fun t h1 h2 => by omega, ⟨by omega, fun k hk hk2 => ?_⟩⟩
  have hp : 0 < j - i := by omega
  obtain ⟨q, r, hqr, hr⟩ : ∃ q r, k = q * (j - i) + r ∧ r < j - i :=
    ⟨k / (j - i), k % (j - i), by rw [Nat.mul_comm]; exact (Nat.div_add_mod k (j - i)).symm, Nat.mod_lt _ hp⟩
  by_cases r0 : r = 0
  · subst r0
    refine ⟨j - a - k, by omega, fun t ht => ?_, ?_⟩
    · rw [h.pers q (a + t) (by omega) (by omega)]; congr 1; omega
    · rw [show a + k + (j - a - k) = j by omega]
      have e : w.getD (a + (j - a - k)) 0 = w.getD i 0 := by
        cases q with
        | zero => simp at hqr; omega
        | succ q =>
          rw [Nat.succ_mul] at hqr
          rw [h.pers q (a + (j - a - k)) (by omega) (by omega)]
          congr 1; omega
      rw [e]; exact he
  · obtain ⟨t, g1, g2, g3⟩ := h.lyn.2 r (by omega) hr
    have key : ∀ x, r + x < j - i → a + k + x < j → w.getD (a + k + x) 0 = w.getD (a + r + x) 0 := by
      intro x _ hx
      rw [h.pers q (a + r + x) (by omega) (by omega)]
      congr 1; omega
    by_cases c : a + k + t < j
    · refine ⟨t, by omega, fun x hx => ?_, ?_⟩
      · rw [key x (by omega) (by omega)]; exact g2 x hx
      · rw [key t (by omega) c]; exact g3
    · refine ⟨j - a - k, by omega, fun x hx => ?_, ?_⟩
      · rw [key x (by omega) (by omega)]; exact g2 x (by omega)
      · rw [show a + k + (j - a - k) = j by omega]
        have e1 : w.getD (a + (j - a - k)) 0 ≤ w.getD (a + r + (j - a - k)) 0 := by
          by_cases e : j - a - k = t
          · rw [e]; omega
          · rw [g2 (j - a - k) (by omega)]; omega
        have e2 : w.getD (a + r + (j - a - k)) 0 = w.getD i 0 := by
          cases q with
          | zero => simp at hqr; exfalso; omega
          | succ q =>
            rw [Nat.succ_mul] at hqr
            rw [h.pers q (a + r + (j - a - k)) (by omega) (by omega)]
            congr 1; omega
        omega
def DEnd (w : List Int) (a i j : Nat) : Prop := DInv w a i j ∧ (j = w.length ∨ w.getD j 0 < w.getD i 0)
end Go.Proofs.YtolikggioekalabGreat.G
