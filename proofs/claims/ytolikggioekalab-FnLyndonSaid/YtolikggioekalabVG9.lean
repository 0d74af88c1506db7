/- Lyndon words by places, and Duval's way through a word. No condition. -/
import Derived.Test.YtolikggioekalabVG5
namespace Go.Proofs.Ytolikggioekalab.G
set_option linter.unusedVariables false

/-- The p letters from a on are less than each of their proper ends. -/
def LynIx (w : List Int) (a p : Nat) : Prop :=
  1 ≤ p ∧ ∀ k, 1 ≤ k → k < p → ∃ j, k + j < p ∧ (∀ i, i < j → w.getD (a + i) 0 = w.getD (a + k + i) 0) ∧ w.getD (a + j) 0 < w.getD (a + k + j) 0

theorem cmpW_lt (v : List Int) : ∀ u : List Int, v.length ≤ u.length → (cmpW u v < 0 ↔ ∃ j, j < v.length ∧ (∀ i, i < j → u.getD i 0 = v.getD i 0) ∧ u.getD j 0 < v.getD j 0) := by
  induction v with
  | nil =>
    intro u _
    rw [cmpW_nil_right]
    constructor
    · intro h; split at h <;> omega
    · rintro ⟨j, h, _⟩; simp at h
  | cons b v ih =>
    intro u h
    cases u with
    | nil => simp at h
    | cons a u =>
      rw [cmpW_cons]
      by_cases h1 : a < b
      · rw [if_pos h1]
        exact ⟨fun _ => ⟨0, by simp, fun i hi => by omega, by simpa using h1⟩, fun _ => by omega⟩
      · rw [if_neg h1]
        by_cases h2 : b < a
        · rw [if_pos h2]
          refine ⟨fun h => by omega, ?_⟩
          rintro ⟨j, g1, g2, g3⟩
          cases j with
          | zero => simp at g3; omega
          | succ j => have := g2 0 (by omega); simp at this; omega
        · rw [if_neg h2]
          have e : a = b := by omega
          subst e
          rw [ih u (by simpa using h)]
          constructor
          · rintro ⟨j, g1, g2, g3⟩
            refine ⟨j + 1, by simp; omega, fun i hi => ?_, by simpa using g3⟩
            cases i with
            | zero => rfl
            | succ i => simpa using g2 i (by omega)
          · rintro ⟨j, g1, g2, g3⟩
            cases j with
            | zero => simp at g3
            | succ j => exact ⟨j, by simp at g1; omega, fun i hi => by simpa using g2 (i + 1) (by omega), by simpa using g3⟩

/-- The program's word 'a Lyndon word'. -/
theorem lynIx_iff (w : List Int) : LynIx w 0 w.length ↔ 1 ≤ w.length ∧ ∀ k, 1 ≤ k → k < w.length → cmpW w (w.drop k) < 0 := by
  unfold LynIx
  constructor
  · rintro ⟨h1, h2⟩
    refine ⟨h1, fun k hk hk2 => ?_⟩
    obtain ⟨j, g1, g2, g3⟩ := h2 k hk hk2
    rw [cmpW_lt _ _ (by simp)]
    refine ⟨j, by simp; omega, fun i hi => ?_, ?_⟩
    · rw [getD_drop]; simpa using g2 i hi
    · rw [getD_drop]; simpa using g3
  · rintro ⟨h1, h2⟩
    refine ⟨h1, fun k hk hk2 => ?_⟩
    have := h2 k hk hk2
    rw [cmpW_lt _ _ (by simp)] at this
    obtain ⟨j, g1, g2, g3⟩ := this
    refine ⟨j, by simp at g1; omega, fun i hi => ?_, ?_⟩
    · have := g2 i hi; rw [getD_drop] at this; simpa using this
    · rw [getD_drop] at g3; simpa using g3

/-- Duval's state: from a on the period j - i up to j; its root is a Lyndon word. -/
structure DInv (w : List Int) (a i j : Nat) : Prop where
  le : a ≤ i
  lt : i < j
  len : j ≤ w.length
  per : ∀ t, a ≤ t → t + (j - i) < j → w.getD t 0 = w.getD (t + (j - i)) 0
  lyn : LynIx w a (j - i)

theorem DInv.start {w : List Int} {a : Nat} (h : a < w.length) : DInv w a a (a + 1) :=
  ⟨by omega, by omega, by omega, fun t h1 h2 => by omega, ⟨by omega, fun k h1 h2 => by omega⟩⟩

theorem DInv.same {w : List Int} {a i j : Nat} (h : DInv w a i j) (hj : j < w.length) (he : w.getD i 0 = w.getD j 0) : DInv w a (i + 1) (j + 1) := by
  have l1 := h.le
  have l2 := h.lt
  have e : j + 1 - (i + 1) = j - i := by omega
  refine ⟨by omega, by omega, by omega, fun t h1 h2 => ?_, by rw [e]; exact h.lyn⟩
  rw [e] at h2 ⊢
  by_cases c : t = i
  · subst c; rw [he]; congr 1; omega
  · exact h.per t h1 (by omega)

theorem DInv.pers {w : List Int} {a i j : Nat} (h : DInv w a i j) (q : Nat) : ∀ t, a ≤ t → t + q * (j - i) < j → w.getD t 0 = w.getD (t + q * (j - i)) 0 := by
  induction q with
  | zero => intro t _ _; simp
  | succ q ih =>
    intro t h1 h2
    rw [Nat.succ_mul] at h2 ⊢
    rw [ih t h1 (by omega), h.per (t + q * (j - i)) (by omega) (by omega)]
    congr 1; omega

theorem DInv.more {w : List Int} {a i j : Nat} (h : DInv w a i j) (hj : j < w.length) (he : w.getD i 0 < w.getD j 0) : DInv w a a (j + 1) := by
  have l1 := h.le
  have l2 := h.lt
  refine ⟨by omega, by omega, by omega, fun t h1 h2 => by omega, ⟨by omega, fun k hk hk2 => ?_⟩⟩
  have hp : 0 < j - i := by omega
  obtain ⟨q, r, hqr, hr⟩ : ∃ q r, k = q * (j - i) + r ∧ r < j - i :=
    ⟨k / (j - i), k % (j - i), by rw [Nat.mul_comm]; exact (Nat.div_add_mod k (j - i)).symm, Nat.mod_lt _ hp⟩
  by_cases r0 : r = 0
  · subst r0
    refine ⟨j - a - k, by omega, fun t ht => ?_, ?_⟩
    · rw [h.pers q (a + t) (by omega) (by omega)]; congr 1; omega
    · rw [show a + k + (j - a - k) = j by omega]
      have e : w.getD (a + (j - a - k)) 0 = w.getD i 0 := by
        cases q with
        | zero => simp at hqr; omega
        | succ q =>
          rw [Nat.succ_mul] at hqr
          rw [h.pers q (a + (j - a - k)) (by omega) (by omega)]
          congr 1; omega
      rw [e]; exact he
  · obtain ⟨t, g1, g2, g3⟩ := h.lyn.2 r (by omega) hr
    have key : ∀ x, r + x < j - i → a + k + x < j → w.getD (a + k + x) 0 = w.getD (a + r + x) 0 := by
      intro x _ hx
      rw [h.pers q (a + r + x) (by omega) (by omega)]
      congr 1; omega
    by_cases c : a + k + t < j
    · refine ⟨t, by omega, fun x hx => ?_, ?_⟩
      · rw [key x (by omega) (by omega)]; exact g2 x hx
      · rw [key t (by omega) c]; exact g3
    · refine ⟨j - a - k, by omega, fun x hx => ?_, ?_⟩
      · rw [key x (by omega) (by omega)]; exact g2 x (by omega)
      · rw [show a + k + (j - a - k) = j by omega]
        have e1 : w.getD (a + (j - a - k)) 0 ≤ w.getD (a + r + (j - a - k)) 0 := by
          by_cases e : j - a - k = t
          · rw [e]; omega
          · rw [g2 (j - a - k) (by omega)]; omega
        have e2 : w.getD (a + r + (j - a - k)) 0 = w.getD i 0 := by
          cases q with
          | zero => simp at hqr; exfalso; omega
          | succ q =>
            rw [Nat.succ_mul] at hqr
            rw [h.pers q (a + r + (j - a - k)) (by omega) (by omega)]
            congr 1; omega
        omega

/-- Where Duval's scan ends. -/
def DEnd (w : List Int) (a i j : Nat) : Prop := DInv w a i j ∧ (j = w.length ∨ w.getD j 0 < w.getD i 0)

def dscan (w : List Int) (a : Nat) : Nat → Nat → Nat → Nat × Nat
  | 0, i, j => (i, j)
  | f + 1, i, j => if j < w.length ∧ w.getD i 0 ≤ w.getD j 0 then (if w.getD i 0 < w.getD j 0 then dscan w a f a (j + 1) else dscan w a f (i + 1) (j + 1)) else (i, j)

theorem dscan_end (w : List Int) (a : Nat) : ∀ f i j, DInv w a i j → w.length ≤ j + f → DEnd w a (dscan w a f i j).1 (dscan w a f i j).2 := by
  intro f
  induction f with
  | zero => intro i j h hf; exact ⟨h, Or.inl (by have := h.len; simp only [dscan]; omega)⟩
  | succ f ih =>
    intro i j h hf
    rw [dscan]
    by_cases c : j < w.length ∧ w.getD i 0 ≤ w.getD j 0
    · rw [if_pos c]
      by_cases c2 : w.getD i 0 < w.getD j 0
      · rw [if_pos c2]; exact ih _ _ (h.more c.1 c2) (by omega)
      · rw [if_neg c2]; exact ih _ _ (h.same c.1 (by omega)) (by omega)
    · rw [if_neg c]
      refine ⟨h, ?_⟩
      have := h.len
      simp only []
      by_cases e : j = w.length
      · exact Or.inl e
      · right; omega

/-- The root of the scan from 0 is the whole word just where the word is a Lyndon word. -/
theorem DEnd.whole {w : List Int} {i j : Nat} (h : DEnd w 0 i j) : j - i = w.length ↔ LynIx w 0 w.length := by
  obtain ⟨h, hs⟩ := h
  have l1 := h.le
  have l2 := h.lt
  have l3 := h.len
  constructor
  · intro e; rw [← e]; exact h.lyn
  · intro hl
    apply Classical.byContradiction
    intro hne
    obtain ⟨t, g1, g2, g3⟩ := hl.2 (j - i) (by omega) (by omega)
    simp only [Nat.zero_add] at g2 g3
    by_cases c : (j - i) + t < j
    · have := h.per t (by omega) (by omega)
      rw [this, Nat.add_comm] at g3
      omega
    · rcases hs with hs | hs
      · omega
      · by_cases c2 : t = i
        · subst c2
          rw [show j - t + t = j by omega] at g3
          omega
        · have := g2 i (by omega)
          rw [show j - i + i = j by omega] at this
          omega

/-- The factors of one root: as many as begin at or before i; and where the rest begins. -/
def dpos (w : List Int) (i p : Nat) : Nat → Nat → List (List Int) × Nat
  | 0, a => ([], a)
  | f + 1, a => if a ≤ i then ((w.take (a + p)).drop a :: (dpos w i p f (a + p)).1, (dpos w i p f (a + p)).2) else ([], a)

/-- Duval's factors of the rest from a on. -/
def duv (w : List Int) : Nat → Nat → List (List Int)
  | 0, _ => []
  | f + 1, a => if a < w.length then
      (dpos w (dscan w a w.length a (a + 1)).1 ((dscan w a w.length a (a + 1)).2 - (dscan w a w.length a (a + 1)).1) w.length a).1 ++
        duv w f (dpos w (dscan w a w.length a (a + 1)).1 ((dscan w a w.length a (a + 1)).2 - (dscan w a w.length a (a + 1)).1) w.length a).2
    else []

end Go.Proofs.Ytolikggioekalab.G
