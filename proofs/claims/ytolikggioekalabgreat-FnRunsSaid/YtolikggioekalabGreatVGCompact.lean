/- What slices.CompactFunc computes, under an equality of one's own: the places that stay, and the relation of its second loop. No condition. -/
import Derived.Test.YtolikggioekalabGreatVGSort
namespace Go.Proofs.YtolikggioekalabGreat.G
open Go.RowKit
set_option linter.unusedVariables false
variable {α : Type}
def stays (eq : α → α → Bool) (z : α) (l : List α) (j : Nat) : Bool := decide (j = 0) || !eq (l.getD j z) (l.getD (j - 1) z)
def stayed (eq : α → α → Bool) (z : α) (l : List α) : Nat → List α
  | 0 => []
  | m + 1 => if stays eq z l m then stayed eq z l m ++ [l.getD m z] else stayed eq z l m
theorem stays_yes {eq : α → α → Bool} {z : α} {l : List α} {m : Nat} (h : eq (l.getD m z) (l.getD (m - 1) z) = false) : stays eq z l m = true := by simp only [stays, h]; simp
theorem stays_no {eq : α → α → Bool} {z : α} {l : List α} {m : Nat} (hm : 0 < m) (h : eq (l.getD m z) (l.getD (m - 1) z) = true) : stays eq z l m = false := by
  have : m ≠ 0 := by omega
  simp only [stays, h]; simp [this]
theorem stays_first (eq : α → α → Bool) (z : α) (l : List α) : stays eq z l 0 = true := by simp [stays]
theorem stayed_take (eq : α → α → Bool) (z : α) (l : List α) : ∀ m, m ≤ l.length → (∀ j, j < m → stays eq z l j = true) → stayed eq z l m = l.take m
  | 0, _, _ => by simp [stayed]
  | m + 1, hm, h => by
    unfold stayed
    rw [if_pos (h m (by omega)), stayed_take eq z l m (by omega) (fun j hj => h j (by omega)), ← take_succ_getD l m z (by omega)]
theorem stayed_sub (eq : α → α → Bool) (z : α) (l : List α) : ∀ m, m ≤ l.length → (stayed eq z l m).Sublist (l.take m)
  | 0, _ => by simp [stayed]
  | m + 1, hm => by
    have ih := stayed_sub eq z l m (by omega)
    unfold stayed
    rw [take_succ_getD l m z (by omega)]
    split
    · exact ih.append (List.Sublist.refl _)
    · exact ih.trans (List.sublist_append_left _ _)
def Cp (eq : α → α → Bool) (z : α) (l : List α) (m : Nat) (cur : List α) : Prop :=
  cur = stayed eq z l m ++ l.drop (stayed eq z l m).length ∧ (stayed eq z l m).length < m
theorem Cp.start {eq : α → α → Bool} {z : α} {l : List α} {k : Nat} (hk : k < l.length) (hall : ∀ j, j < k → stays eq z l j = true) (hdup : stays eq z l k = false) :
    Cp eq z l (k + 1) l ∧ (stayed eq z l (k + 1)).length = k := by
  have e : stayed eq z l (k + 1) = l.take k := by
    rw [stayed, if_neg (by simp [hdup]), stayed_take eq z l k (by omega) hall]
  have e2 : (l.take k).length = k := by simp; omega
  unfold Cp
  rw [e, e2]
  exact ⟨⟨(List.take_append_drop k l).symm, by omega⟩, rfl⟩
theorem Cp.size {eq : α → α → Bool} {z : α} {l cur : List α} {m : Nat} (h : Cp eq z l m cur) (hm : m ≤ l.length) : cur.length = l.length := by
  have := h.2
  rw [h.1, List.length_append, List.length_drop]
  omega
theorem Cp.keep {eq : α → α → Bool} {z : α} {l cur : List α} {m : Nat} (h : Cp eq z l m cur) (hm : m < l.length) (hk : stays eq z l m = true) :
    Cp eq z l (m + 1) (cur.set (stayed eq z l m).length (l.getD m z)) ∧ (stayed eq z l (m + 1)).length = (stayed eq z l m).length + 1 := by
  have hl := h.2
  have e : stayed eq z l (m + 1) = stayed eq z l m ++ [l.getD m z] := by rw [stayed, if_pos hk]
  have e2 : (stayed eq z l m ++ [l.getD m z]).length = (stayed eq z l m).length + 1 := by simp
  unfold Cp
  rw [e, e2]
  refine ⟨⟨?_, by omega⟩, rfl⟩
  conv => lhs; rw [h.1]
  rw [drop_cons l _ z (by omega)]
  simp
theorem Cp.skip {eq : α → α → Bool} {z : α} {l cur : List α} {m : Nat} (h : Cp eq z l m cur) (hk : stays eq z l m = false) :
    Cp eq z l (m + 1) cur ∧ (stayed eq z l (m + 1)).length = (stayed eq z l m).length := by
  have e : stayed eq z l (m + 1) = stayed eq z l m := by rw [stayed, if_neg (by simp [hk])]
  have := h.2
  unfold Cp
  rw [e]
  exact ⟨⟨h.1, by omega⟩, rfl⟩
theorem Cp.high {eq : α → α → Bool} {z : α} {l cur : List α} {m : Nat} (h : Cp eq z l m cur) (j : Nat) (hj : (stayed eq z l m).length ≤ j) : cur.getD j z = l.getD j z := by
  rw [h.1, getD_append_right _ _ _ _ hj, getD_drop]
  congr 1
  omega
theorem stayed_keys {key : α → List Int} {z : α} {l : List α} {eq : α → α → Bool} (heq : ∀ x y, eq x y = decide (key x = key y))
    (hs : ∀ i j, i < j → j < l.length → 0 ≤ cmpW (key (l.getD j z)) (key (l.getD i z))) :
    ∀ m, m ≤ l.length → Asc ((stayed eq z l m).map key) ∧ (∀ x, x ∈ (stayed eq z l m).map key ↔ x ∈ (l.take m).map key)
  | 0, _ => by simp [stayed, Asc]
  | m + 1, hm => by
    obtain ⟨h1, h2⟩ := stayed_keys heq hs m (by omega)
    have hle : ∀ x ∈ (l.take m).map key, cmpW x (key (l.getD m z)) ≤ 0 := by
      intro x hx
      obtain ⟨y, hy, rfl⟩ := List.mem_map.1 hx
      obtain ⟨i, hi, rfl⟩ := List.getElem_of_mem hy
      have hi' : i < m := by simp at hi; omega
      have := hs i m hi' (by omega)
      rw [cmpW_anti] at this
      rw [getD_eq (show i < l.length by omega)] at this
      simp only [List.getElem_take]
      omega
    have hmm : ∀ x, x ∈ (l.take (m + 1)).map key ↔ x ∈ (l.take m).map key ∨ x = key (l.getD m z) := by
      intro x
      rw [take_succ_getD l m z (by omega)]
      simp only [List.map_append, List.mem_append, List.map_cons, List.map_nil, List.mem_singleton]
    unfold stayed
    by_cases c : stays eq z l m
    · rw [if_pos c]
      refine ⟨?_, fun x => ?_⟩
      · rw [List.map_append]
        refine List.pairwise_append.2 ⟨h1, by simp, fun x hx y hy => ?_⟩
        obtain rfl : y = key (l.getD m z) := by simpa using hy
        have hx' := (h2 x).1 hx
        have hxl := hle x hx'
        rcases Int.lt_or_eq_of_le hxl with g | g
        · exact g
        · exfalso
          have e := (cmpW_zero _ _).1 g
          obtain ⟨yy, hy2, hk⟩ := List.mem_map.1 hx'
          obtain ⟨i, hi, rfl⟩ := List.getElem_of_mem hy2
          have hi' : i < m := by simp at hi; omega
          have hm0 : m ≠ 0 := by omega
          have hne : key (l.getD m z) ≠ key (l.getD (m - 1) z) := by
            intro e2
            simp only [stays, heq, hm0, decide_false, Bool.false_or, Bool.not_eq_true', decide_eq_false_iff_not] at c
            exact c e2
          have k1 := hs (m - 1) m (by omega) (by omega)
          have k2 : 0 ≤ cmpW (key (l.getD (m - 1) z)) (key (l.getD i z)) := by
            by_cases ei : i = m - 1
            · rw [ei, cmpW_refl]; omega
            · exact hs i (m - 1) (by omega) (by omega)
          have e3 : key (l.getD i z) = key (l.getD m z) := by
            rw [getD_eq (show i < l.length by omega)]
            simp only [List.getElem_take] at hk
            rw [hk, e]
          rw [e3] at k2
          rw [cmpW_anti] at k2
          exact hne ((cmpW_zero _ _).1 (by omega))
      · rw [hmm, ← h2 x]
        simp only [List.map_append, List.mem_append, List.map_cons, List.map_nil, List.mem_singleton]
    · rw [if_neg c]
      refine ⟨h1, fun x => ?_⟩
      rw [hmm, h2 x]
      refine ⟨Or.inl, fun h => ?_⟩
      rcases h with h | h
      · exact h
      · have hm0 : m ≠ 0 := by
          rintro rfl
          exact c (stays_first eq z l)
        have e2 : key (l.getD m z) = key (l.getD (m - 1) z) := by
          have : stays eq z l m = false := by simpa using c
          simp only [stays, heq, hm0, decide_false, Bool.false_or, Bool.not_eq_false', decide_eq_true_eq] at this
          exact this
        rw [h, e2]
        refine List.mem_map.2 ⟨l.getD (m - 1) z, ?_, rfl⟩
        rw [getD_eq (show m - 1 < l.length by omega)]
        refine List.mem_iff_getElem.2 ⟨m - 1, by simp; omega, by simp⟩
end Go.Proofs.YtolikggioekalabGreat.G
