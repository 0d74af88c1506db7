/- A return word with the word behind it is a factor in which the word begins at two places just. No condition. -/
import Derived.Test.YtolikggioekalabVGRet
namespace Go.Proofs.Ytolikggioekalab.G
open Go.RowKit
set_option linter.unusedVariables false

theorem mem_occ (w u : List Int) (x : Int) : x ∈ occ w u ↔ ∃ i : Nat, x = (i : Int) ∧ i + u.length ≤ w.length ∧ win w u.length i = u := by
  unfold occ
  rw [mem_occTo]
  constructor
  · rintro ⟨i, e, h1, h2⟩; exact ⟨i, e, by omega, h2⟩
  · rintro ⟨i, e, h1, h2⟩; exact ⟨i, e, by omega, h2⟩
theorem fac_occ {w u : List Int} (h : Fac w u.length u) : 0 < (occ w u).length := by
  obtain ⟨i, h1, h2⟩ := h
  exact List.length_pos_of_mem ((mem_occ w u i).2 ⟨i, rfl, h1, h2⟩)
theorem asc_two : ∀ l : List Int, l.Pairwise (fun x y => x < y) → ∀ n : Int, 0 < n → (∀ x, x ∈ l ↔ x = 0 ∨ x = n) → l.length = 2
  | [], _, n, hn, h => by have := (h 0).2 (.inl rfl); cases this
  | [a], _, n, hn, h => by
    have h1 := (h 0).2 (.inl rfl)
    have h2 := (h n).2 (.inr rfl)
    rw [List.mem_singleton] at h1 h2
    omega
  | [a, b], _, _, _, _ => rfl
  | a :: b :: c :: l, hp, n, hn, h => by
    have h1 := List.pairwise_cons.1 hp
    have h2 := List.pairwise_cons.1 h1.2
    have g1 := h1.1 b (by simp)
    have g2 := h2.1 c (by simp)
    have k1 := (h a).1 (by simp)
    have k2 := (h b).1 (by simp)
    have k3 := (h c).1 (by simp)
    omega

/-- What stands between two neighbouring places. -/
theorem ret_between {v p r : List Int} (hp : 0 < p.length) (h : r ∈ retR v p) : ∃ a b : Nat, a < b ∧ b + p.length ≤ v.length ∧ r = (v.take b).drop a ∧ win v p.length a = p ∧ win v p.length b = p ∧ ∀ i, a < i → i < b → win v p.length i ≠ p := by
  unfold retR at h
  split at h
  · rw [canon_mem] at h
    obtain ⟨k, hk, rfl⟩ := List.mem_map.1 h
    rw [List.mem_range] at hk
    have h1 : (occ v p).getD k 0 ∈ occ v p := by rw [getD_eq (show k < (occ v p).length by omega)]; exact List.getElem_mem _
    have h2 : (occ v p).getD (k + 1) 0 ∈ occ v p := by rw [getD_eq (show k + 1 < (occ v p).length by omega)]; exact List.getElem_mem _
    have hlt := occ_lt v p k (k + 1) (by omega) (by omega)
    obtain ⟨a, ea, a1, a2⟩ := (mem_occ v p _).1 h1
    obtain ⟨b, eb, b1, b2⟩ := (mem_occ v p _).1 h2
    rw [ea, eb] at hlt ⊢
    refine ⟨a, b, by omega, b1, rfl, a2, b2, fun i hi hi2 e => ?_⟩
    obtain ⟨j, hj, ej⟩ := List.getElem_of_mem ((mem_occ v p (i : Int)).2 ⟨i, rfl, by omega, e⟩)
    have ej2 : (occ v p).getD j 0 = (i : Int) := by rw [getD_eq hj]; exact ej
    by_cases c : j ≤ k
    · by_cases c2 : j = k
      · subst c2; omega
      · have := occ_lt v p j k (by omega) (by omega); omega
    · by_cases c2 : j = k + 1
      · subst c2; omega
      · have := occ_lt v p (k + 1) j (by omega) hj; omega
  · cases h
theorem ret_follow {v p r : List Int} (hp : 0 < p.length) (h : r ∈ retR v p) : Fac v (r ++ p).length (r ++ p) ∧ (occ (r ++ p) p).length = 2 := by
  obtain ⟨a, b, hab, hb, er, ea, eb, hn⟩ := ret_between hp h
  have hrl : r.length = b - a := by rw [er, List.length_drop, List.length_take]; omega
  have hy : r ++ p = win v (r ++ p).length a := by
    apply ext_getD 0
    · rw [win_length (by rw [List.length_append]; omega)]
    · intro i hi
      rw [win_getD hi]
      rw [List.length_append] at hi
      by_cases c : i < r.length
      · rw [getD_append_left _ _ _ _ c, er, getD_drop, getD_take _ _ _ _ (by omega)]
      · rw [getD_append_right _ _ _ _ (by omega)]
        conv => lhs; rw [← eb]
        rw [win_getD (by omega)]
        congr 1
        omega
  have hsub : ∀ i, i + p.length ≤ (r ++ p).length → win (r ++ p) p.length i = win v p.length (a + i) := by
    intro i hi
    rw [List.length_append] at hi
    apply ext_getD 0
    · rw [win_length (by rw [List.length_append]; omega), win_length (by omega)]
    · intro t ht
      rw [win_length (by rw [List.length_append]; omega)] at ht
      rw [win_getD ht, win_getD ht, hy, win_getD (by rw [List.length_append]; omega), Nat.add_assoc]
  have hfa : a + (r ++ p).length ≤ v.length := by rw [List.length_append]; omega
  have hba : (0 : Int) < ((b - a : Nat) : Int) := by omega
  have hrp : (r ++ p).length = b - a + p.length := by rw [List.length_append]; omega
  have k0 : 0 + p.length ≤ (r ++ p).length := by omega
  have k1 : b - a + p.length ≤ (r ++ p).length := by omega
  have k2 : a + (b - a) = b := by omega
  refine ⟨⟨a, hfa, hy.symm⟩, asc_two _ (occTo_asc _ _ _) ((b - a : Nat) : Int) hba (fun x => ?_)⟩
  have := mem_occ (r ++ p) p x
  rw [this]
  constructor
  · rintro ⟨i, rfl, h1, h2⟩
    rw [hsub i h1] at h2
    by_cases c : i = 0
    · exact .inl (by rw [c]; rfl)
    · by_cases c2 : i = b - a
      · exact .inr (by rw [c2])
      · exact absurd h2 (hn (a + i) (by omega) (by omega))
  · rintro (rfl | rfl)
    · exact ⟨0, rfl, k0, by rw [hsub 0 k0]; exact ea⟩
    · exact ⟨b - a, rfl, k1, by rw [hsub _ k1, k2]; exact eb⟩

end Go.Proofs.Ytolikggioekalab.G
