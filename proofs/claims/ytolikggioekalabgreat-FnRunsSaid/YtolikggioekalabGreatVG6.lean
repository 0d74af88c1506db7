/- Borders of the beginnings of a word: the longest one, and the chain of all. No condition. -/
import Derived.Test.YtolikggioekalabGreatVG0
namespace Go.Proofs.YtolikggioekalabGreat.G
set_option linter.unusedVariables false
def Bd (w : List Int) (n k : Nat) : Prop := k < n ∧ n ≤ w.length ∧ ∀ i, i < k → w.getD i 0 = w.getD (n - k + i) 0
theorem Bd.zero {w : List Int} {n : Nat} (h : 1 ≤ n) (h2 : n ≤ w.length) : Bd w n 0 := ⟨by omega, h2, fun i hi => by omega⟩
theorem Bd.trans {w : List Int} {n k j : Nat} (h : Bd w n k) (h2 : Bd w k j) : Bd w n j :=
  ⟨by have := h.1; have := h2.1; omega, h.2.1, fun i hi => by
    have a := h.1; have b := h2.1
    rw [h2.2.2 i hi, h.2.2 (k - j + i) (by omega)]
    congr 1; omega⟩
theorem Bd.below {w : List Int} {n k j : Nat} (h : Bd w n k) (h2 : Bd w n j) (hj : j < k) : Bd w k j :=
  ⟨hj, by have := h.1; have := h.2.1; omega, fun i hi => by
    have a := h.1
    rw [h2.2.2 i hi, h.2.2 (k - j + i) (by omega)]
    congr 1; omega⟩
theorem Bd.up {w : List Int} {n k : Nat} (h : Bd w n k) (hn : n < w.length) (he : w.getD k 0 = w.getD n 0) : Bd w (n + 1) (k + 1) :=
  ⟨by have := h.1; omega, by omega, fun i hi => by
    have a := h.1
    by_cases e : i = k
    · subst e; rw [he]; congr 1; omega
    · rw [h.2.2 i (by omega)]; congr 1; omega⟩
theorem Bd.down {w : List Int} {n k : Nat} (h : Bd w (n + 1) (k + 1)) : Bd w n k ∧ w.getD k 0 = w.getD n 0 := by
  have a := h.1
  have b := h.2.1
  refine ⟨⟨by omega, by omega, fun i hi => ?_⟩, ?_⟩
  · rw [h.2.2 i (by omega)]; congr 1; omega
  · rw [h.2.2 k (by omega)]; congr 1; omega
def IsLB (w : List Int) (n k : Nat) : Prop := Bd w n k ∧ ∀ j, Bd w n j → j ≤ k
theorem lb_exists (w : List Int) (n : Nat) (h : 1 ≤ n) (h2 : n ≤ w.length) : ∃ k, IsLB w n k := by
  have go : ∀ m, m < n → (∀ j, m < j → ¬ Bd w n j) → ∃ k, IsLB w n k := by
    intro m
    induction m with
    | zero =>
      intro _ hm
      refine ⟨0, Bd.zero h h2, fun j hj => ?_⟩
      apply Nat.le_of_not_lt
      intro hlt
      exact hm j hlt hj
    | succ m ih =>
      intro hmn hm
      by_cases c : Bd w n (m + 1)
      · refine ⟨m + 1, c, fun j hj => ?_⟩
        apply Nat.le_of_not_lt
        intro hlt
        exact hm j hlt hj
      · refine ih (by omega) (fun j hj hb => ?_)
        by_cases e : j = m + 1
        · subst e; exact c hb
        · exact hm j (by omega) hb
  exact go (n - 1) (by omega) (fun j hj hb => by have := hb.1; omega)
open Classical in
noncomputable def lb (w : List Int) (n : Nat) : Nat := if h : ∃ k, IsLB w n k then Classical.choose h else 0
theorem lb_is (w : List Int) (n : Nat) (h : 1 ≤ n) (h2 : n ≤ w.length) : IsLB w n (lb w n) := by
  have he := lb_exists w n h h2
  unfold lb
  rw [dif_pos he]
  exact Classical.choose_spec he
theorem lb_lt (w : List Int) (n : Nat) (h : 1 ≤ n) (h2 : n ≤ w.length) : lb w n < n := (lb_is w n h h2).1.1
theorem IsLB.eq {w : List Int} {n k : Nat} (h : IsLB w n k) : lb w n = k := by
  have a := lb_is w n (by have := h.1.1; omega) h.1.2.1
  have b := h.2 _ a.1
  have c := a.2 _ h.1
  omega
noncomputable def bc (w : List Int) : Nat → Nat → List Int
  | 0, _ => []
  | f + 1, n => if n = 0 then [] else bc w f (lb w n) ++ [((lb w n : Nat) : Int)]
theorem bc_fuel (w : List Int) : ∀ f n : Nat, n ≤ f → n ≤ w.length → bc w f n = bc w n n := by
  intro f
  induction f using Nat.strongRecOn with
  | _ f ih =>
    intro n h1 h2
    cases f with
    | zero => have : n = 0 := by omega
              subst this; rfl
    | succ f =>
      by_cases c : n = 0
      · subst c; simp [bc]
      · obtain ⟨m, rfl⟩ : ∃ m, n = m + 1 := ⟨n - 1, by omega⟩
        have hl := lb_lt w (m + 1) (by omega) h2
        rw [bc, bc, if_neg c, if_neg c, ih f (by omega) _ (by omega) (by omega), ih m (by omega) _ (by omega) (by omega)]
theorem bc_step (w : List Int) (n : Nat) (h : 1 ≤ n) (h2 : n ≤ w.length) : bc w n n = bc w (lb w n) (lb w n) ++ [((lb w n : Nat) : Int)] := by
  obtain ⟨m, rfl⟩ : ∃ m, n = m + 1 := ⟨n - 1, by omega⟩
  have hl := lb_lt w (m + 1) (by omega) h2
  rw [bc, if_neg (by omega), bc_fuel w m _ (by omega) (by omega)]
theorem bc_length (w : List Int) : ∀ f n : Nat, (bc w f n).length ≤ f := by
  intro f
  induction f with
  | zero => intro n; simp [bc]
  | succ f ih =>
    intro n
    rw [bc]
    split
    · simp
    · have := ih (lb w n); simp; omega
theorem bc_bounds (w : List Int) : ∀ f n : Nat, n ≤ w.length → ∀ x ∈ bc w f n, 0 ≤ x ∧ x < w.length := by
  intro f
  induction f with
  | zero => intro n _ x hx; simp [bc] at hx
  | succ f ih =>
    intro n hn x hx
    rw [bc] at hx
    split at hx
    · simp at hx
    · have hl := lb_lt w n (by omega) hn
      rw [List.mem_append] at hx
      rcases hx with hx | hx
      · exact ih _ (by omega) x hx
      · simp at hx; omega
def BrdTo (w out : List Int) (n : Nat) : Prop := out.length = w.length + 1 ∧ out.getD 0 0 = -1 ∧ ∀ m, 1 ≤ m → m < n → out.getD m 0 = ((lb w m : Nat) : Int)
def Cand (w : List Int) (n k : Nat) : Prop := (k = 0 ∨ Bd w (n - 1) (k - 1)) ∧ k < n + (if n = 1 then 0 else 0) ∧ ∀ j, Bd w n j → j ≤ k
theorem lb_of_cand {w : List Int} {n k : Nat} (hn : 1 ≤ n) (hl : n ≤ w.length) (h : Cand w n k) (he : k = 0 ∨ w.getD (k - 1) 0 = w.getD (n - 1) 0) : lb w n = k := by
  apply IsLB.eq
  refine ⟨?_, h.2.2⟩
  rcases h.1 with h0 | h0
  · subst h0; exact Bd.zero hn hl
  · by_cases k0 : k = 0
    · subst k0; exact Bd.zero hn hl
    · have h1 := h0.1
      have := h0.up (by omega) (by rcases he with e | e; exact absurd e k0; exact e)
      rwa [show n - 1 + 1 = n by omega, show k - 1 + 1 = k by omega] at this
theorem Cand.first {w : List Int} (n : Nat) (hn : 1 ≤ n) (hl : n ≤ w.length) : Cand w n (if n = 1 then 0 else lb w (n - 1) + 1) := by
  by_cases e : n = 1
  · subst e
    rw [if_pos rfl]
    exact ⟨Or.inl rfl, by simp, fun j hj => by have := hj.1; omega⟩
  · rw [if_neg e]
    have hb := lb_is w (n - 1) (by omega) (by omega)
    have hlt := hb.1.1
    refine ⟨Or.inr (by rw [Nat.add_sub_cancel]; exact hb.1), by simp [e]; omega, fun j hj => ?_⟩
    by_cases j0 : j = 0
    · omega
    · obtain ⟨m, rfl⟩ : ∃ m, n = m + 1 := ⟨n - 1, by omega⟩
      obtain ⟨i, rfl⟩ : ∃ i, j = i + 1 := ⟨j - 1, by omega⟩
      have := hb.2 i (by simpa using hj.down.1)
      omega
theorem Cand.next {w : List Int} {n k : Nat} (hn : 1 ≤ n) (hl : n ≤ w.length) (h : Cand w n (k + 1)) (hne : ¬ w.getD k 0 = w.getD (n - 1) 0) :
    Cand w n (if k = 0 then 0 else lb w k + 1) := by
  have h1 : Bd w (n - 1) k := by
    rcases h.1 with h0 | h0
    · exact absurd h0 (by omega)
    · simpa using h0
  have hk := h1.1
  have key : ∀ j, Bd w n j → j = 0 ∨ (j - 1 < k ∧ Bd w (n - 1) (j - 1)) := by
    intro j hj
    by_cases j0 : j = 0
    · exact Or.inl j0
    · obtain ⟨m, rfl⟩ : ∃ m, n = m + 1 := ⟨n - 1, by omega⟩
      obtain ⟨i, rfl⟩ : ∃ i, j = i + 1 := ⟨j - 1, by omega⟩
      have hle := h.2.2 _ hj
      have hd := hj.down
      simp only [Nat.add_sub_cancel] at hne ⊢
      refine Or.inr ⟨?_, hd.1⟩
      by_cases e : i = k
      · subst e; exact absurd hd.2 hne
      · omega
  by_cases k0 : k = 0
  · rw [if_pos k0]
    refine ⟨Or.inl rfl, by omega, fun j hj => ?_⟩
    rcases key j hj with h2 | h2
    · omega
    · omega
  · rw [if_neg k0]
    have hb := lb_is w k (by omega) (by have := h1.2.1; omega)
    have hlt := hb.1.1
    refine ⟨Or.inr (by rw [Nat.add_sub_cancel]; exact h1.trans hb.1), by omega, fun j hj => ?_⟩
    rcases key j hj with h2 | ⟨h2, h3⟩
    · omega
    · have := hb.2 _ (h1.below h3 h2)
      omega
end Go.Proofs.YtolikggioekalabGreat.G
