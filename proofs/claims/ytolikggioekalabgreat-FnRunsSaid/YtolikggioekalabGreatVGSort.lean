/- Words in order: the comparison is a total order; one ascending list for each set of words; insertion in order, once. No condition. -/
import Derived.Test.YtolikggioekalabGreatVG5b
namespace Go.Proofs.YtolikggioekalabGreat.G
open Go.RowKit Go.Proofs.YtolikggioekalabGreatW.PrintWords Go.Proofs.YtolikggioekalabGreatW.PrintMore
set_option linter.unusedVariables false
theorem cmpW_refl (u : List Int) : cmpW u u = 0 := (cmpW_zero u u).2 rfl
theorem cmpW_anti (u : List Int) : ∀ v : List Int, cmpW v u = - cmpW u v := by
  induction u with
  | nil => intro v; cases v <;> simp [cmpW]
  | cons a u ih =>
    intro v
    cases v with
    | nil => simp [cmpW]
    | cons b v =>
      rw [cmpW_cons, cmpW_cons]
      by_cases h : a < b
      · rw [if_neg (by omega), if_pos h, if_pos h]; rfl
      · by_cases h2 : b < a
        · rw [if_pos h2, if_neg h, if_pos h2]
        · rw [if_neg h2, if_neg h, if_neg h, if_neg h2]; exact ih v
theorem cmpW_trans (u : List Int) : ∀ v x : List Int, cmpW u v < 0 → cmpW v x < 0 → cmpW u x < 0 := by
  induction u with
  | nil =>
    intro v x h1 h2
    cases x with
    | nil => rw [cmpW_nil_right] at h2; split at h2 <;> omega
    | cons c x => simp [cmpW]
  | cons a u ih =>
    intro v x h1 h2
    cases v with
    | nil => simp [cmpW] at h1
    | cons b v =>
      cases x with
      | nil => simp [cmpW] at h2
      | cons c x =>
        rw [cmpW_cons] at h1 h2 ⊢
        by_cases g1 : a < b
        · by_cases g2 : b < c
          · rw [if_pos (by omega)]; omega
          · rw [if_neg g2] at h2
            by_cases g3 : c < b
            · rw [if_pos g3] at h2; omega
            · rw [if_pos (by omega)]; omega
        · rw [if_neg g1] at h1
          by_cases g3 : b < a
          · rw [if_pos g3] at h1; omega
          · rw [if_neg g3] at h1
            by_cases g2 : b < c
            · rw [if_pos (by omega)]; omega
            · rw [if_neg g2] at h2
              by_cases g4 : c < b
              · rw [if_pos g4] at h2; omega
              · rw [if_neg g4] at h2
                rw [if_neg (by omega), if_neg (by omega)]
                exact ih v x h1 h2
def Asc (l : List (List Int)) : Prop := l.Pairwise (fun u v => cmpW u v < 0)
theorem asc_ext : ∀ a b : List (List Int), Asc a → Asc b → (∀ x, x ∈ a ↔ x ∈ b) → a = b
  | [], [], _, _, _ => rfl
  | [], y :: b, _, _, h => by have := (h y).2 List.mem_cons_self; cases this
  | x :: a, [], _, _, h => by have := (h x).1 List.mem_cons_self; cases this
  | x :: a, y :: b, ha, hb, h => by
    have ha' := List.pairwise_cons.1 ha
    have hb' := List.pairwise_cons.1 hb
    have e : x = y := by
      rcases List.mem_cons.1 ((h x).1 List.mem_cons_self) with e | hx
      · exact e
      · rcases List.mem_cons.1 ((h y).2 List.mem_cons_self) with e | hy
        · exact e.symm
        · have h1 := hb'.1 x hx
          have h2 := ha'.1 y hy
          rw [cmpW_anti] at h1
          omega
    subst e
    rw [asc_ext a b ha'.2 hb'.2 (fun z => ?_)]
    constructor
    · intro hz
      rcases List.mem_cons.1 ((h z).1 (List.mem_cons_of_mem _ hz)) with e | hz'
      · subst e
        have := ha'.1 z hz
        rw [cmpW_refl] at this
        omega
      · exact hz'
    · intro hz
      rcases List.mem_cons.1 ((h z).2 (List.mem_cons_of_mem _ hz)) with e | hz'
      · subst e
        have := hb'.1 z hz
        rw [cmpW_refl] at this
        omega
      · exact hz'
def putW (w : List Int) : List (List Int) → List (List Int)
  | [] => [w]
  | x :: l => if cmpW w x < 0 then w :: x :: l else if cmpW w x = 0 then x :: l else x :: putW w l
theorem putW_mem (w : List Int) (l : List (List Int)) (x : List Int) : x ∈ putW w l ↔ x = w ∨ x ∈ l := by
  induction l with
  | nil => simp [putW]
  | cons y l ih =>
    unfold putW
    split
    · simp
    · split
      · rename_i h
        have e := (cmpW_zero w y).1 h
        subst e
        simp
      · simp only [List.mem_cons, ih]
        constructor
        · rintro (h | h | h) <;> simp [h]
        · rintro (h | h | h) <;> simp [h]
theorem putW_asc (w : List Int) (l : List (List Int)) (h : Asc l) : Asc (putW w l) := by
  induction l with
  | nil => unfold putW Asc; simp
  | cons y l ih =>
    have h' := List.pairwise_cons.1 h
    unfold putW
    split
    · rename_i c
      refine List.pairwise_cons.2 ⟨fun z hz => ?_, h⟩
      rcases List.mem_cons.1 hz with e | hz
      · subst e; exact c
      · exact cmpW_trans _ _ _ c (h'.1 z hz)
    · split
      · exact h
      · rename_i c1 c2
        refine List.pairwise_cons.2 ⟨fun z hz => ?_, ih h'.2⟩
        rcases (putW_mem w l z).1 hz with e | hz
        · subst e
          rw [cmpW_anti]
          omega
        · exact h'.1 z hz
def canon (l : List (List Int)) : List (List Int) := l.foldl (fun a w => putW w a) []
theorem foldl_put (l : List (List Int)) : ∀ a : List (List Int), Asc a → Asc (l.foldl (fun a w => putW w a) a) ∧ ∀ x, x ∈ l.foldl (fun a w => putW w a) a ↔ x ∈ a ∨ x ∈ l := by
  induction l with
  | nil => intro a h; exact ⟨h, fun x => by simp⟩
  | cons y l ih =>
    intro a h
    obtain ⟨h1, h2⟩ := ih (putW y a) (putW_asc y a h)
    refine ⟨h1, fun x => ?_⟩
    rw [List.foldl_cons, h2, putW_mem, List.mem_cons]
    constructor
    · rintro ((h | h) | h) <;> simp [h]
    · rintro (h | h | h) <;> simp [h]
theorem canon_asc (l : List (List Int)) : Asc (canon l) := (foldl_put l [] List.Pairwise.nil).1
theorem canon_mem (l : List (List Int)) (x : List Int) : x ∈ canon l ↔ x ∈ l := by
  have := (foldl_put l [] List.Pairwise.nil).2 x
  simpa [canon] using this
theorem canon_eq {l r : List (List Int)} (h : Asc r) (hm : ∀ x, x ∈ r ↔ x ∈ l) : r = canon l :=
  asc_ext r (canon l) h (canon_asc l) (fun x => (hm x).trans (canon_mem l x).symm)
theorem canon_snoc (l : List (List Int)) (w : List Int) : canon (l ++ [w]) = putW w (canon l) := by
  unfold canon; rw [List.foldl_append]; rfl
theorem putW_length (w : List Int) (l : List (List Int)) : (putW w l).length ≤ l.length + 1 := by
  induction l with
  | nil => simp [putW]
  | cons y l ih =>
    unfold putW
    split
    · simp
    · split
      · simp
      · simp; omega
theorem canon_length (l : List (List Int)) : (canon l).length ≤ l.length := by
  have key : ∀ (l a : List (List Int)), (l.foldl (fun a w => putW w a) a).length ≤ a.length + l.length := by
    intro l
    induction l with
    | nil => intro a; simp
    | cons y l ih =>
      intro a
      have := ih (putW y a)
      have := putW_length y a
      simp only [List.foldl_cons, List.length_cons]
      omega
  simpa [canon] using key l []
end Go.Proofs.YtolikggioekalabGreat.G
