/- How long a word agrees with itself moved by p places. No condition. -/
import Derived.Test.YtolikggioekalabGreatVG0
namespace Go.Proofs.YtolikggioekalabGreat.G
set_option linter.unusedVariables false
def Rep (w : List Int) (p a c : Nat) : Prop := a + c + p ≤ w.length ∧ ∀ j, j < c → w.getD (a + j) 0 = w.getD (a + j + p) 0
theorem Rep.less {w : List Int} {p a c c' : Nat} (h : Rep w p a c) (hc : c' ≤ c) : Rep w p a c' :=
  ⟨by have := h.1; omega, fun j hj => h.2 j (by omega)⟩
theorem Rep.more {w : List Int} {p a c : Nat} (h : Rep w p a c) (h1 : a + c + p < w.length) (h2 : w.getD (a + c) 0 = w.getD (a + c + p) 0) : Rep w p a (c + 1) :=
  ⟨by omega, fun j hj => by
    by_cases e : j = c
    · subst e; exact h2
    · exact h.2 j (by omega)⟩
def RepMax (w : List Int) (p a c : Nat) : Prop := Rep w p a c ∧ ∀ c', Rep w p a c' → c' ≤ c
def RepBest (w : List Int) (p b : Nat) : Prop := (∃ a, Rep w p a b) ∧ ∀ a c, Rep w p a c → c ≤ b
def RepInv (w : List Int) (p i best count : Nat) : Prop :=
  i + p ≤ w.length ∧ (∃ a, a + best ≤ i ∧ Rep w p a best) ∧ (∀ a c, a + c ≤ i → Rep w p a c → c ≤ best) ∧
  count ≤ i ∧ Rep w p (i - count) count ∧ ∀ c, c ≤ i → Rep w p (i - c) c → c ≤ count
theorem RepInv.start {w : List Int} {p : Nat} (h : p ≤ w.length) : RepInv w p 0 0 0 := by
  have h0 : Rep w p 0 0 := ⟨by omega, fun j hj => by omega⟩
  refine ⟨by omega, ⟨0, by omega, h0⟩, fun a c h1 _ => by omega, by omega, h0, fun c h1 _ => by omega⟩
theorem RepInv.no {w : List Int} {p i best count : Nat} (h : RepInv w p i best count) (h1 : i + p < w.length) (h2 : ¬ w.getD i 0 = w.getD (i + p) 0) :
    RepInv w p (i + 1) best 0 := by
  obtain ⟨g0, ⟨a, g1, g2⟩, g3, g4, g5, g6⟩ := h
  have step : ∀ c, c ≤ i + 1 → Rep w p (i + 1 - c) c → c = 0 := by
    intro c hc hr
    by_cases c0 : c = 0
    · exact c0
    · have := hr.2 (c - 1) (by omega)
      rw [show i + 1 - c + (c - 1) = i by omega] at this
      exact absurd this h2
  refine ⟨by omega, ⟨a, by omega, g2⟩, ?_, by omega, ⟨by omega, fun j hj => by omega⟩, fun c hc hr => by have := step c hc hr; omega⟩
  intro a' c ha hr
  by_cases hc : a' + c ≤ i
  · exact g3 a' c hc hr
  · have := step c (by omega) (by rwa [show i + 1 - c = a' by omega]); omega
theorem RepInv.done {w : List Int} {p i best count : Nat} (h : RepInv w p i best count) (h1 : w.length ≤ i + p) : RepBest w p best := by
  obtain ⟨g0, ⟨a, g1, g2⟩, g3, _⟩ := h
  exact ⟨⟨a, g2⟩, fun a c hr => g3 a c (by have := hr.1; omega) hr⟩
end Go.Proofs.YtolikggioekalabGreat.G
