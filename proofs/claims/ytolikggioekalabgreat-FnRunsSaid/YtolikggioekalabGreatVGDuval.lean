/- Duval's factors: Lyndon words that do not increase and make up the word; one of them just where the word is a Lyndon word. The parts of a Lyndon word's standard split are Lyndon words. No condition. -/
import Derived.Test.YtolikggioekalabGreatVG9
import Derived.Test.YtolikggioekalabGreatVGLet
namespace Go.Proofs.YtolikggioekalabGreat.G
open Go.RowKit
set_option linter.unusedVariables false
theorem lyn_iff (u : List Int) : Lyn u ↔ LynIx u 0 u.length := by
  rw [lynIx_iff]
  unfold Lyn
  exact ⟨fun h => ⟨h.1, fun k h1 h2 => h.2 k h1 h2⟩, fun h => ⟨h.1, fun k h1 h2 => h.2 k h1 h2⟩⟩
def part (w : List Int) (a p : Nat) : List Int := (w.take (a + p)).drop a
theorem part_length {w : List Int} {a p : Nat} (h : a + p ≤ w.length) : (part w a p).length = p := by unfold part; rw [List.length_drop, List.length_take]; omega
theorem part_getD {w : List Int} {a p t : Nat} (h : t < p) : (part w a p).getD t 0 = w.getD (a + t) 0 := by unfold part; rw [getD_drop, getD_take _ _ _ _ (by omega)]
theorem DEnd.less {w : List Int} {a i j : Nat} (h : DEnd w a i j) {m p : Nat} (hm : i < a + m * (j - i)) (hm2 : a + m * (j - i) ≤ j) (hp : 0 < p) (hp2 : a + m * (j - i) + p ≤ w.length) :
    cmpW (part w (a + m * (j - i)) p) (part w a (j - i)) < 0 := by
  obtain ⟨h, hs⟩ := h
  have l1 := h.le
  have l2 := h.lt
  have l3 := h.len
  have hm0 : m ≠ 0 := fun e => by subst e; simp at hm; omega
  obtain ⟨n, rfl⟩ : ∃ n, m = n + 1 := ⟨m - 1, by omega⟩
  have hu : (part w a (j - i)).length = j - i := part_length (by omega)
  have hz := part_length hp2
  generalize hb : a + (n + 1) * (j - i) = b at *
  have hsame : ∀ t, b + t < j → w.getD (b + t) 0 = w.getD (a + t) 0 := by
    intro t ht
    rw [h.pers (n + 1) (a + t) (by omega) (by omega)]
    congr 1
    omega
  by_cases c : b + p ≤ j
  · refine ltAt_cmpW _ _ p ⟨by omega, by omega, fun t ht => ?_, .inl hz.symm⟩
    rw [part_getD ht, part_getD (by omega), hsame t (by omega)]
  · rcases hs with e | e
    · omega
    · refine ltAt_cmpW _ _ (j - b) ⟨by omega, by omega, fun t ht => ?_, .inr ?_⟩
      · rw [part_getD (by omega), part_getD (by omega), hsame t (by omega)]
      · rw [part_getD (by omega), part_getD (by omega), show b + (j - b) = j by omega]
        have e2 := h.pers n (a + (j - b)) (by omega) (by rw [Nat.succ_mul] at hb; omega)
        rw [show a + (j - b) + n * (j - i) = i by rw [Nat.succ_mul] at hb; omega] at e2
        rw [e2]
        exact e
end Go.Proofs.YtolikggioekalabGreat.G
