/- The factors of a word, by their length, in order. No condition. -/
import Derived.Test.YtolikggioekalabVGSort
namespace Go.Proofs.Ytolikggioekalab.G
open Go.RowKit
set_option linter.unusedVariables false

theorem asc_nodup {l : List (List Int)} (h : Asc l) : l.Nodup := by
  refine List.Pairwise.imp (fun {a b} hab e => ?_) h
  subst e
  rw [cmpW_refl] at hab
  omega

/-! Factors. -/
def win (w : List Int) (n i : Nat) : List Int := (w.drop i).take n
def Fac (w : List Int) (n : Nat) (x : List Int) : Prop := ∃ i, i + n ≤ w.length ∧ win w n i = x
def facs (w : List Int) (n : Nat) : List (List Int) := canon ((List.range (w.length + 1 - n)).map (win w n))
theorem win_length {w : List Int} {n i : Nat} (h : i + n ≤ w.length) : (win w n i).length = n := by unfold win; rw [List.length_take, List.length_drop]; omega
theorem win_getD {w : List Int} {n i k : Nat} (hk : k < n) : (win w n i).getD k 0 = w.getD (i + k) 0 := by unfold win; rw [getD_take _ _ _ _ hk, getD_drop]
theorem mem_facs {w : List Int} {n : Nat} {x : List Int} : x ∈ facs w n ↔ Fac w n x := by
  unfold facs Fac
  rw [canon_mem, List.mem_map]
  constructor
  · rintro ⟨i, hi, e⟩
    rw [List.mem_range] at hi
    exact ⟨i, by omega, e⟩
  · rintro ⟨i, hi, e⟩
    exact ⟨i, by rw [List.mem_range]; omega, e⟩
theorem facs_nodup (w : List Int) (n : Nat) : (facs w n).Nodup := asc_nodup (canon_asc _)
theorem Fac.length {w : List Int} {n : Nat} {x : List Int} (h : Fac w n x) : x.length = n := by
  obtain ⟨i, hi, rfl⟩ := h
  exact win_length hi
theorem facs_length (w : List Int) (n : Nat) : (facs w n).length ≤ w.length + 1 := by
  have := canon_length ((List.range (w.length + 1 - n)).map (win w n))
  rw [List.length_map, List.length_range] at this
  unfold facs
  omega
/-- The first m of the factors of length n, told in order. -/
def facsTo (w : List Int) (n m : Nat) : List (List Int) := (List.range m).map (win w n)
theorem facsTo_succ (w : List Int) (n m : Nat) : facsTo w n (m + 1) = facsTo w n m ++ [win w n m] := by simp [facsTo, List.range_succ]
theorem facsTo_length (w : List Int) (n m : Nat) : (facsTo w n m).length = m := by simp [facsTo]
theorem win_cut (w : List Int) (n i : Nat) : (w.take (i + n)).drop i = win w n i := by
  unfold win
  rw [List.drop_take]
  congr 1
  omega

end Go.Proofs.Ytolikggioekalab.G
