/- The greatest exponent of a part of a word: a fraction that is greatest, and its lowest terms. No condition. -/
import Derived.Test.YtolikggioekalabVG2
import Derived.Test.YtolikggioekalabVG7
namespace Go.Proofs.Ytolikggioekalab.G
open Go.RowKit
set_option linter.unusedVariables false

theorem wmul (a b : Nat) (ha : a ≤ 1048576) (hb : b ≤ 1048576) : wrap64 ((a : Int) * (b : Int)) = ((a * b : Nat) : Int) :=
  wnat _ (by rw [Int.natCast_mul]) (by have := Nat.mul_le_mul ha hb; omega)

/-- N / D is an exponent of a part. -/
def RatIn (w : List Int) (N D : Nat) : Prop := 1 ≤ D ∧ ∃ a c, Rep w D a c ∧ N = c + D

theorem RatIn.le {w : List Int} {N D : Nat} (h : RatIn w N D) : N ≤ w.length ∧ D ≤ w.length ∧ 1 ≤ N := by
  obtain ⟨h1, a, c, h2, h3⟩ := h
  have := h2.1
  omega

def RatMax (w : List Int) (N D : Nat) : Prop := RatIn w N D ∧ ∀ p a c, 1 ≤ p → Rep w p a c → (c + p) * D ≤ N * p

/-- A greater fraction takes the place of a greatest one. -/
theorem rat_up {n p N D m q : Nat} (hD : 1 ≤ D) (h1 : N * p < n * D) (h2 : m * D ≤ N * q) : m * p ≤ n * q := by
  have a1 : m * D * p ≤ N * q * p := Nat.mul_le_mul_right p h2
  have a2 : N * p * q ≤ n * D * q := Nat.mul_le_mul_right q (Nat.le_of_lt h1)
  have e1 : m * D * p = m * p * D := by rw [Nat.mul_assoc, Nat.mul_comm D p, ← Nat.mul_assoc]
  have e2 : N * q * p = N * p * q := by rw [Nat.mul_assoc, Nat.mul_comm q p, ← Nat.mul_assoc]
  have e3 : n * D * q = n * q * D := by rw [Nat.mul_assoc, Nat.mul_comm D q, ← Nat.mul_assoc]
  have : m * p * D ≤ n * q * D := by omega
  exact Nat.le_of_mul_le_mul_right this (by omega)

theorem lowest_eq {a b c d : Nat} (hb : 0 < b) (hd : 0 < d) (h : a * d = c * b) : a / Nat.gcd a b = c / Nat.gcd c d ∧ b / Nat.gcd a b = d / Nat.gcd c d := by
  have hg : 0 < Nat.gcd a b := Nat.gcd_pos_of_pos_right _ hb
  have hg' : 0 < Nat.gcd c d := Nat.gcd_pos_of_pos_right _ hd
  obtain ⟨x, hx⟩ := Nat.gcd_dvd_left a b
  obtain ⟨y, hy⟩ := Nat.gcd_dvd_right a b
  obtain ⟨z, hz⟩ := Nat.gcd_dvd_left c d
  obtain ⟨u, hu⟩ := Nat.gcd_dvd_right c d
  have c1 : Nat.gcd x y = 1 := by
    have h0 : Nat.gcd a b * 1 = Nat.gcd a b * Nat.gcd x y := by
      rw [← Nat.gcd_mul_left, ← hx, ← hy, Nat.mul_one]
    exact (Nat.eq_of_mul_eq_mul_left hg h0).symm
  have c2 : Nat.gcd z u = 1 := by
    have h0 : Nat.gcd c d * 1 = Nat.gcd c d * Nat.gcd z u := by
      rw [← Nat.gcd_mul_left, ← hz, ← hu, Nat.mul_one]
    exact (Nat.eq_of_mul_eq_mul_left hg' h0).symm
  have e1 : a / Nat.gcd a b = x := by conv => lhs; arg 1; rw [hx]
                                      exact Nat.mul_div_cancel_left _ hg
  have e2 : b / Nat.gcd a b = y := by conv => lhs; arg 1; rw [hy]
                                      exact Nat.mul_div_cancel_left _ hg
  have e3 : c / Nat.gcd c d = z := by conv => lhs; arg 1; rw [hz]
                                      exact Nat.mul_div_cancel_left _ hg'
  have e4 : d / Nat.gcd c d = u := by conv => lhs; arg 1; rw [hu]
                                      exact Nat.mul_div_cancel_left _ hg'
  rw [e1, e2, e3, e4]
  have key : x * u = z * y := by
    have h1 : Nat.gcd a b * Nat.gcd c d * (x * u) = Nat.gcd a b * Nat.gcd c d * (z * y) := by
      have l : Nat.gcd a b * Nat.gcd c d * (x * u) = a * d := by
        conv => rhs; rw [hx, hu]
        simp only [Nat.mul_assoc, Nat.mul_left_comm]
      have r : Nat.gcd a b * Nat.gcd c d * (z * y) = c * b := by
        conv => rhs; rw [hz, hy]
        simp only [Nat.mul_assoc, Nat.mul_left_comm, Nat.mul_comm]
      rw [l, r, h]
    exact Nat.eq_of_mul_eq_mul_left (Nat.mul_pos hg hg') h1
  have d1 : x ∣ z := by
    have : x ∣ z * y := ⟨u, key.symm⟩
    exact Nat.Coprime.dvd_of_dvd_mul_right c1 this
  have d2 : z ∣ x := by
    have : z ∣ x * u := ⟨y, key⟩
    exact Nat.Coprime.dvd_of_dvd_mul_right c2 this
  have exz : x = z := Nat.dvd_antisymm d1 d2
  have d3 : y ∣ u := by
    have : y ∣ u * x := ⟨z, by rw [Nat.mul_comm u x, key, Nat.mul_comm]⟩
    exact Nat.Coprime.dvd_of_dvd_mul_right (by rw [Nat.Coprime, Nat.gcd_comm]; exact c1) this
  have d4 : u ∣ y := by
    have : u ∣ y * z := ⟨x, by rw [Nat.mul_comm y z, ← key, Nat.mul_comm]⟩
    exact Nat.Coprime.dvd_of_dvd_mul_right (by rw [Nat.Coprime, Nat.gcd_comm]; exact c2) this
  exact ⟨exz, Nat.dvd_antisymm d3 d4⟩

theorem RatMax.cross {w : List Int} {N D N' D' : Nat} (h : RatMax w N D) (h' : RatMax w N' D') : N * D' = N' * D := by
  obtain ⟨⟨h1, a, c, h2, h3⟩, h4⟩ := h
  obtain ⟨⟨g1, a', c', g2, g3⟩, g4⟩ := h'
  have l1 := h4 D' a' c' g1 g2
  have l2 := g4 D a c h1 h2
  rw [← g3] at l1
  rw [← h3] at l2
  omega

end Go.Proofs.Ytolikggioekalab.G
