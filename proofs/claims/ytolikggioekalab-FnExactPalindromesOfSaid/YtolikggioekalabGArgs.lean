/- What an argument's slices hold: rows of numbers, of bools, of rows of numbers, as the words of the print have them. No condition beyond those written. -/
import Derived.Test.YtolikggioekalabWWords
import Derived.Test.YtolikggioekalabWMore
import Derived.Deep.Matrix
import Derived.Deep.Grids
import Derived.Lib.SmallJoins
namespace Go.Proofs.Ytolikggioekalab.G
open Go.ChangeShapes Go.WideShapes Go.RowKit Go.Deep Go.WideElems Go.Maps Go.Proofs.YtolikggioekalabW.PrintWords Go.Proofs.YtolikggioekalabW.PrintMore
set_option linter.unusedVariables false

section
variable {H : Type} {enc : TypeId × Value → H} {P : Program} {w : World} {base : Nat} {held : Bool}

theorem C_of_cells {k : IntKind} {A : Option Addr} {n : Nat} {l : List Int} (hl : l.length = n) (hm : n ≤ maxLen) (h : 0 < n → ∃ a, A = some a ∧ ∀ i, i < n → w.cell? (a.add i) = some (.int k (l.getD i 0))) : Kd.C (Kd.int k) w A n l := by
  unfold maxLen at hm
  refine ⟨hl, by omega, fun hn => ?_⟩
  obtain ⟨a, rfl, hc⟩ := h hn
  refine ⟨a, rfl, fun j p hj => ⟨[.int k p], rfl, rfl, fun i u hu => ?_⟩⟩
  obtain ⟨hlt, hp⟩ := List.getElem?_eq_some_iff.1 hj
  cases i with
  | zero =>
    simp at hu
    subst hu
    have := hc j (by omega)
    rw [List.getD_eq_getElem?_getD, hj] at this
    show w.cell? (a.add (j * 1 + 0)) = _
    simpa using this
  | succ i => simp at hu

theorem ints_C {t e : TypeId} {k : IntKind} {fuel : Nat} {v : Value} {y : DataW H × List MemPlace} (ht : P.underlying t = some (.slice e)) (he : P.underlying e = some (.int k)) (hc : P.cellsOf e = 1)
    (h : DataW.trod enc P w base (fun _ => true) held fuel t [v] = some y) :
    ∃ (A : Option Addr) (c : Nat) (l : List Int), v = .slice A l.length c ∧ l.length ≤ c ∧ l.length ≤ maxLen ∧ Kd.C (Kd.int k) w A l.length l ∧ ∀ x ∈ l, (Lit.int k x).wf = true := by
  rcases open_ints ht he hc h with ⟨hcs, _⟩ | ⟨a, len, cap, zs, hcs, _, hl, hm, hz, _, hcell, hwz⟩
  · simp at hcs
    subst hcs
    exact ⟨none, 0, [], rfl, by simp, by simp, C_of_cells rfl (by simp) (fun hn => by simp at hn), by simp⟩
  · simp at hcs
    subst hcs
    simp only [if_true] at hz
    have hlen : (zs.take len).length = len := by rw [List.length_take]; omega
    refine ⟨some a, cap, zs.take len, by rw [hlen], by rw [hlen]; exact hl, by rw [hlen]; omega, ?_, fun x hx => hwz x (List.mem_of_mem_take hx)⟩
    rw [hlen]
    refine C_of_cells hlen (by omega) (fun hn => ⟨a, rfl, fun i hi => ?_⟩)
    have := hcell i (by omega)
    rw [this]
    simp [List.getD_eq_getElem?_getD, hi]

theorem bools_C {t e : TypeId} {fuel : Nat} {v : Value} {y : DataW H × List MemPlace} (ht : P.underlying t = some (.slice e)) (he : P.underlying e = some .bool) (hc : P.cellsOf e = 1)
    (h : DataW.trod enc P w base (fun _ => true) held fuel t [v] = some y) :
    ∃ (A : Option Addr) (c : Nat) (l : List Bool), v = .slice A l.length c ∧ l.length ≤ c ∧ l.length ≤ maxLen ∧ Kd.C Kd.bool w A l.length l := by
  rcases open_bools ht he hc h with ⟨hcs, _⟩ | ⟨a, len, cap, B, hcs, _, hl, hm, _, hcell⟩
  · simp at hcs
    subst hcs
    exact ⟨none, 0, [], rfl, by simp, by simp, rfl, by simp, fun hn => by simp at hn⟩
  · simp at hcs
    subst hcs
    have hlen : ((List.range len).map B).length = len := by simp
    have hm' : len ≤ 9223372036854775807 := by unfold maxLen at hm; omega
    refine ⟨some a, cap, (List.range len).map B, by rw [hlen], by rw [hlen]; exact hl, by rw [hlen]; omega, ?_⟩
    rw [hlen]
    refine ⟨hlen, hm', fun hn => ⟨a, rfl, fun j p hj => ?_⟩⟩
    refine ⟨[.bool p], rfl, rfl, fun i u hu => ?_⟩
    obtain ⟨hlt, hp⟩ := List.getElem?_eq_some_iff.1 hj
    cases i with
    | zero =>
      simp at hu
      subst hu
      have := hcell j (by omega)
      simp at hp
      subst hp
      show w.cell? (a.add (j * 1 + 0)) = _
      simpa using this
    | succ i => simp at hu

theorem rows_C {t e q : TypeId} {k : IntKind} {fuel : Nat} {v : Value} {y : DataW H × List MemPlace} (ht : P.underlying t = some (.slice e)) (he : P.underlying e = some (.slice q)) (hq : P.underlying q = some (.int k))
    (ce : P.cellsOf e = 1) (cq : P.cellsOf q = 1) (h : DataW.trod enc P w base (fun _ => true) held fuel t [v] = some y) :
    ∃ (A : Option Addr) (c : Nat) (l : List (List Int)), v = .slice A l.length c ∧ l.length ≤ c ∧ l.length ≤ maxLen ∧ Kd.C (Kd.slice q (Kd.int k)) w A l.length l ∧ (∀ r ∈ l, r.length ≤ maxLen) ∧ ∀ r ∈ l, ∀ x ∈ r, (Lit.int k x).wf = true := by
  rcases open_int_rows ht he hq ce cq h with ⟨hcs, _⟩ | ⟨a, len, cap, A, L, C, Z, hcs, _, hl, hm, _, hrow⟩
  · simp at hcs
    subst hcs
    exact ⟨none, 0, [], rfl, by simp, by simp, ⟨rfl, by simp, fun hn => by simp at hn⟩, by simp, by simp⟩
  · simp at hcs
    subst hcs
    have hlen : ((List.range len).map fun r => (Z r).take (L r)).length = len := by simp
    have hm' : len ≤ 9223372036854775807 := by unfold maxLen at hm; omega
    refine ⟨some a, cap, (List.range len).map fun r => (Z r).take (L r), by rw [hlen], by rw [hlen]; exact hl, by rw [hlen]; omega, ?_, ?_, ?_⟩
    · rw [hlen]
      refine ⟨hlen, hm', fun hn => ⟨a, rfl, fun j p hj => ?_⟩⟩
      obtain ⟨hlt, hp⟩ := List.getElem?_eq_some_iff.1 hj
      rw [hlen] at hlt
      obtain ⟨g1, g2, g3, g4, g5, g6, g7⟩ := hrow j (by omega)
      have hp' : p = (Z j).take (L j) := by simp at hp; exact hp.symm
      have hpl : p.length = L j := by rw [hp', List.length_take]; omega
      refine ⟨[.slice (A j) p.length (C j)], rfl, ⟨A j, C j, rfl, by omega, C_of_cells rfl (by omega) (fun hn2 => ?_)⟩, fun i u hu => ?_⟩
      · cases hA : A j with
        | none => have := g6 hA; omega
        | some a' =>
          refine ⟨a', rfl, fun i hi => ?_⟩
          have := (g7 a' hA).2 i (by omega)
          rw [this, hp']
          simp [List.getD_eq_getElem?_getD, show i < L j by omega]
      · cases i with
        | zero =>
          simp at hu
          subst hu
          show w.cell? (a.add (j * 1 + 0)) = _
          rw [hpl]
          simpa using g1
        | succ i => simp at hu
    · intro r hr
      simp at hr
      obtain ⟨j, hj, rfl⟩ := hr
      obtain ⟨g1, g2, g3, g4, _⟩ := hrow j (by omega)
      rw [List.length_take]; omega
    · intro r hr x hx
      simp at hr
      obtain ⟨j, hj, rfl⟩ := hr
      obtain ⟨g1, g2, g3, g4, g5, _⟩ := hrow j (by omega)
      exact g5 x (List.mem_of_mem_take hx)
/-- A struct of one one-cell field, by value. -/
theorem open_agg1 {spare : Nat → Bool} {r : Reach} {b0 : Nat} {t : TypeId} {f0 : Field} {v : Value} {d : DataW H} {p : List MemPlace} (hs : P.underlying t = some (.struct #[f0])) (hone : oneCellFields P #[f0] = true) (hC : P.cellsOf t = 1)
    (hv : Value.okWide P w r b0 t v) (h : DataW.Trod enc P w base spare held t v d p) :
    ∃ (v0 : Value) (y0 : DataW H × List MemPlace) (n : Nat), v = .agg #[v0] ∧ d = .agg [y0.1] ∧ p = y0.2 ∧ DataW.trod enc P w base spare held n f0.type [v0] = some y0 := by
  obtain ⟨cs, rfl, hsz⟩ := okWide_struct hs hv
  obtain ⟨c0, rfl⟩ : ∃ c0, cs = #[c0] := by
    have h1 := hsz.trans hC
    match cs, h1 with
    | ⟨[c0]⟩, _ => exact ⟨c0, rfl⟩
  obtain ⟨fuel, hf⟩ := h
  obtain ⟨y0, n, hx, _, h0⟩ := trod_struct1 hs hf
  obtain ⟨o0, k0⟩ := hone_of hone 0 f0 rfl
  simp only [Prod.mk.injEq] at hx
  exact ⟨c0, y0, n, rfl, hx.1, hx.2, by simpa [Value.cells, o0, k0] using h0⟩
end
end Go.Proofs.Ytolikggioekalab.G
