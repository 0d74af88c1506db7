/- Lists in strict order by a key; the sort by a key. No condition. -/
import Derived.Test.YtolikggioekalabGreatVGSort
namespace Go.Proofs.YtolikggioekalabGreat.G
open Go.RowKit
set_option linter.unusedVariables false
variable {α : Type}
def KAsc (key : α → List Int) (l : List α) : Prop := l.Pairwise (fun x y => cmpW (key x) (key y) < 0)
theorem kasc_ext {key : α → List Int} : ∀ a b : List α, KAsc key a → KAsc key b → (∀ x, x ∈ a ↔ x ∈ b) → a = b
  | [], [], _, _, _ => rfl
  | [], y :: b, _, _, h => by have := (h y).2 List.mem_cons_self; cases this
  | x :: a, [], _, _, h => by have := (h x).1 List.mem_cons_self; cases this
  | x :: a, y :: b, ha, hb, h => by
    have ha' := List.pairwise_cons.1 ha
    have hb' := List.pairwise_cons.1 hb
    have e : x = y := by
      rcases List.mem_cons.1 ((h x).1 List.mem_cons_self) with e | hx
      · exact e
      · rcases List.mem_cons.1 ((h y).2 List.mem_cons_self) with e | hy
        · exact e.symm
        · have h1 := hb'.1 x hx
          have h2 := ha'.1 y hy
          rw [cmpW_anti] at h1
          omega
    subst e
    rw [kasc_ext a b ha'.2 hb'.2 (fun z => ?_)]
    constructor
    · intro hz
      rcases List.mem_cons.1 ((h z).1 (List.mem_cons_of_mem _ hz)) with e | hz'
      · subst e
        have := ha'.1 z hz
        rw [cmpW_refl] at this
        omega
      · exact hz'
    · intro hz
      rcases List.mem_cons.1 ((h z).2 (List.mem_cons_of_mem _ hz)) with e | hz'
      · subst e
        have := hb'.1 z hz
        rw [cmpW_refl] at this
        omega
      · exact hz'
def insK (key : α → List Int) (x : α) : List α → List α
  | [] => [x]
  | y :: l => if cmpW (key x) (key y) < 0 then x :: y :: l else y :: insK key x l
def sortK (key : α → List Int) : List α → List α
  | [] => []
  | x :: l => insK key x (sortK key l)
theorem insK_perm (key : α → List Int) (x : α) (l : List α) : (insK key x l).Perm (x :: l) := by
  induction l with
  | nil => exact List.Perm.refl _
  | cons y l ih =>
    unfold insK
    split
    · exact List.Perm.refl _
    · exact (ih.cons y).trans (List.Perm.swap x y l)
theorem sortK_perm (key : α → List Int) (l : List α) : (sortK key l).Perm l := by
  induction l with
  | nil => exact List.Perm.refl _
  | cons x l ih => exact (insK_perm key x _).trans (ih.cons x)
theorem insK_asc {key : α → List Int} {x : α} {l : List α} (h : KAsc key l) (hx : ∀ y ∈ l, key x ≠ key y) : KAsc key (insK key x l) := by
  induction l with
  | nil => unfold insK KAsc; simp
  | cons y l ih =>
    have h' := List.pairwise_cons.1 h
    unfold insK
    split
    · rename_i c
      refine List.pairwise_cons.2 ⟨fun z hz => ?_, h⟩
      rcases List.mem_cons.1 hz with e | hz
      · subst e; exact c
      · exact cmpW_trans _ _ _ c (h'.1 z hz)
    · rename_i c
      refine List.pairwise_cons.2 ⟨fun z hz => ?_, ih h'.2 (fun z hz => hx z (List.mem_cons_of_mem _ hz))⟩
      rcases List.mem_cons.1 ((insK_perm key x l).mem_iff.1 hz) with e | hz
      · subst e
        have h1 := hx y List.mem_cons_self
        have h2 : cmpW (key z) (key y) ≠ 0 := fun e => h1 ((cmpW_zero _ _).1 e)
        rw [cmpW_anti]
        omega
      · exact h'.1 z hz
theorem sortK_asc {key : α → List Int} {l : List α} (h : l.Pairwise (fun x y => key x ≠ key y)) : KAsc key (sortK key l) := by
  induction l with
  | nil => exact List.Pairwise.nil
  | cons x l ih =>
    have h' := List.pairwise_cons.1 h
    exact insK_asc (ih h'.2) (fun y hy => h'.1 y ((sortK_perm key l).mem_iff.1 hy))
theorem sortK_eq {key : α → List Int} {l r : List α} (h : l.Pairwise (fun x y => key x ≠ key y)) (hp : r.Perm l) (hs : r.Pairwise (fun x y => 0 ≤ cmpW (key y) (key x))) : r = sortK key l := by
  refine kasc_ext r (sortK key l) ?_ (sortK_asc h) (fun x => (hp.mem_iff).trans ((sortK_perm key l).mem_iff).symm)
  have h2 : r.Pairwise (fun x y => key x ≠ key y) := (hp.pairwise_iff (fun {a b} hab e => hab e.symm)).2 h
  have h3 := List.pairwise_and_iff.2 ⟨hs, h2⟩
  refine List.Pairwise.imp (fun {a b} hab => ?_) h3
  have : cmpW (key a) (key b) ≠ 0 := fun e => hab.2 ((cmpW_zero _ _).1 e)
  have h4 := hab.1
  rw [cmpW_anti] at h4
  omega
end Go.Proofs.YtolikggioekalabGreat.G
