/- What the two readings of a sequence's shape both say. No condition. -/
import Derived.Test.YtolikggioekalaaVGRel
namespace Go.Proofs.Ytolikggioekalaa.G
open Go.RowKit
set_option linter.unusedVariables false

abbrev SeqRows (n : Nat) (b : Int) (rs : List (List Int)) : Prop := ∀ r ∈ rs, (r.length : Int) = b ∧ RowIn n r
abbrev OutIn (o : List Int) : Prop := ∀ v ∈ o, 0 ≤ v ∧ v ≤ 3
/-- The reading of a sequence's shape. -/
def okSeq (b : Int) (l : List (List Int)) (o : List Int) : Bool := decide ((2 ≤ b ∧ b ≤ 4) ∧ (1 ≤ l.length ∧ l.length ≤ 16) ∧ o.length = l.length ∧ SeqRows l.length b l ∧ OutIn o)
theorem okSeq_iff {b : Int} {l : List (List Int)} {o : List Int} : okSeq b l o = true ↔ ((2 ≤ b ∧ b ≤ 4) ∧ (1 ≤ l.length ∧ l.length ≤ 16) ∧ o.length = l.length ∧ SeqRows l.length b l ∧ OutIn o) := by
  unfold okSeq; rw [decide_eq_true_eq]
/-- Its first state stays at itself behind the digit nought. -/
def steady (b : Int) (l : List (List Int)) (o : List Int) : Bool := okSeq b l o && ((l.getD 0 []).getD 0 0 == 0)
theorem rowIn_cons {n : Nat} {v : Int} {r : List Int} : RowIn n (v :: r) ↔ (0 ≤ v ∧ v < (n : Int)) ∧ RowIn n r := List.forall_mem_cons
theorem seqRows_cons {n : Nat} {b : Int} {r : List Int} {rs : List (List Int)} : SeqRows n b (r :: rs) ↔ ((r.length : Int) = b ∧ RowIn n r) ∧ SeqRows n b rs := List.forall_mem_cons
theorem outIn_cons {v : Int} {o : List Int} : OutIn (v :: o) ↔ (0 ≤ v ∧ v ≤ 3) ∧ OutIn o := List.forall_mem_cons
end Go.Proofs.Ytolikggioekalaa.G
