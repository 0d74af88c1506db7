/- A draw in a law: whatever is drawn, the rest answers true. No condition. -/
import Derived.Test.YtolikggioekalabGreatVG0
namespace Go.Proofs.YtolikggioekalabGreat.G
noncomputable def draw {α : Type} (ok : α → Prop) (F : Nat → α → Option Bool) : Option Bool := open Classical in if ∀ t, ok t → ∃ k, F k t = some true then some true else none
theorem draw_out {α : Type} {ok : α → Prop} {F : Nat → α → Option Bool} {r : Bool} (h : draw ok F = some r) (t : α) (ht : ok t) : ∃ k, F k t = some r := by
  unfold draw at h
  split at h
  · rename_i hh
    cases h
    exact hh t ht
  · cases h
theorem draw_in {α : Type} {ok : α → Prop} {F : Nat → α → Option Bool} (h : ∀ t, ok t → ∃ k, F k t = some true) : draw ok F = some true := by
  unfold draw
  rw [if_pos h]
end Go.Proofs.YtolikggioekalabGreat.G
