/- What a law's walk carries of memory: each value made lies in a span of blocks of its own; a later call or a mark elsewhere leaves it. No condition. -/
import Derived.Test.YtolikggioekalabG0
import Derived.Test.YtolikggioekalabWN
import Derived.Test.YtolikggioekalabWKept
namespace Go.Proofs.Ytolikggioekalab.G
open Go.RowKit Go.Proofs.YtolikggioekalabW.PrintWords Go.Proofs.YtolikggioekalabW.PrintMore
set_option linter.unusedVariables false

/-- Blocks from lo on, up to hi. -/
def Span (lo hi k : Nat) : Prop := lo ≤ k ∧ k < hi
theorem drawn_below {w w' : World} (h : Drawn0 w w') : Below w.heap.size w w' := by
  obtain ⟨n, rfl⟩ := h.out
  exact pw_below_drewN (Below.refl _ _) n
theorem C_drawn {α : Type} {d : Kd α} {w w' : World} {A : Option Addr} {n : Nat} {xs : List α} (h : d.C w A n xs) (hd : Drawn0 w w') : d.C w' A n xs := Kd.C_below h (drawn_below hd)
section
variable {α : Type} {d : Kd α} {e : Nat} {w w1 : World} {base b0 : Nat} {ok : Nat → Prop} {v : Value} {xs : List α}
theorem R_span (h : d.R e w1 w.heap.size ok v xs) (hb : b0 ≤ w.heap.size) : d.R e w1 b0 (Span w.heap.size w1.heap.size) v xs := Kd.R_lower (Kd.R_mono (Kd.R_bound h) (fun _ hk => ⟨hk.2.1, hk.2.2.1⟩)) hb
theorem S_span (h : Kd.S d e w1 w.heap.size ok v xs) (hb : b0 ≤ w.heap.size) : Kd.S d e w1 b0 (Span w.heap.size w1.heap.size) v xs := Kd.S_lower (Kd.S_mono (Kd.S_bound h) (fun _ hk => ⟨hk.2.1, hk.2.2.1⟩)) hb
theorem N_span (h : Kd.N d e w1 w.heap.size (fun k => w.heap.size ≤ k) v xs) (hb : b0 ≤ w.heap.size) : Kd.N d e w1 b0 (Span w.heap.size w1.heap.size) v xs := Kd.N_lower (Kd.N_mono (Kd.N_bound h) (fun _ hk => ⟨hk.1, hk.2⟩)) hb
variable {lo hi l2 h2 : Nat} {P : Nat → Prop}
theorem R_marked (h : d.R e w base (Span lo hi) v xs) (hk : Kept w w1 (Span l2 h2)) (ha : hi ≤ l2 ∨ h2 ≤ lo) : d.R e w1 base (Span lo hi) v xs := Kd.R_kept h hk (fun _ h1 h3 => by unfold Span at *; omega)
theorem S_marked (h : Kd.S d e w base (Span lo hi) v xs) (hk : Kept w w1 (Span l2 h2)) (ha : hi ≤ l2 ∨ h2 ≤ lo) : Kd.S d e w1 base (Span lo hi) v xs := Kd.S_kept h hk (fun _ h1 h3 => by unfold Span at *; omega)
theorem N_marked (h : Kd.N d e w base (Span lo hi) v xs) (hk : Kept w w1 (Span l2 h2)) (ha : hi ≤ l2 ∨ h2 ≤ lo) : Kd.N d e w1 base (Span lo hi) v xs := Kd.N_kept h hk (fun _ h1 h3 => by unfold Span at *; omega)
end
section
variable {α : Type} {d : Kd α} {e p : Nat} {w0 w w1 : World} {ok : Nat → Prop} {v : Value} {xs : List α}
theorem R_made (h : d.R e w1 w.heap.size ok v xs) (hB : Below w0.heap.size w0 w) (hb : Below w.heap.size w w1) (hp : p ≤ w.heap.size) : ∃ lo hi, p ≤ lo ∧ lo ≤ hi ∧ hi ≤ w1.heap.size ∧ d.R e w1 w0.heap.size (Span lo hi) v xs := ⟨_, _, hp, hb.size, Nat.le_refl _, R_span h hB.size⟩
theorem S_made (h : Kd.S d e w1 w.heap.size ok v xs) (hB : Below w0.heap.size w0 w) (hb : Below w.heap.size w w1) (hp : p ≤ w.heap.size) : ∃ lo hi, p ≤ lo ∧ lo ≤ hi ∧ hi ≤ w1.heap.size ∧ Kd.S d e w1 w0.heap.size (Span lo hi) v xs := ⟨_, _, hp, hb.size, Nat.le_refl _, S_span h hB.size⟩
theorem N_made (h : Kd.N d e w1 w.heap.size (fun k => w.heap.size ≤ k) v xs) (hB : Below w0.heap.size w0 w) (hb : Below w.heap.size w w1) (hp : p ≤ w.heap.size) : ∃ lo hi, p ≤ lo ∧ lo ≤ hi ∧ hi ≤ w1.heap.size ∧ Kd.N d e w1 w0.heap.size (Span lo hi) v xs := ⟨_, _, hp, hb.size, Nat.le_refl _, N_span h hB.size⟩
end
section
variable {α : Type} {d : Kd α} {e p b0 base lo hi l2 h2 : Nat} {w0 w w1 : World} {v : Value} {xs : List α}
theorem V_made (h : Kd.V d e w1 w.heap.size (fun k => w.heap.size ≤ k) v xs) (hB : Below w0.heap.size w0 w) (hb : Below w.heap.size w w1) (hp : p ≤ w.heap.size) : ∃ lo hi, p ≤ lo ∧ lo ≤ hi ∧ hi ≤ w1.heap.size ∧ Kd.V d e w1 w0.heap.size (Span lo hi) v xs := ⟨_, _, hp, hb.size, Nat.le_refl _, Kd.V_lower (Kd.V_mono (Kd.V_bound h) (fun _ hk => ⟨hk.1, hk.2⟩)) hB.size⟩
theorem V_marked (h : Kd.V d e w base (Span lo hi) v xs) (hk : Kept w w1 (Span l2 h2)) (ha : hi ≤ l2 ∨ h2 ≤ lo) : Kd.V d e w1 base (Span lo hi) v xs := Kd.V_kept h hk (fun _ h1 h3 => by unfold Span at *; omega)
end
theorem R_marked' {d : Kd Int} {e lo hi : Nat} {w0 w w1 : World} {v : Value} {xs ys : List Int} (hE : d.E = []) (h : d.R e w w0.heap.size (Span lo hi) v xs) (h1 : d.R e w1 w0.heap.size (fun k => Span lo hi k ∨ w.heap.size ≤ k) v ys) : d.R e w1 w0.heap.size (Span lo hi) v ys :=
  Kd.R_mono (Kd.R_tight hE h1) (fun k hk => h.1 k hk.symm)

end Go.Proofs.Ytolikggioekalab.G
