/- What a law's walk carries of memory where structs lie in boxes: spans of blocks, also for facts that keep more than their span. No condition. -/
import Derived.Test.YtolikggioekalaaGLaw
namespace Go.Proofs.Ytolikggioekalaa.G
open Go.RowKit Go.Proofs.YtolikggioekalaaW.PrintWords Go.Proofs.YtolikggioekalaaW.PrintMore
set_option linter.unusedVariables false

theorem gen {P : Program} {ops : Array Oper} {rest : List Oper} {a : Act} {Q : Exit → Act → World → Prop} {W : World} {F : World → Prop} (hF : F W) (h : ∀ w1, F w1 → wpList P ops Q rest a w1) : wpList P ops Q rest a W := h W hF
theorem genC {P : Program} {f : Nat} {xs : Array Value} {Q : Ending → World → Prop} {W : World} {F : World → Prop} (hF : F W) (h : ∀ w1, F w1 → Calls P f xs w1 Q) : Calls P f xs W Q := h W hF
theorem span_of {p : Nat} {W w1 : World} (hb : Below W.heap.size W w1) (hp : p ≤ W.heap.size) : ∃ lo hi, lo = W.heap.size ∧ hi = w1.heap.size ∧ p ≤ lo ∧ lo ≤ hi ∧ hi ≤ w1.heap.size := ⟨_, _, rfl, rfl, hp, hb.size, Nat.le_refl _⟩
section
variable {α : Type} {d : Kd α} {e lo hi : Nat} {w0 w w1 : World} {ok : Nat → Prop} {v : Value} {xs : List α}
theorem R_in (h : d.R e w1 w.heap.size ok v xs) (hB : Below w0.heap.size w0 w) (hlo : lo = w.heap.size) (hhi : hi = w1.heap.size) : d.R e w1 w0.heap.size (Span lo hi) v xs := by subst hlo hhi; exact R_span h hB.size
theorem S_in (h : Kd.S d e w1 w.heap.size ok v xs) (hB : Below w0.heap.size w0 w) (hlo : lo = w.heap.size) (hhi : hi = w1.heap.size) : Kd.S d e w1 w0.heap.size (Span lo hi) v xs := by subst hlo hhi; exact S_span h hB.size
theorem N_in (h : Kd.N d e w1 w.heap.size (fun k => w.heap.size ≤ k) v xs) (hB : Below w0.heap.size w0 w) (hlo : lo = w.heap.size) (hhi : hi = w1.heap.size) : Kd.N d e w1 w0.heap.size (Span lo hi) v xs := by subst hlo hhi; exact N_span h hB.size
theorem N_inQ {Q : Nat → Prop} (h : Kd.N d e w1 w.heap.size (fun k => w.heap.size ≤ k ∧ Q k) v xs) (hB : Below w0.heap.size w0 w) (hlo : lo = w.heap.size) (hhi : hi = w1.heap.size) : Kd.N d e w1 w0.heap.size (Span lo hi) v xs := N_in (Kd.N_mono h (fun _ hk => hk.1)) hB hlo hhi
theorem S_in2 (h : Kd.S d e w1 w.heap.size ok v xs) (hB : Below w0.heap.size w0 w) (hlo : lo = w.heap.size) (hhi : hi = w1.heap.size) : Kd.S d e w1 w0.heap.size (fun k => Span lo hi k ∧ ok k) v xs := by
  subst hlo hhi; exact Kd.S_lower (Kd.S_mono (Kd.S_bound h) (fun _ hk => ⟨⟨hk.2.1, hk.2.2.1⟩, hk.1⟩)) hB.size
theorem R_in2 (h : d.R e w1 w.heap.size ok v xs) (hB : Below w0.heap.size w0 w) (hlo : lo = w.heap.size) (hhi : hi = w1.heap.size) : d.R e w1 w0.heap.size (fun k => Span lo hi k ∧ ok k) v xs := by
  subst hlo hhi; exact Kd.R_lower (Kd.R_mono (Kd.R_bound h) (fun _ hk => ⟨⟨hk.2.1, hk.2.2.1⟩, hk.1⟩)) hB.size
end
section
variable {α : Type} {d : Kd α} {e base lo hi l2 h2 : Nat} {w w1 : World} {Q : Nat → Prop} {v : Value} {xs : List α}
theorem S_marked2 (h : Kd.S d e w base (fun k => Span lo hi k ∧ Q k) v xs) (hk : Kept w w1 (Span l2 h2)) (ha : hi ≤ l2 ∨ h2 ≤ lo) : Kd.S d e w1 base (fun k => Span lo hi k ∧ Q k) v xs := Kd.S_kept h hk (fun _ h1 h3 => by have h1 := h1.1; unfold Span at *; omega)
theorem R_marked2 (h : d.R e w base (fun k => Span lo hi k ∧ Q k) v xs) (hk : Kept w w1 (Span l2 h2)) (ha : hi ≤ l2 ∨ h2 ≤ lo) : d.R e w1 base (fun k => Span lo hi k ∧ Q k) v xs := Kd.R_kept h hk (fun _ h1 h3 => by have h1 := h1.1; unfold Span at *; omega)
end
theorem S_C {α : Type} {d : Kd α} {e base n c : Nat} {w : World} {ok : Nat → Prop} {A : Option Addr} {xs ys : List α} (h : Kd.S d e w base ok (.slice A n c) xs) (hn : xs.length = n) : xs.length ≤ c ∧ d.C w A xs.length xs := by
  subst hn
  exact ⟨(Kd.S_reads' h).2.1, (Kd.S_reads' h).2.2⟩
end Go.Proofs.Ytolikggioekalaa.G
