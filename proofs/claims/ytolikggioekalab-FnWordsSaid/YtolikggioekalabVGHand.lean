/- Rows that lie apart, some of them handed on into another row of rows: whose block is whose. No condition. -/
import Derived.Test.YtolikggioekalabVG0
import Derived.Test.YtolikggioekalabVWords
namespace Go.Proofs.Ytolikggioekalab.G
open Go.RowKit Go.Proofs.YtolikggioekalabW.PrintWords Go.Proofs.YtolikggioekalabW.PrintMore
set_option linter.unusedVariables false

theorem named {W w1 : World} (hb : Below W.heap.size W w1) : ∃ b, b = W.heap.size ∧ b ≤ w1.heap.size := ⟨_, rfl, hb.size⟩
/-- A block that does not lie in [lo,hi), or that one of the first i rows owns. -/
def Taken (own : Nat → Nat → Prop) (lo hi : Nat) (i : Int) (k : Nat) : Prop := ¬ (lo ≤ k ∧ k < hi) ∨ ∃ j : Nat, (j : Int) < i ∧ own j k
theorem taken_next {own : Nat → Nat → Prop} {lo hi : Nat} {i : Int} {k : Nat} (h : Taken own lo hi i k) : Taken own lo hi (i + 1) k := by
  rcases h with h | ⟨j, h1, h2⟩
  · exact .inl h
  · exact .inr ⟨j, by omega, h2⟩
theorem taken_in {own : Nat → Nat → Prop} {lo hi : Nat} {i : Int} {k : Nat} (h0 : 0 ≤ i) (h : own i.toNat k) : Taken own lo hi (i + 1) k := .inr ⟨i.toNat, by omega, h⟩
theorem taken_not {own : Nat → Nat → Prop} {lo hi : Nat} (h1 : ∀ i j k, own i k → own j k → i = j) (h2 : ∀ j k, own j k → lo ≤ k ∧ k < hi) {i : Int} {k : Nat} (h0 : 0 ≤ i) (h : Taken own lo hi i k) : ¬ own i.toNat k := by
  intro e
  rcases h with h | ⟨j, h3, h4⟩
  · exact h (h2 _ _ e)
  · have := h1 _ _ _ e h4; omega
theorem own_block {ad : Addr} {n c k : Nat} (h : (Value.slice (some ad) n c).ownBlock = some k) : k = ad.block := by
  simp [Value.ownBlock] at h; first | exact h.symm | exact h.2.symm | (obtain ⟨_, h⟩ := h; exact h.symm) | omega
/-- Each row with the blocks that are its own. -/
theorem S_split {ei er : Nat} {w : World} {base : Nat} {ok : Nat → Prop} {A : Option Addr} {n c : Nat} {xs : List (List Int)} (h : Kd.S (Kd.slice ei (Kd.int .i64)) er w base ok (.slice A n c) xs) :
    ∃ own : Nat → Nat → Prop, (∀ i j k, own i k → own j k → i = j) ∧ (∀ j k, own j k → base ≤ k ∧ k < w.heap.size) ∧
      ∀ (ad : Addr) (i : Nat) (A' : Option Addr) (m c' : Nat), A = some ad → i < xs.length → w.cell? (ad.add i) = some (.slice A' m c') → (Kd.int .i64).R ei w base (own i) (.slice A' m c') (xs.getD i []) := by
  obtain ⟨f, h0, inner, ho, hr⟩ := Kd.S_bound h
  rw [List.length_zipIdx] at ho
  have hl : inner.length = xs.length := by have := ho.1; change inner.length = xs.length * 1 at this; omega
  refine ⟨fun i k => (base ≤ k ∧ k < w.heap.size) ∧ f k = i, fun i j k a b => a.2.symm.trans b.2, fun j k hk => hk.1, ?_⟩
  intro ad i A' m c' hA hi hc
  have hi' : i < inner.length := by omega
  have key : (Kd.int .i64).R ei w base (fun k => (base ≤ k ∧ k < w.heap.size) ∧ f k = i) inner[i] xs[i] := by
    have hM := hr.2 i (xs[i], i) (Kd.zip_at (List.getElem?_eq_getElem hi))
    obtain ⟨v', e, hR⟩ := hM
    have e' : (inner.drop (i * 1)).take 1 = [v'] := e
    rw [Nat.mul_one, List.drop_eq_getElem_cons hi'] at e'
    have e2 : inner[i] = v' := by
      have : inner[i] :: (inner.drop (i + 1)).take 0 = [v'] := e'
      injection this
    rw [e2]
    exact Kd.R_mono hR (fun k hk => ⟨⟨hk.1.1.2.1, hk.1.1.2.2.1⟩, hk.2⟩)
  have hcell : w.cell? (ad.add i) = some inner[i] := by
    subst hA
    rcases ho.2 with ⟨he, hz⟩ | ⟨g', cap', cur, he, _, hh, _, _, hs', ht⟩
    · cases he
    · injection he with ea _ ec
      injection ea with ea
      subst ea
      have e1 : (⟨g', 0, none⟩ : Addr).add i = ⟨g', i, none⟩ := by simp [Addr.add]; intro h; exact h.symm
      have ht' : cur.toList.take (xs.length * 1) = inner := ht
      rw [Nat.mul_one] at ht'
      have h1 : i < (cur.toList.take xs.length).length := by rw [ht']; exact hi'
      have h2 : (cur.toList.take xs.length)[i] = inner[i] := by simp only [ht']
      rw [List.getElem_take] at h2
      rw [e1, blk_cell hh i, ← h2]
      simp
  rw [hcell] at hc
  have e := Option.some.inj hc
  rw [e] at key
  rw [List.getD_eq_getElem?_getD, List.getElem?_eq_getElem hi]
  exact key
end Go.Proofs.Ytolikggioekalab.G
