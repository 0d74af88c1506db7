/- The pure statement of FnExactHasOverlap: at every list the law's answer is true. -/
import Derived.Test.YtighhipoodijfaaPFnExactHasOverlapx2
import Derived.Test.YtighhipoodijfaaG0
import Derived.Test.YtighhipoodijfaaGSized
import Derived.Test.YtighhipoodijfaaG2
namespace Go.Proofs.Ytighhipoodijfaa.Pure
open Go.RowKit Go.Proofs.Ytighhipoodijfaa.PFnExactHasOverlap Go.Proofs.YtighhipoodijfaaW.PrintWords Go.Proofs.YtighhipoodijfaaW.PrintLast Go.Proofs.YtighhipoodijfaaW.PrintMore Go.Proofs.Ytighhipoodijfaa.G
set_option linter.unusedVariables false
set_option linter.unusedSimpArgs false

/-! ### laws_toIntS -/
theorem laws_toIntS_loop (l : List Int) (hb : l.length ≤ 17592186044416) (d : Nat) : ∀ (n : Nat) (acc : List Int), acc.length = l.length → n ≤ l.length → l.length - n = d → acc.take n = l.take n →
    Ev (fun k => laws_toIntS.l0 k l acc (n : Int)) l := by
  induction d with
  | zero =>
    intro n acc h0 h1 h2 h3
    refine Ev_succ ?_
    simp only [laws_toIntS.l0]
    refine Ev_neg (by omega) (Ev_some ?_)
    have : n = l.length := by omega
    subst this
    rw [List.take_length, ← h0, List.take_length] at h3
    exact h3
  | succ d ih =>
    intro n acc h0 h1 h2 h3
    refine Ev_succ ?_
    simp only [laws_toIntS.l0]
    refine Ev_pos (by omega) (Ev_pos (by omega) (Ev_pos (by omega) ?_))
    rw [rd_cast, wsucc (by omega), Int.toNat_natCast]
    refine ih (n + 1) _ (by simpa using h0) (by omega) (by omega) ?_
    rw [set_take_succ acc n _ (by omega), take_succ_getD l n 0 (by omega), h3]

theorem laws_toIntS_ev (l : List Int) (hb : l.length ≤ 17592186044416) : Ev (fun k => laws_toIntS.f k l) l := by
  unfold laws_toIntS.f
  refine Ev_pos (by omega) (Ev_pos (by omega) ?_)
  exact laws_toIntS_loop l hb _ 0 _ (by simp) (by omega) rfl (by simp)

/-! ### laws_eqIntS -/
theorem laws_eqIntS_loop (a b : List Int) (hl : a.length = b.length) (hb : a.length ≤ 17592186044416) (d : Nat) : ∀ n : Nat, n ≤ a.length → a.length - n = d → a.take n = b.take n →
    Ev (fun k => laws_eqIntS.l0 k a b (n : Int)) (decide (a = b)) := by
  induction d with
  | zero =>
    intro n h1 h2 h3
    refine Ev_succ ?_
    simp only [laws_eqIntS.l0]
    refine Ev_neg (by omega) (Ev_some ?_)
    have : n = a.length := by omega
    subst this
    rw [List.take_length, hl, List.take_length] at h3
    simp [h3]
  | succ d ih =>
    intro n h1 h2 h3
    refine Ev_succ ?_
    simp only [laws_eqIntS.l0]
    refine Ev_pos (by omega) (Ev_pos (by omega) (Ev_pos (by omega) ?_))
    rw [rd_cast, rd_cast, wsucc (by omega)]
    refine Ev_ite (fun h => ?_) (fun h => Ev_some ?_)
    · refine ih (n + 1) (by omega) (by omega) ?_
      rw [take_succ_getD a n 0 (by omega), take_succ_getD b n 0 (by omega), h3, h]
    · symm
      rw [decide_eq_false_iff_not]
      intro e
      exact h (by rw [e])

theorem laws_eqIntS_ev (a b : List Int) (hb : a.length ≤ 17592186044416) : Ev (fun k => laws_eqIntS.f k a b) (decide (a = b)) := by
  unfold laws_eqIntS.f
  refine Ev_ite (fun h => ?_) (fun h => Ev_some ?_)
  · exact laws_eqIntS_loop a b (by omega) hb _ 0 (by omega) rfl (by simp)
  · symm
    rw [decide_eq_false_iff_not]
    intro e
    exact h (by rw [e])

/-! ### spec_l10Match -/
theorem spec_l10Match_loop (w : List Int) (hb : w.length ≤ 1048576) (a p : Nat) (d : Nat) : ∀ c : Nat, Rep w p a c → w.length - (a + p + c) = d →
    ∃ C : Nat, RepMax w p a C ∧ Ev (fun k => spec_l10Match.l0 k w (a : Int) (p : Int) ((p + c : Nat) : Int)) ((C + p : Nat) : Int) := by
  induction d with
  | zero =>
    intro c h hd
    have h1 := h.1
    refine ⟨c, ⟨h, fun c' h' => by have := h'.1; omega⟩, Ev_succ ?_⟩
    simp only [spec_l10Match.l0]
    rw [wnat (x := (a : Int) + ((p + c : Nat) : Int)) (a + (p + c)) (by omega) (by omega), w64 (n := (w.length : Int) - a) (by omega) (by omega), mn_eq]
    exact Ev_neg (by omega) (Ev_some (by omega))
  | succ d ih =>
    intro c h hd
    have h1 := h.1
    by_cases e : w.getD (a + c) 0 = w.getD (a + c + p) 0
    · obtain ⟨C, hC, hev⟩ := ih (c + 1) (h.more (by omega) e) (by omega)
      refine ⟨C, hC, Ev_succ ?_⟩
      simp only [spec_l10Match.l0]
      rw [wnat (x := (a : Int) + ((p + c : Nat) : Int)) (a + (p + c)) (by omega) (by omega), wnat (x := ((a + (p + c) : Nat) : Int) - p) (a + c) (by omega) (by omega), rd_cast, rd_cast, wsucc (by omega)]
      refine Ev_pos (by omega) (Ev_pos (by omega) (Ev_pos (by omega) (Ev_pos (by omega) (Ev_pos ?_ hev))))
      rw [e]; congr 1; omega
    · refine ⟨c, ⟨h, fun c' h' => ?_⟩, Ev_succ ?_⟩
      · apply Nat.le_of_not_lt
        intro hlt
        exact e (h'.2 c hlt)
      · simp only [spec_l10Match.l0]
        rw [wnat (x := (a : Int) + ((p + c : Nat) : Int)) (a + (p + c)) (by omega) (by omega), wnat (x := ((a + (p + c) : Nat) : Int) - p) (a + c) (by omega) (by omega), w64 (n := (w.length : Int) - a) (by omega) (by omega), mn_eq, rd_cast, rd_cast]
        refine Ev_pos (by omega) (Ev_pos (by omega) (Ev_pos (by omega) (Ev_pos (by omega) (Ev_neg ?_ (Ev_some (by omega))))))
        rw [show a + (p + c) = a + c + p by omega]
        exact fun x => e x.symm

theorem spec_l10Match_ev (w : List Int) (hb : w.length ≤ 1048576) (a p : Nat) (h : a + p ≤ w.length) :
    ∃ C : Nat, RepMax w p a C ∧ Ev (fun k => spec_l10Match.f k w (a : Int) (p : Int)) ((C + p : Nat) : Int) := by
  unfold spec_l10Match.f
  exact spec_l10Match_loop w hb a p _ 0 ⟨by omega, fun j hj => by omega⟩ rfl

/-! ### spec_HasOverlap -/
theorem spec_HasOverlap_l1 (w : List Int) (hb : w.length ≤ 128) (a : Nat) (ha : a < w.length) (b : Bool) (hn : Ev (fun k => spec_HasOverlap.l0 k w ((a + 1 : Nat) : Int)) b) (d : Nat) : ∀ p : Nat, 1 ≤ p → p ≤ w.length → w.length ≤ a + 2 * p + d →
    ∃ b' : Bool, Ev (fun k => spec_HasOverlap.l1 k w (a : Int) (p : Int)) b' ∧ (b' = true ↔ b = true ∨ ∃ q, p ≤ q ∧ Rep w q a (q + 1)) := by
  induction d with
  | zero =>
    intro p hp hp2 hd
    refine ⟨b, Ev_succ ?_, ?_⟩
    · simp only [spec_HasOverlap.l1]
      rw [wnat (x := 2 * (p : Int)) (2 * p) (by omega) (by omega), w64 (n := (a : Int) + ((2 * p : Nat) : Int)) (by omega) (by omega), wsucc (n := a) (by omega)]
      exact Ev_neg (by omega) hn
    · constructor
      · exact Or.inl
      · rintro (h | ⟨q, h1, h2⟩)
        · exact h
        · have := h2.1; omega
  | succ d ih =>
    intro p hp hp2 hd
    by_cases hend : a + 2 * p < w.length
    · obtain ⟨C, hC, hev⟩ := spec_l10Match_ev w (by omega) a p (by omega)
      have hC1 := hC.1.1
      by_cases hlt : p < C
      · refine ⟨true, Ev_succ ?_, ?_⟩
        · simp only [spec_HasOverlap.l1]
          rw [wnat (x := 2 * (p : Int)) (2 * p) (by omega) (by omega), w64 (n := (a : Int) + ((2 * p : Nat) : Int)) (by omega) (by omega)]
          exact Ev_pos (by omega) (Ev_call _ hev (Ev_pos (by omega) (Ev.now _)))
        · exact ⟨fun _ => Or.inr ⟨p, by omega, hC.1.less (by omega)⟩, fun _ => rfl⟩
      · obtain ⟨b', h1, h2⟩ := ih (p + 1) (by omega) (by omega) (by omega)
        refine ⟨b', Ev_succ ?_, ?_⟩
        · simp only [spec_HasOverlap.l1]
          rw [wnat (x := 2 * (p : Int)) (2 * p) (by omega) (by omega), w64 (n := (a : Int) + ((2 * p : Nat) : Int)) (by omega) (by omega), wsucc (n := p) (by omega)]
          exact Ev_pos (by omega) (Ev_call _ hev (Ev_neg (by omega) h1))
        · rw [h2]
          constructor
          · rintro (h | ⟨q, g1, g2⟩)
            · exact Or.inl h
            · exact Or.inr ⟨q, by omega, g2⟩
          · rintro (h | ⟨q, g1, g2⟩)
            · exact Or.inl h
            · refine Or.inr ⟨q, ?_, g2⟩
              by_cases e : q = p
              · subst e; have := hC.2 _ g2; omega
              · omega
    · refine ⟨b, Ev_succ ?_, ?_⟩
      · simp only [spec_HasOverlap.l1]
        rw [wnat (x := 2 * (p : Int)) (2 * p) (by omega) (by omega), w64 (n := (a : Int) + ((2 * p : Nat) : Int)) (by omega) (by omega), wsucc (n := a) (by omega)]
        exact Ev_neg (by omega) hn
      · constructor
        · exact Or.inl
        · rintro (h | ⟨q, h1, h2⟩)
          · exact h
          · have := h2.1; omega

theorem spec_HasOverlap_l0 (w : List Int) (hb : w.length ≤ 128) (d : Nat) : ∀ a : Nat, w.length - a = d →
    ∃ b : Bool, Ev (fun k => spec_HasOverlap.l0 k w (a : Int)) b ∧ (b = true ↔ ∃ q a', a ≤ a' ∧ 1 ≤ q ∧ Rep w q a' (q + 1)) := by
  induction d with
  | zero =>
    intro a hd
    refine ⟨false, Ev_succ ?_, ?_⟩
    · simp only [spec_HasOverlap.l0]
      refine Ev_neg (by omega) (Ev_succ ?_)
      simp only [spec_HasOverlap.j1]
      exact Ev_neg (by simp) (Ev.now _)
    · constructor
      · intro h; exact absurd h (by simp)
      · rintro ⟨q, a', h1, h2, h3⟩
        have := h3.1; omega
  | succ d ih =>
    intro a hd
    have hlt : (a : Int) < (w.length : Int) := by omega
    have hle : decide ((w.length : Int) ≤ 128) = true := by simp; omega
    obtain ⟨b, h1, h2⟩ := ih (a + 1) (by omega)
    obtain ⟨b', h3, h4⟩ := spec_HasOverlap_l1 w hb a (by omega) b h1 w.length 1 (by omega) (by omega) (by omega)
    refine ⟨b', Ev_succ ?_, ?_⟩
    · simp only [spec_HasOverlap.l0]
      refine Ev_pos hlt (Ev_succ ?_)
      simp only [spec_HasOverlap.j1]
      exact Ev_pos hle h3
    · rw [h4, h2]
      constructor
      · rintro (⟨q, a', g1, g2, g3⟩ | ⟨q, g1, g2⟩)
        · exact ⟨q, a', by omega, g2, g3⟩
        · exact ⟨q, a, by omega, g1, g2⟩
      · rintro ⟨q, a', g1, g2, g3⟩
        by_cases e : a' = a
        · subst e; exact Or.inr ⟨q, g2, g3⟩
        · exact Or.inl ⟨q, a', by omega, g2, g3⟩

theorem spec_HasOverlap_ev (w : List Int) (hb : w.length ≤ 1048576) :
    ∃ b : Bool, Ev (fun k => spec_HasOverlap.f k w) b ∧ (b = true ↔ w.length ≤ 128 ∧ Ovl w) := by
  unfold spec_HasOverlap.f
  by_cases h : w.length ≤ 128
  · obtain ⟨b, h1, h2⟩ := spec_HasOverlap_l0 w h _ 0 rfl
    refine ⟨b, h1, ?_⟩
    rw [h2]
    constructor
    · rintro ⟨q, a, _, g1, g2⟩; exact ⟨h, q, a, g1, g2⟩
    · rintro ⟨_, q, a, g1, g2⟩; exact ⟨q, a, by omega, g1, g2⟩
  · refine ⟨false, Ev_succ ?_, by simp [h]⟩
    simp only [spec_HasOverlap.l0]
    refine Ev_pos (by omega) (Ev_succ ?_)
    simp only [spec_HasOverlap.j1]
    exact Ev_neg (by simp; omega) (Ev.now _)

/-! ### impl_longestRepeat -/
theorem impl_longestRepeat_loop (w : List Int) (hb : w.length ≤ 1048576) (p : Nat) (d : Nat) : ∀ i best count : Nat, RepInv w p i best count → best ≤ i → w.length - (i + p) = d →
    ∃ B : Nat, RepBest w p B ∧ B + p ≤ w.length ∧ Ev (fun k => impl_longestRepeat.l0 k w (p : Int) (best : Int) (count : Int) (i : Int)) ((B + p : Nat) : Int) := by
  induction d with
  | zero =>
    intro i best count h hbi hd
    have h0 := h.1
    refine ⟨best, h.done (by omega), by omega, Ev_succ ?_⟩
    simp only [impl_longestRepeat.l0]
    rw [wnat (x := (i : Int) + p) (i + p) (by omega) (by omega), wnat (x := (best : Int) + p) (best + p) (by omega) (by omega)]
    exact Ev_neg (by omega) (Ev_some rfl)
  | succ d ih =>
    intro i best count h hbi hd
    have h0 := h.1
    have h3 := h.2.2.2.1
    by_cases e : w.getD i 0 = w.getD (i + p) 0
    · obtain ⟨B, hB, hl, hev⟩ := ih (i + 1) _ _ (h.yes (by omega) e) (by omega) (by omega)
      refine ⟨B, hB, hl, Ev_succ ?_⟩
      simp only [impl_longestRepeat.l0]
      rw [wnat (x := (i : Int) + p) (i + p) (by omega) (by omega), wsucc (n := count) (by omega), wsucc (n := i) (by omega), rd_cast, rd_cast, mx_eq]
      rw [show max (best : Int) ((count + 1 : Nat) : Int) = ((max best (count + 1) : Nat) : Int) by omega]
      exact Ev_pos (by omega) (Ev_pos (by omega) (Ev_pos (by omega) (Ev_pos (by omega) (Ev_pos e hev))))
    · obtain ⟨B, hB, hl, hev⟩ := ih (i + 1) _ _ (h.no (by omega) e) (by omega) (by omega)
      refine ⟨B, hB, hl, Ev_succ ?_⟩
      simp only [impl_longestRepeat.l0]
      rw [wnat (x := (i : Int) + p) (i + p) (by omega) (by omega), wsucc (n := i) (by omega), rd_cast, rd_cast]
      exact Ev_pos (by omega) (Ev_pos (by omega) (Ev_pos (by omega) (Ev_pos (by omega) (Ev_neg e hev))))

theorem impl_longestRepeat_ev (w : List Int) (hb : w.length ≤ 1048576) (p : Nat) (h : p ≤ w.length) :
    ∃ B : Nat, RepBest w p B ∧ B + p ≤ w.length ∧ Ev (fun k => impl_longestRepeat.f k w (p : Int)) ((B + p : Nat) : Int) := by
  unfold impl_longestRepeat.f
  exact impl_longestRepeat_loop w hb p _ 0 0 0 (RepInv.start h) (by omega) rfl

/-! ### impl_HasOverlap -/
theorem impl_HasOverlap_loop (w : List Int) (hb : w.length ≤ 1048576) (d : Nat) : ∀ p : Nat, 1 ≤ p → w.length + 1 - p = d →
    ∃ b : Bool, Ev (fun k => impl_HasOverlap.l0 k w (p : Int)) b ∧ (b = true ↔ ∃ q a, p ≤ q ∧ Rep w q a (q + 1)) := by
  induction d with
  | zero =>
    intro p hp hd
    refine ⟨false, Ev_succ ?_, ?_⟩
    · simp only [impl_HasOverlap.l0]
      exact Ev_neg (by omega) (Ev.now _)
    · constructor
      · intro h; exact absurd h (by simp)
      · rintro ⟨q, a, h1, h2⟩
        have := h2.1
        omega
  | succ d ih =>
    intro p hp hd
    obtain ⟨B, hB, hl, hev⟩ := impl_longestRepeat_ev w hb p (by omega)
    by_cases hlt : p < B
    · refine ⟨true, Ev_succ ?_, ?_⟩
      · simp only [impl_HasOverlap.l0]
        rw [wnat (2 * p) (by omega) (by omega)]
        exact Ev_pos (by omega) (Ev_call _ hev (Ev_pos (by omega) (Ev.now _)))
      · obtain ⟨a, ha⟩ := hB.1
        exact ⟨fun _ => ⟨p, a, by omega, ha.less (by omega)⟩, fun _ => rfl⟩
    · obtain ⟨b, h1, h2⟩ := ih (p + 1) (by omega) (by omega)
      refine ⟨b, Ev_succ ?_, ?_⟩
      · simp only [impl_HasOverlap.l0]
        rw [wnat (2 * p) (by omega) (by omega), wsucc (by omega)]
        exact Ev_pos (by omega) (Ev_call _ hev (Ev_neg (by omega) h1))
      · rw [h2]
        constructor
        · rintro ⟨q, a, g1, g2⟩; exact ⟨q, a, by omega, g2⟩
        · rintro ⟨q, a, g1, g2⟩
          refine ⟨q, a, ?_, g2⟩
          by_cases e : q = p
          · subst e; have := hB.2 a _ g2; omega
          · omega

theorem impl_HasOverlap_ev (w : List Int) (hb : w.length ≤ 1048576) :
    ∃ b : Bool, Ev (fun k => impl_HasOverlap.f k w) b ∧ (b = true ↔ w.length ≤ 128 ∧ Ovl w) := by
  unfold impl_HasOverlap.f
  by_cases h : w.length ≤ 128
  · obtain ⟨b, h1, h2⟩ := impl_HasOverlap_loop w hb _ 1 (by omega) rfl
    refine ⟨b, Ev_neg (by omega) h1, ?_⟩
    rw [h2]
    constructor
    · rintro ⟨q, a, g⟩; exact ⟨h, q, a, g⟩
    · rintro ⟨_, q, a, g⟩; exact ⟨q, a, g⟩
  · exact ⟨false, Ev_pos (by omega) (Ev.now _), by simp [h]⟩

theorem FnExactHasOverlap : laws_FnExactHasOverlap.Pure := by
  intro l _ _ _
  refine Ev.rounds ?_
  unfold laws_FnExactHasOverlap.f
  refine Ev_ite (fun _ => Ev.now _) (fun h => ?_)
  have hb : l.length ≤ 1048576 := by omega
  obtain ⟨b, h1, h2⟩ := spec_HasOverlap_ev l hb
  obtain ⟨b', h3, h4⟩ := impl_HasOverlap_ev l hb
  have e : b = b' := by rw [Bool.eq_iff_iff, h2, h4]
  subst e
  refine Ev_call _ (laws_toIntS_ev l (by omega)) ?_
  refine Ev_call _ h1 ?_
  refine Ev_call _ (laws_toIntS_ev l (by omega)) ?_
  refine Ev_call _ h3 ?_
  refine Ev_neg (by simp) ?_
  refine Ev_call _ (laws_toIntS_ev l (by omega)) ?_
  refine Ev_call _ (laws_eqIntS_ev _ _ (by omega)) ?_
  exact Ev_pos (by simp) (Ev.now _)

end Go.Proofs.Ytighhipoodijfaa.Pure
