/- The pure statement of FnExactLetterOf: at every base and every list the law's answer is true. -/
import Derived.Test.YtoaonfacjcienaaPFnExactLetterOfx2
import Derived.Test.YtoaonfacjcienaaG0
import Derived.Test.YtoaonfacjcienaaGSized
import Derived.Test.YtoaonfacjcienaaG4
namespace Go.Proofs.Ytoaonfacjcienaa.Pure
open Go.RowKit Go.Proofs.Ytoaonfacjcienaa.PFnExactLetterOf Go.Proofs.YtoaonfacjcienaaW.PrintWords Go.Proofs.YtoaonfacjcienaaW.PrintLast Go.Proofs.YtoaonfacjcienaaW.PrintMore Go.Proofs.Ytoaonfacjcienaa.G
set_option linter.unusedVariables false
set_option linter.unusedSimpArgs false

/-! ### laws_toIntS -/
theorem laws_toIntS_loop (l : List Int) (hb : l.length ≤ 17592186044416) (d : Nat) : ∀ (n : Nat) (acc : List Int), acc.length = l.length → n ≤ l.length → l.length - n = d → acc.take n = l.take n →
    Ev (fun k => laws_toIntS.l0 k l acc (n : Int)) l := by
  induction d with
  | zero =>
    intro n acc h0 h1 h2 h3
    refine Ev_succ ?_
    simp only [laws_toIntS.l0]
    refine Ev_neg (by omega) (Ev_some ?_)
    have : n = l.length := by omega
    subst this
    rw [List.take_length, ← h0, List.take_length] at h3
    exact h3
  | succ d ih =>
    intro n acc h0 h1 h2 h3
    refine Ev_succ ?_
    simp only [laws_toIntS.l0]
    refine Ev_pos (by omega) (Ev_pos (by omega) (Ev_pos (by omega) ?_))
    rw [rd_cast, wsucc (by omega), Int.toNat_natCast]
    refine ih (n + 1) _ (by simpa using h0) (by omega) (by omega) ?_
    rw [set_take_succ acc n _ (by omega), take_succ_getD l n 0 (by omega), h3]

theorem laws_toIntS_ev (l : List Int) (hb : l.length ≤ 17592186044416) : Ev (fun k => laws_toIntS.f k l) l := by
  unfold laws_toIntS.f
  refine Ev_pos (by omega) (Ev_pos (by omega) ?_)
  exact laws_toIntS_loop l hb _ 0 _ (by simp) (by omega) rfl (by simp)

/-! ### laws_eqIntS -/
theorem laws_eqIntS_loop (a b : List Int) (hl : a.length = b.length) (hb : a.length ≤ 17592186044416) (d : Nat) : ∀ n : Nat, n ≤ a.length → a.length - n = d → a.take n = b.take n →
    Ev (fun k => laws_eqIntS.l0 k a b (n : Int)) (decide (a = b)) := by
  induction d with
  | zero =>
    intro n h1 h2 h3
    refine Ev_succ ?_
    simp only [laws_eqIntS.l0]
    refine Ev_neg (by omega) (Ev_some ?_)
    have : n = a.length := by omega
    subst this
    rw [List.take_length, hl, List.take_length] at h3
    simp [h3]
  | succ d ih =>
    intro n h1 h2 h3
    refine Ev_succ ?_
    simp only [laws_eqIntS.l0]
    refine Ev_pos (by omega) (Ev_pos (by omega) (Ev_pos (by omega) ?_))
    rw [rd_cast, rd_cast, wsucc (by omega)]
    refine Ev_ite (fun h => ?_) (fun h => Ev_some ?_)
    · refine ih (n + 1) (by omega) (by omega) ?_
      rw [take_succ_getD a n 0 (by omega), take_succ_getD b n 0 (by omega), h3, h]
    · symm
      rw [decide_eq_false_iff_not]
      intro e
      exact h (by rw [e])

theorem laws_eqIntS_ev (a b : List Int) (hb : a.length ≤ 17592186044416) : Ev (fun k => laws_eqIntS.f k a b) (decide (a = b)) := by
  unfold laws_eqIntS.f
  refine Ev_ite (fun h => ?_) (fun h => Ev_some ?_)
  · exact laws_eqIntS_loop a b (by omega) hb _ 0 (by omega) rfl (by simp)
  · symm
    rw [decide_eq_false_iff_not]
    intro e
    exact h (by rw [e])

/-! ### spec_l1In -/
theorem spec_l1In_eq (x a b : Int) : spec_l1In.f x a b = some (decide (a ≤ x ∧ x ≤ b)) := by
  unfold spec_l1In.f
  by_cases h : x ≥ a
  · rw [if_pos h]; simp [h]
  · rw [if_neg h]; congr 1; symm; rw [decide_eq_false_iff_not]; omega

/-! ### spec_AreDigits -/
theorem spec_AreDigits_loop (w : List Int) (b : Int) (hb : w.length ≤ 1048576) (d : Nat) : ∀ n : Nat, n + d = w.length → (∀ i, i < n → 0 ≤ w.getD i 0 ∧ w.getD i 0 < b) →
    ∃ r : Bool, Ev (fun k => spec_AreDigits.l0 k w b (n : Int)) r ∧ (r = true ↔ Digs b w) := by
  induction d with
  | zero =>
    intro n h h2
    have hn : n = w.length := by omega
    subst hn
    refine ⟨decide ((2 ≤ b ∧ b ≤ 4) ∧ (w.length : Int) ≤ 16), Ev_succ ?_, ?_⟩
    · simp only [spec_AreDigits.l0, spec_l1In_eq, Option.bind_some]
      refine Ev_neg (by omega) ?_
      by_cases c : 2 ≤ b ∧ b ≤ 4
      · refine Ev_pos (decide_eq_true c) (Ev_some ?_)
        rw [Bool.eq_iff_iff, decide_eq_true_eq, decide_eq_true_eq]
        exact ⟨fun h => ⟨c, h⟩, fun h => h.2⟩
      · refine Ev_neg (by rw [decide_eq_true_eq]; exact c) (Ev_some ?_)
        symm
        rw [decide_eq_false_iff_not]
        exact fun h => c h.1
    · rw [decide_eq_true_eq]
      exact ⟨fun ⟨g1, g2⟩ => ⟨g1.1, g1.2, by omega, h2⟩, fun ⟨g1, g2, g3, _⟩ => ⟨⟨g1, g2⟩, by omega⟩⟩
  | succ d ih =>
    intro n h h2
    by_cases c : 0 ≤ w.getD n 0 ∧ w.getD n 0 < b
    · obtain ⟨r, h3, h4⟩ := ih (n + 1) (by omega) (fun i hi => by
        by_cases e : i = n
        · subst e; exact c
        · exact h2 i (by omega))
      refine ⟨r, Ev_succ ?_, h4⟩
      simp only [spec_AreDigits.l0]
      rw [rd_cast, wsucc (n := n) (by omega)]
      exact Ev_pos (by omega) (Ev_pos (by omega) (Ev_neg (by omega) (Ev_neg (by omega) h3)))
    · refine ⟨false, Ev_succ ?_, ⟨fun h => absurd h (by simp), fun h => absurd (h.2.2.2 n (by omega)) c⟩⟩
      simp only [spec_AreDigits.l0]
      rw [rd_cast]
      refine Ev_pos (by omega) (Ev_pos (by omega) ?_)
      by_cases c2 : w.getD n 0 < 0
      · exact Ev_pos c2 (Ev.now _)
      · exact Ev_neg c2 (Ev_pos (by omega) (Ev.now _))

theorem spec_AreDigits_ev (w : List Int) (b : Int) (hb : w.length ≤ 1048576) : ∃ r : Bool, Ev (fun k => spec_AreDigits.f k w b) r ∧ (r = true ↔ Digs b w) := by
  unfold spec_AreDigits.f
  exact spec_AreDigits_loop w b hb _ 0 (Nat.zero_add _) (fun i hi => by omega)

/-! ### spec_ValueOf -/
theorem spec_ValueOf_loop (w : List Int) (b : Int) (hb : w.length ≤ 1048576) (d : Nat) : ∀ (n : Nat) (acc : Int), n + d = w.length →
    Ev (fun k => spec_ValueOf.l0 k w b acc (n : Int)) (val b acc (w.drop n)) := by
  induction d with
  | zero =>
    intro n acc h
    refine Ev_succ ?_
    simp only [spec_ValueOf.l0]
    refine Ev_neg (by omega) (Ev_some ?_)
    rw [List.drop_eq_nil_of_le (by omega)]; rfl
  | succ d ih =>
    intro n acc h
    refine Ev_succ ?_
    simp only [spec_ValueOf.l0]
    rw [rd_cast, wsucc (n := n) (by omega), drop_cons w n 0 (by omega)]
    exact Ev_pos (by omega) (Ev_pos (by omega) (ih (n + 1) _ (by omega)))

theorem spec_ValueOf_ev (w : List Int) (b : Int) (hb : w.length ≤ 1048576) : ∃ r : Int, Ev (fun k => spec_ValueOf.f k w b) r ∧ (Digs b w → r = val b 0 w) ∧ (¬ Digs b w → r = -1) := by
  unfold spec_ValueOf.f
  obtain ⟨r, h1, h2⟩ := spec_AreDigits_ev w b hb
  cases r with
  | true =>
    exact ⟨val b 0 w, Ev_call _ h1 (Ev_pos rfl (spec_ValueOf_loop w b hb _ 0 0 (Nat.zero_add _))), fun _ => rfl, fun h => absurd (h2.1 rfl) h⟩
  | false =>
    exact ⟨-1, Ev_call _ h1 (Ev_neg (by simp) (Ev.now _)), fun h => absurd (h2.2 h) (by simp), fun _ => rfl⟩

/-! ### impl_AreDigits -/
theorem impl_isBase_eq (b : Int) : impl_isBase.f b = some (decide (2 ≤ b ∧ b ≤ 4)) := by
  unfold impl_isBase.f
  by_cases h : b ≥ 2
  · rw [if_pos h]; simp [h]
  · rw [if_neg h]; congr 1; symm; rw [decide_eq_false_iff_not]; omega

theorem impl_AreDigits_loop (w : List Int) (b : Int) (hb : w.length ≤ 16) (hb2 : 2 ≤ b ∧ b ≤ 4) (d : Nat) : ∀ n : Nat, n + d = w.length → (∀ i, i < n → 0 ≤ w.getD i 0 ∧ w.getD i 0 < b) →
    ∃ r : Bool, Ev (fun k => impl_AreDigits.l0 k b w (w.length : Int) (n : Int)) r ∧ (r = true ↔ Digs b w) := by
  induction d with
  | zero =>
    intro n h h2
    have hn : n = w.length := by omega
    subst hn
    refine ⟨true, Ev_succ ?_, ⟨fun _ => ⟨hb2.1, hb2.2, hb, h2⟩, fun _ => rfl⟩⟩
    simp only [impl_AreDigits.l0]
    exact Ev_neg (by omega) (Ev.now _)
  | succ d ih =>
    intro n h h2
    by_cases c : 0 ≤ w.getD n 0 ∧ w.getD n 0 < b
    · obtain ⟨r, h3, h4⟩ := ih (n + 1) (by omega) (fun i hi => by
        by_cases e : i = n
        · subst e; exact c
        · exact h2 i (by omega))
      refine ⟨r, Ev_succ ?_, h4⟩
      simp only [impl_AreDigits.l0]
      rw [rd_cast, wsucc (n := n) (by omega)]
      exact Ev_pos (by omega) (Ev_pos (by omega) (Ev_pos (by omega) (Ev_neg (by omega) (Ev_neg (by omega) h3))))
    · refine ⟨false, Ev_succ ?_, ⟨fun h => absurd h (by simp), fun h => absurd (h.2.2.2 n (by omega)) c⟩⟩
      simp only [impl_AreDigits.l0]
      rw [rd_cast]
      refine Ev_pos (by omega) (Ev_pos (by omega) (Ev_pos (by omega) ?_))
      by_cases c2 : w.getD n 0 < 0
      · exact Ev_pos c2 (Ev.now _)
      · exact Ev_neg c2 (Ev_pos (by omega) (Ev.now _))

theorem impl_AreDigits_ev (w : List Int) (b : Int) : ∃ r : Bool, Ev (fun k => impl_AreDigits.f k w b) r ∧ (r = true ↔ Digs b w) := by
  unfold impl_AreDigits.f
  simp only [impl_isBase_eq, Option.bind_some]
  by_cases c : 2 ≤ b ∧ b ≤ 4
  · by_cases c2 : w.length ≤ 16
    · obtain ⟨r, h1, h2⟩ := impl_AreDigits_loop w b c2 c _ 0 (Nat.zero_add _) (fun i hi => by omega)
      refine ⟨r, Ev_pos (decide_eq_true c) (Ev_succ ?_), h2⟩
      simp only [impl_AreDigits.j0]
      exact Ev_neg (by simp; omega) h1
    · refine ⟨false, Ev_pos (decide_eq_true c) (Ev_succ ?_), ⟨fun h => absurd h (by simp), fun h => absurd h.2.2.1 c2⟩⟩
      simp only [impl_AreDigits.j0]
      exact Ev_pos (by simp; omega) (Ev.now _)
  · refine ⟨false, Ev_neg (by rw [decide_eq_true_eq]; exact c) (Ev_succ ?_), ⟨fun h => absurd h (by simp), fun h => absurd ⟨h.1, h.2.1⟩ c⟩⟩
    simp only [impl_AreDigits.j0]
    exact Ev_pos (by simp) (Ev.now _)

/-! ### impl_ValueOf -/
theorem impl_ValueOf_loop (w : List Int) (b : Int) (hb : w.length ≤ 1048576) (d : Nat) : ∀ (n : Nat) (acc : Int), n + d = w.length →
    Ev (fun k => impl_ValueOf.l0 k b acc w (w.length : Int) (n : Int)) (val b acc (w.drop n)) := by
  induction d with
  | zero =>
    intro n acc h
    refine Ev_succ ?_
    simp only [impl_ValueOf.l0]
    refine Ev_neg (by omega) (Ev_some ?_)
    rw [List.drop_eq_nil_of_le (by omega)]; rfl
  | succ d ih =>
    intro n acc h
    refine Ev_succ ?_
    simp only [impl_ValueOf.l0]
    rw [rd_cast, wsucc (n := n) (by omega), drop_cons w n 0 (by omega)]
    exact Ev_pos (by omega) (Ev_pos (by omega) (Ev_pos (by omega) (ih (n + 1) _ (by omega))))

theorem impl_ValueOf_ev (w : List Int) (b : Int) (hb : w.length ≤ 1048576) : ∃ r : Int, Ev (fun k => impl_ValueOf.f k w b) r ∧ (Digs b w → r = val b 0 w) ∧ (¬ Digs b w → r = -1) := by
  unfold impl_ValueOf.f
  obtain ⟨r, h1, h2⟩ := impl_AreDigits_ev w b
  cases r with
  | true =>
    exact ⟨val b 0 w, Ev_call _ h1 (Ev_pos rfl (impl_ValueOf_loop w b hb _ 0 0 (Nat.zero_add _))), fun _ => rfl, fun h => absurd (h2.1 rfl) h⟩
  | false =>
    exact ⟨-1, Ev_call _ h1 (Ev_neg (by simp) (Ev.now _)), fun h => absurd (h2.2 h) (by simp), fun _ => rfl⟩

theorem spec_LetterOf_ev (w : List Int) (b : Int) (hb : w.length ≤ 1048576) : ∃ r : Int, Ev (fun k => spec_LetterOf.f k b w) r ∧ (Digs b w ∧ w.length ≤ 3 → r = val b 0 w) ∧ (¬ (Digs b w ∧ w.length ≤ 3) → r = -1) := by
  unfold spec_LetterOf.f
  obtain ⟨r, h1, h2⟩ := spec_AreDigits_ev w b hb
  obtain ⟨v, h3, h4, h5⟩ := spec_ValueOf_ev w b hb
  cases r with
  | true =>
    by_cases c : w.length ≤ 3
    · refine ⟨v, Ev_call _ h1 (Ev_pos rfl (Ev_neg (by omega) (Ev_call _ h3 (Ev.now _)))), fun h => h4 h.1, fun h => absurd ⟨h2.1 rfl, c⟩ h⟩
    · refine ⟨-1, Ev_call _ h1 (Ev_pos rfl (Ev_pos (by omega) (Ev.now _))), fun h => absurd h.2 c, fun _ => rfl⟩
  | false =>
    refine ⟨-1, Ev_call _ h1 (Ev_neg (by simp) (Ev.now _)), fun h => absurd (h2.2 h.1) (by simp), fun _ => rfl⟩

theorem impl_LetterOf_ev (w : List Int) (b : Int) (hb : w.length ≤ 1048576) : ∃ r : Int, Ev (fun k => impl_LetterOf.f k b w) r ∧ (Digs b w ∧ w.length ≤ 3 → r = val b 0 w) ∧ (¬ (Digs b w ∧ w.length ≤ 3) → r = -1) := by
  unfold impl_LetterOf.f
  obtain ⟨v, h3, h4, h5⟩ := impl_ValueOf_ev w b hb
  by_cases c : w.length ≤ 3
  · refine ⟨v, Ev_neg (by omega) (Ev_call _ h3 (Ev.now _)), fun h => h4 h.1, fun h => h5 (fun g => h ⟨g, c⟩)⟩
  · refine ⟨-1, Ev_pos (by omega) (Ev.now _), fun h => absurd h.2 c, fun _ => rfl⟩

theorem FnExactLetterOf : laws_FnExactLetterOf.Pure := by
  intro b l _ _ _ _
  refine Ev.rounds ?_
  unfold laws_FnExactLetterOf.f
  refine Ev_ite (fun _ => Ev.now _) (fun h => ?_)
  have hb : l.length ≤ 1048576 := by omega
  have t1 := laws_toIntS_ev l (by omega)
  have t2 := laws_eqIntS_ev l l (by omega)
  obtain ⟨r, h1, h2, h3⟩ := spec_LetterOf_ev l b hb
  obtain ⟨r', h4, h5, h6⟩ := impl_LetterOf_ev l b hb
  have e : r' = r := by
    by_cases c : Digs b l ∧ l.length ≤ 3
    · rw [h2 c, h5 c]
    · rw [h3 c, h6 c]
  exact Ev_call _ t1 (Ev_call _ h1 (Ev_call _ t1 (Ev_call _ h4 (Ev_pos e (Ev_call _ t1 (Ev_call _ t2 (Ev_pos (by simp) (Ev.now _))))))))

end Go.Proofs.Ytoaonfacjcienaa.Pure
