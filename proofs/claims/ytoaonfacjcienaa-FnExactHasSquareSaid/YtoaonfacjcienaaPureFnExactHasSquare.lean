/- The pure statement of FnExactHasSquare: at every list the law's answer is true. -/
import Derived.Test.YtoaonfacjcienaaPFnExactHasSquarex2
import Derived.Test.YtoaonfacjcienaaG0
import Derived.Test.YtoaonfacjcienaaGSized
import Derived.Test.YtoaonfacjcienaaG2
namespace Go.Proofs.Ytoaonfacjcienaa.Pure
open Go.RowKit Go.Proofs.Ytoaonfacjcienaa.PFnExactHasSquare Go.Proofs.YtoaonfacjcienaaW.PrintWords Go.Proofs.YtoaonfacjcienaaW.PrintLast Go.Proofs.YtoaonfacjcienaaW.PrintMore Go.Proofs.Ytoaonfacjcienaa.G
set_option linter.unusedVariables false
set_option linter.unusedSimpArgs false

/-! ### laws_toIntS -/
theorem laws_toIntS_loop (l : List Int) (hb : l.length ≤ 17592186044416) (d : Nat) : ∀ (n : Nat) (acc : List Int), acc.length = l.length → n ≤ l.length → l.length - n = d → acc.take n = l.take n →
    Ev (fun k => laws_toIntS.l0 k l acc (n : Int)) l := by
  induction d with
  | zero =>
    intro n acc h0 h1 h2 h3
    refine Ev_succ ?_
    simp only [laws_toIntS.l0]
    refine Ev_neg (by omega) (Ev_some ?_)
    have : n = l.length := by omega
    subst this
    rw [List.take_length, ← h0, List.take_length] at h3
    exact h3
  | succ d ih =>
    intro n acc h0 h1 h2 h3
    refine Ev_succ ?_
    simp only [laws_toIntS.l0]
    refine Ev_pos (by omega) (Ev_pos (by omega) (Ev_pos (by omega) ?_))
    rw [rd_cast, wsucc (by omega), Int.toNat_natCast]
    refine ih (n + 1) _ (by simpa using h0) (by omega) (by omega) ?_
    rw [set_take_succ acc n _ (by omega), take_succ_getD l n 0 (by omega), h3]

theorem laws_toIntS_ev (l : List Int) (hb : l.length ≤ 17592186044416) : Ev (fun k => laws_toIntS.f k l) l := by
  unfold laws_toIntS.f
  refine Ev_pos (by omega) (Ev_pos (by omega) ?_)
  exact laws_toIntS_loop l hb _ 0 _ (by simp) (by omega) rfl (by simp)

/-! ### laws_eqIntS -/
theorem laws_eqIntS_loop (a b : List Int) (hl : a.length = b.length) (hb : a.length ≤ 17592186044416) (d : Nat) : ∀ n : Nat, n ≤ a.length → a.length - n = d → a.take n = b.take n →
    Ev (fun k => laws_eqIntS.l0 k a b (n : Int)) (decide (a = b)) := by
  induction d with
  | zero =>
    intro n h1 h2 h3
    refine Ev_succ ?_
    simp only [laws_eqIntS.l0]
    refine Ev_neg (by omega) (Ev_some ?_)
    have : n = a.length := by omega
    subst this
    rw [List.take_length, hl, List.take_length] at h3
    simp [h3]
  | succ d ih =>
    intro n h1 h2 h3
    refine Ev_succ ?_
    simp only [laws_eqIntS.l0]
    refine Ev_pos (by omega) (Ev_pos (by omega) (Ev_pos (by omega) ?_))
    rw [rd_cast, rd_cast, wsucc (by omega)]
    refine Ev_ite (fun h => ?_) (fun h => Ev_some ?_)
    · refine ih (n + 1) (by omega) (by omega) ?_
      rw [take_succ_getD a n 0 (by omega), take_succ_getD b n 0 (by omega), h3, h]
    · symm
      rw [decide_eq_false_iff_not]
      intro e
      exact h (by rw [e])

theorem laws_eqIntS_ev (a b : List Int) (hb : a.length ≤ 17592186044416) : Ev (fun k => laws_eqIntS.f k a b) (decide (a = b)) := by
  unfold laws_eqIntS.f
  refine Ev_ite (fun h => ?_) (fun h => Ev_some ?_)
  · exact laws_eqIntS_loop a b (by omega) hb _ 0 (by omega) rfl (by simp)
  · symm
    rw [decide_eq_false_iff_not]
    intro e
    exact h (by rw [e])

/-! ### spec_l10Match -/
theorem spec_l10Match_loop (w : List Int) (hb : w.length ≤ 1048576) (a p : Nat) (d : Nat) : ∀ c : Nat, Rep w p a c → w.length - (a + p + c) = d →
    ∃ C : Nat, RepMax w p a C ∧ Ev (fun k => spec_l10Match.l0 k w (a : Int) (p : Int) ((p + c : Nat) : Int)) ((C + p : Nat) : Int) := by
  induction d with
  | zero =>
    intro c h hd
    have h1 := h.1
    refine ⟨c, ⟨h, fun c' h' => by have := h'.1; omega⟩, Ev_succ ?_⟩
    simp only [spec_l10Match.l0]
    rw [wnat (x := (a : Int) + ((p + c : Nat) : Int)) (a + (p + c)) (by omega) (by omega), w64 (n := (w.length : Int) - a) (by omega) (by omega), mn_eq]
    exact Ev_neg (by omega) (Ev_some (by omega))
  | succ d ih =>
    intro c h hd
    have h1 := h.1
    by_cases e : w.getD (a + c) 0 = w.getD (a + c + p) 0
    · obtain ⟨C, hC, hev⟩ := ih (c + 1) (h.more (by omega) e) (by omega)
      refine ⟨C, hC, Ev_succ ?_⟩
      simp only [spec_l10Match.l0]
      rw [wnat (x := (a : Int) + ((p + c : Nat) : Int)) (a + (p + c)) (by omega) (by omega), wnat (x := ((a + (p + c) : Nat) : Int) - p) (a + c) (by omega) (by omega), rd_cast, rd_cast, wsucc (by omega)]
      refine Ev_pos (by omega) (Ev_pos (by omega) (Ev_pos (by omega) (Ev_pos (by omega) (Ev_pos ?_ hev))))
      rw [e]; congr 1; omega
    · refine ⟨c, ⟨h, fun c' h' => ?_⟩, Ev_succ ?_⟩
      · apply Nat.le_of_not_lt
        intro hlt
        exact e (h'.2 c hlt)
      · simp only [spec_l10Match.l0]
        rw [wnat (x := (a : Int) + ((p + c : Nat) : Int)) (a + (p + c)) (by omega) (by omega), wnat (x := ((a + (p + c) : Nat) : Int) - p) (a + c) (by omega) (by omega), w64 (n := (w.length : Int) - a) (by omega) (by omega), mn_eq, rd_cast, rd_cast]
        refine Ev_pos (by omega) (Ev_pos (by omega) (Ev_pos (by omega) (Ev_pos (by omega) (Ev_neg ?_ (Ev_some (by omega))))))
        rw [show a + (p + c) = a + c + p by omega]
        exact fun x => e x.symm

theorem spec_l10Match_ev (w : List Int) (hb : w.length ≤ 1048576) (a p : Nat) (h : a + p ≤ w.length) :
    ∃ C : Nat, RepMax w p a C ∧ Ev (fun k => spec_l10Match.f k w (a : Int) (p : Int)) ((C + p : Nat) : Int) := by
  unfold spec_l10Match.f
  exact spec_l10Match_loop w hb a p _ 0 ⟨by omega, fun j hj => by omega⟩ rfl

/-! ### spec_l1In -/
theorem spec_l1In_eq (x a b : Int) : spec_l1In.f x a b = some (decide (a ≤ x ∧ x ≤ b)) := by
  unfold spec_l1In.f
  by_cases h : x ≥ a
  · rw [if_pos h]; simp [h]
  · rw [if_neg h]; congr 1; symm; rw [decide_eq_false_iff_not]; omega

/-! ### spec_HasPower -/
theorem pw_le' {c b p den : Int} (h : c ≤ b) (hd : 0 ≤ den) : (c + p) * den ≤ (b + p) * den :=
  Int.mul_le_mul_of_nonneg_right (by omega) hd

theorem spec_HasPower_l1 (w : List Int) (hb : w.length ≤ 128) (num den : Int) (hn : 2 ≤ num) (hn2 : num ≤ 20) (hd1 : 1 ≤ den) (hd2 : den < num) (a : Nat) (ha : a < w.length) (b : Bool) (hnx : Ev (fun k => spec_HasPower.l0 k w num den ((a + 1 : Nat) : Int)) b) (d : Nat) : ∀ p : Nat, 1 ≤ p → p ≤ w.length → w.length - (a + p) = d →
    ∃ b' : Bool, Ev (fun k => spec_HasPower.l1 k w num den (a : Int) (p : Int)) b' ∧ (b' = true ↔ b = true ∨ ∃ q c : Nat, p ≤ q ∧ Rep w q a c ∧ (q : Int) * num ≤ ((c : Int) + q) * den) := by
  induction d with
  | zero =>
    intro p hp hp2 hd
    refine ⟨b, Ev_succ ?_, ?_⟩
    · simp only [spec_HasPower.l1]
      rw [w64 (n := (a : Int) + p) (by omega) (by omega), wsucc (n := a) (by omega)]
      exact Ev_neg (by omega) hnx
    · constructor
      · exact Or.inl
      · rintro (h | ⟨q, c, h1, h2, h3⟩)
        · exact h
        · have h4 := h2.1
          have hc : c = 0 := by omega
          subst hc
          have : (q : Int) * (den + 1) ≤ (q : Int) * num := Int.mul_le_mul_of_nonneg_left (by omega) (by omega)
          have e1 : (q : Int) * (den + 1) = (q : Int) * den + q := by rw [Int.mul_add, Int.mul_one]
          have e2 : (((0 : Nat) : Int) + (q : Int)) * den = (q : Int) * den := by simp
          omega
  | succ d ih =>
    intro p hp hp2 hd
    obtain ⟨C, hC, hev⟩ := spec_l10Match_ev w (by omega) a p (by omega)
    have hC1 := hC.1.1
    have m1 := mul_bd (a := ((C + p : Nat) : Int)) (b := den) (A := 128) (B := 20) (by omega) (by omega) (by omega) (by omega)
    have m2 := mul_bd (a := (p : Int)) (b := num) (A := 128) (B := 20) (by omega) (by omega) (by omega) (by omega)
    have m4 : (((C + p : Nat) : Int)) * den = ((C : Int) + p) * den := by rw [Int.natCast_add]
    by_cases hlt : (p : Int) * num ≤ ((C : Int) + p) * den
    · refine ⟨true, Ev_succ ?_, ?_⟩
      · simp only [spec_HasPower.l1]
        rw [w64 (n := (a : Int) + p) (by omega) (by omega)]
        refine Ev_pos (by omega) (Ev_call _ hev ?_)
        rw [w64 (n := ((C + p : Nat) : Int) * den) (by omega) (by omega), w64 (n := (p : Int) * num) (by omega) (by omega)]
        exact Ev_pos (by omega) (Ev.now _)
      · exact ⟨fun _ => Or.inr ⟨p, C, by omega, hC.1, hlt⟩, fun _ => rfl⟩
    · obtain ⟨b', h1, h2⟩ := ih (p + 1) (by omega) (by omega) (by omega)
      refine ⟨b', Ev_succ ?_, ?_⟩
      · simp only [spec_HasPower.l1]
        rw [w64 (n := (a : Int) + p) (by omega) (by omega)]
        refine Ev_pos (by omega) (Ev_call _ hev ?_)
        rw [w64 (n := ((C + p : Nat) : Int) * den) (by omega) (by omega), w64 (n := (p : Int) * num) (by omega) (by omega), wsucc (n := p) (by omega)]
        exact Ev_neg (by omega) h1
      · rw [h2]
        constructor
        · rintro (h | ⟨q, c, g1, g2, g3⟩)
          · exact Or.inl h
          · exact Or.inr ⟨q, c, by omega, g2, g3⟩
        · rintro (h | ⟨q, c, g1, g2, g3⟩)
          · exact Or.inl h
          · refine Or.inr ⟨q, c, ?_, g2, g3⟩
            by_cases e : q = p
            · subst e
              have g4 := hC.2 _ g2
              have := pw_le' (c := (c : Int)) (b := (C : Int)) (p := (q : Int)) (den := den) (by omega) (by omega)
              omega
            · omega

theorem spec_HasPower_l0 (w : List Int) (hb : w.length ≤ 128) (num den : Int) (hn : 2 ≤ num) (hn2 : num ≤ 20) (hd1 : 1 ≤ den) (hd2 : den < num) (d : Nat) : ∀ a : Nat, w.length - a = d →
    ∃ b : Bool, Ev (fun k => spec_HasPower.l0 k w num den (a : Int)) b ∧ (b = true ↔ ∃ q a' c : Nat, a ≤ a' ∧ 1 ≤ q ∧ Rep w q a' c ∧ (q : Int) * num ≤ ((c : Int) + q) * den) := by
  induction d with
  | zero =>
    intro a hd
    refine ⟨false, Ev_succ ?_, ?_⟩
    · simp only [spec_HasPower.l0]
      refine Ev_neg (by omega) (Ev_succ ?_)
      simp only [spec_HasPower.j2]
      exact Ev_neg (by simp) (Ev.now _)
    · constructor
      · intro h; exact absurd h (by simp)
      · rintro ⟨q, a', c, h1, h2, h3, _⟩
        have := h3.1; omega
  | succ d ih =>
    intro a hd
    have hlt : (a : Int) < (w.length : Int) := by omega
    have hle : decide ((w.length : Int) ≤ 128) = true := by simp; omega
    obtain ⟨b, h1, h2⟩ := ih (a + 1) (by omega)
    obtain ⟨b', h3, h4⟩ := spec_HasPower_l1 w hb num den hn hn2 hd1 hd2 a (by omega) b h1 _ 1 (by omega) (by omega) rfl
    refine ⟨b', Ev_succ ?_, ?_⟩
    · simp only [spec_HasPower.l0]
      refine Ev_pos hlt (Ev_succ ?_)
      simp only [spec_HasPower.j2]
      exact Ev_pos hle h3
    · rw [h4, h2]
      constructor
      · rintro (⟨q, a', c, g1, g2, g3⟩ | ⟨q, c, g1, g2⟩)
        · exact ⟨q, a', c, by omega, g2, g3⟩
        · exact ⟨q, a, c, by omega, g1, g2⟩
      · rintro ⟨q, a', c, g1, g2, g3⟩
        by_cases e : a' = a
        · subst e; exact Or.inr ⟨q, c, g2, g3⟩
        · exact Or.inl ⟨q, a', c, by omega, g2, g3⟩

theorem spec_HasPower_ev (w : List Int) (hb : w.length ≤ 1048576) (num den : Int) (hw : -9223372036854775808 ≤ num) (hw2 : num ≤ 9223372036854775807) :
    ∃ b : Bool, Ev (fun k => spec_HasPower.f k w num den) b ∧ (b = true ↔ w.length ≤ 128 ∧ 2 ≤ num ∧ num ≤ 20 ∧ 1 ≤ den ∧ den < num ∧ Pw w num den) := by
  unfold spec_HasPower.f
  simp only [spec_l1In_eq, Option.bind_some]
  by_cases h1 : 2 ≤ num ∧ num ≤ 20
  · rw [w64 (n := num - 1) (by omega) (by omega)]
    by_cases h2 : 1 ≤ den ∧ den ≤ num - 1
    · by_cases h : w.length ≤ 128
      · obtain ⟨b, g1, g2⟩ := spec_HasPower_l0 w h num den h1.1 h1.2 h2.1 (by omega) _ 0 rfl
        refine ⟨b, Ev_pos (by simpa using h1) (Ev_succ ?_), ?_⟩
        · simp only [spec_HasPower.j0]
          exact Ev_neg (by simp; omega) g1
        · rw [g2]
          constructor
          · rintro ⟨q, a, c, _, e1, e2, e3⟩; exact ⟨h, h1.1, h1.2, h2.1, by omega, q, a, c, e1, e2, e3⟩
          · rintro ⟨_, _, _, _, _, q, a, c, e1, e2, e3⟩; exact ⟨q, a, c, by omega, e1, e2, e3⟩
      · refine ⟨false, Ev_pos (by simpa using h1) (Ev_succ ?_), by simp [h]⟩
        simp only [spec_HasPower.j0]
        refine Ev_neg (by simp; omega) (Ev_succ ?_)
        simp only [spec_HasPower.l0]
        refine Ev_pos (by omega) (Ev_succ ?_)
        simp only [spec_HasPower.j2]
        exact Ev_neg (by simp; omega) (Ev.now _)
    · refine ⟨false, Ev_pos (by simpa using h1) (Ev_succ ?_), ?_⟩
      · simp only [spec_HasPower.j0]
        exact Ev_pos (by simp; omega) (Ev.now _)
      · constructor
        · intro h; exact absurd h (by simp)
        · intro g; omega
  · refine ⟨false, Ev_neg (by simpa using h1) (Ev_succ ?_), ?_⟩
    · simp only [spec_HasPower.j0]
      exact Ev_pos (by simp) (Ev.now _)
    · constructor
      · intro h; exact absurd h (by simp)
      · intro g; omega

/-! ### spec_HasSquare -/
theorem spec_HasSquare_ev (w : List Int) (hb : w.length ≤ 1048576) :
    ∃ b : Bool, Ev (fun k => spec_HasSquare.f k w) b ∧ (b = true ↔ w.length ≤ 128 ∧ Pw w 2 1) := by
  unfold spec_HasSquare.f
  obtain ⟨b, h1, h2⟩ := spec_HasPower_ev w hb 2 1 (by omega) (by omega)
  refine ⟨b, Ev_call _ h1 (Ev.now _), ?_⟩
  rw [h2]
  constructor
  · rintro ⟨g1, _, _, _, _, g2⟩; exact ⟨g1, g2⟩
  · rintro ⟨g1, g2⟩; exact ⟨g1, by omega, by omega, by omega, by omega, g2⟩

/-! ### impl_longestRepeat -/
theorem impl_longestRepeat_loop (w : List Int) (hb : w.length ≤ 1048576) (p : Nat) (d : Nat) : ∀ i best count : Nat, RepInv w p i best count → best ≤ i → w.length - (i + p) = d →
    ∃ B : Nat, RepBest w p B ∧ B + p ≤ w.length ∧ Ev (fun k => impl_longestRepeat.l0 k w (p : Int) (best : Int) (count : Int) (i : Int)) ((B + p : Nat) : Int) := by
  induction d with
  | zero =>
    intro i best count h hbi hd
    have h0 := h.1
    refine ⟨best, h.done (by omega), by omega, Ev_succ ?_⟩
    simp only [impl_longestRepeat.l0]
    rw [wnat (x := (i : Int) + p) (i + p) (by omega) (by omega), wnat (x := (best : Int) + p) (best + p) (by omega) (by omega)]
    exact Ev_neg (by omega) (Ev_some rfl)
  | succ d ih =>
    intro i best count h hbi hd
    have h0 := h.1
    have h3 := h.2.2.2.1
    by_cases e : w.getD i 0 = w.getD (i + p) 0
    · obtain ⟨B, hB, hl, hev⟩ := ih (i + 1) _ _ (h.yes (by omega) e) (by omega) (by omega)
      refine ⟨B, hB, hl, Ev_succ ?_⟩
      simp only [impl_longestRepeat.l0]
      rw [wnat (x := (i : Int) + p) (i + p) (by omega) (by omega), wsucc (n := count) (by omega), wsucc (n := i) (by omega), rd_cast, rd_cast, mx_eq]
      rw [show max (best : Int) ((count + 1 : Nat) : Int) = ((max best (count + 1) : Nat) : Int) by omega]
      exact Ev_pos (by omega) (Ev_pos (by omega) (Ev_pos (by omega) (Ev_pos (by omega) (Ev_pos e hev))))
    · obtain ⟨B, hB, hl, hev⟩ := ih (i + 1) _ _ (h.no (by omega) e) (by omega) (by omega)
      refine ⟨B, hB, hl, Ev_succ ?_⟩
      simp only [impl_longestRepeat.l0]
      rw [wnat (x := (i : Int) + p) (i + p) (by omega) (by omega), wsucc (n := i) (by omega), rd_cast, rd_cast]
      exact Ev_pos (by omega) (Ev_pos (by omega) (Ev_pos (by omega) (Ev_pos (by omega) (Ev_neg e hev))))

theorem impl_longestRepeat_ev (w : List Int) (hb : w.length ≤ 1048576) (p : Nat) (h : p ≤ w.length) :
    ∃ B : Nat, RepBest w p B ∧ B + p ≤ w.length ∧ Ev (fun k => impl_longestRepeat.f k w (p : Int)) ((B + p : Nat) : Int) := by
  unfold impl_longestRepeat.f
  exact impl_longestRepeat_loop w hb p _ 0 0 0 (RepInv.start h) (by omega) rfl

/-! ### impl_HasPower -/
theorem pw_le {c b p den : Int} (h : c ≤ b) (hd : 0 ≤ den) : (c + p) * den ≤ (b + p) * den :=
  Int.mul_le_mul_of_nonneg_right (by omega) hd

theorem impl_HasPower_loop (w : List Int) (hb : w.length ≤ 128) (num den : Int) (hn : 2 ≤ num) (hn2 : num ≤ 20) (hd1 : 1 ≤ den) (hd2 : den ≤ 20) (d : Nat) : ∀ p : Nat, 1 ≤ p → w.length + 1 - p = d →
    ∃ b : Bool, Ev (fun k => impl_HasPower.l0 k w num den (p : Int)) b ∧ (b = true ↔ ∃ q a c : Nat, p ≤ q ∧ Rep w q a c ∧ (q : Int) * num ≤ ((c : Int) + q) * den) := by
  induction d with
  | zero =>
    intro p hp hd
    refine ⟨false, Ev_succ ?_, ?_⟩
    · simp only [impl_HasPower.l0]
      exact Ev_neg (by omega) (Ev.now _)
    · constructor
      · intro h; exact absurd h (by simp)
      · rintro ⟨q, a, c, h1, h2, _⟩
        have := h2.1
        omega
  | succ d ih =>
    intro p hp hd
    obtain ⟨B, hB, hl, hev⟩ := impl_longestRepeat_ev w (by omega) p (by omega)
    have m1 := mul_bd (a := ((B + p : Nat) : Int)) (b := den) (A := 128) (B := 20) (by omega) (by omega) (by omega) (by omega)
    have m2 := mul_bd (a := num) (b := (p : Int)) (A := 20) (B := 128) (by omega) (by omega) (by omega) (by omega)
    have m3 : num * (p : Int) = (p : Int) * num := Int.mul_comm _ _
    have m4 : (((B + p : Nat) : Int)) * den = ((B : Int) + p) * den := by rw [Int.natCast_add]
    by_cases hlt : (p : Int) * num ≤ ((B : Int) + p) * den
    · refine ⟨true, Ev_succ ?_, ?_⟩
      · simp only [impl_HasPower.l0]
        refine Ev_pos (by omega) (Ev_call _ hev ?_)
        rw [w64 (n := ((B + p : Nat) : Int) * den) (by omega) (by omega), w64 (n := num * (p : Int)) (by omega) (by omega)]
        exact Ev_pos (by omega) (Ev.now _)
      · obtain ⟨a, ha⟩ := hB.1
        exact ⟨fun _ => ⟨p, a, B, by omega, ha, hlt⟩, fun _ => rfl⟩
    · obtain ⟨b, h1, h2⟩ := ih (p + 1) (by omega) (by omega)
      refine ⟨b, Ev_succ ?_, ?_⟩
      · simp only [impl_HasPower.l0]
        refine Ev_pos (by omega) (Ev_call _ hev ?_)
        rw [w64 (n := ((B + p : Nat) : Int) * den) (by omega) (by omega), w64 (n := num * (p : Int)) (by omega) (by omega), wsucc (by omega)]
        exact Ev_neg (by omega) h1
      · rw [h2]
        constructor
        · rintro ⟨q, a, c, g1, g2, g3⟩; exact ⟨q, a, c, by omega, g2, g3⟩
        · rintro ⟨q, a, c, g1, g2, g3⟩
          refine ⟨q, a, c, ?_, g2, g3⟩
          by_cases e : q = p
          · subst e
            have g4 := hB.2 a _ g2
            have := pw_le (c := (c : Int)) (b := (B : Int)) (p := (q : Int)) (den := den) (by omega) (by omega)
            omega
          · omega

theorem impl_HasPower_ev (w : List Int) (hb : w.length ≤ 1048576) (num den : Int) :
    ∃ b : Bool, Ev (fun k => impl_HasPower.f k w num den) b ∧ (b = true ↔ w.length ≤ 128 ∧ 2 ≤ num ∧ num ≤ 20 ∧ 1 ≤ den ∧ den < num ∧ Pw w num den) := by
  unfold impl_HasPower.f
  by_cases h : w.length ≤ 128
  · by_cases h1 : num < 2
    · refine ⟨false, Ev_neg (by omega) (Ev_pos h1 (Ev_succ ?_)), ?_⟩
      · simp only [impl_HasPower.j0]; exact Ev_pos (by simp) (Ev.now _)
      · constructor
        · intro h; exact absurd h (by simp)
        · intro g; omega
    · by_cases h2 : num > 20
      · refine ⟨false, Ev_neg (by omega) (Ev_neg h1 (Ev_pos h2 (Ev_succ ?_))), ?_⟩
        · simp only [impl_HasPower.j0]; exact Ev_pos (by simp) (Ev.now _)
        · constructor
          · intro h; exact absurd h (by simp)
          · intro g; omega
      · by_cases h3 : den < 1
        · refine ⟨false, Ev_neg (by omega) (Ev_neg h1 (Ev_neg h2 (Ev_pos h3 (Ev_succ ?_)))), ?_⟩
          · simp only [impl_HasPower.j0]; exact Ev_pos (by simp) (Ev.now _)
          · constructor
            · intro h; exact absurd h (by simp)
            · intro g; omega
        · by_cases h4 : den ≥ num
          · refine ⟨false, Ev_neg (by omega) (Ev_neg h1 (Ev_neg h2 (Ev_neg h3 (Ev_succ ?_)))), ?_⟩
            · simp only [impl_HasPower.j0]; exact Ev_pos (by simpa using h4) (Ev.now _)
            · constructor
              · intro h; exact absurd h (by simp)
              · intro g; omega
          · obtain ⟨b, g1, g2⟩ := impl_HasPower_loop w h num den (by omega) (by omega) (by omega) (by omega) _ 1 (by omega) rfl
            refine ⟨b, Ev_neg (by omega) (Ev_neg h1 (Ev_neg h2 (Ev_neg h3 (Ev_succ ?_)))), ?_⟩
            · simp only [impl_HasPower.j0]; exact Ev_neg (by simpa using h4) g1
            · rw [g2]
              constructor
              · rintro ⟨q, a, c, e1, e2, e3⟩; exact ⟨h, by omega, by omega, by omega, by omega, q, a, c, e1, e2, e3⟩
              · rintro ⟨_, _, _, _, _, q, a, c, e1, e2, e3⟩; exact ⟨q, a, c, e1, e2, e3⟩
  · refine ⟨false, Ev_pos (by omega) (Ev_succ ?_), by simp [h]⟩
    simp only [impl_HasPower.j0]; exact Ev_pos (by simp) (Ev.now _)

/-! ### impl_HasSquare -/
theorem impl_HasSquare_ev (w : List Int) (hb : w.length ≤ 1048576) :
    ∃ b : Bool, Ev (fun k => impl_HasSquare.f k w) b ∧ (b = true ↔ w.length ≤ 128 ∧ Pw w 2 1) := by
  unfold impl_HasSquare.f
  obtain ⟨b, h1, h2⟩ := impl_HasPower_ev w hb 2 1
  refine ⟨b, Ev_call _ h1 (Ev.now _), ?_⟩
  rw [h2]
  constructor
  · rintro ⟨g1, _, _, _, _, g2⟩; exact ⟨g1, g2⟩
  · rintro ⟨g1, g2⟩; exact ⟨g1, by omega, by omega, by omega, by omega, g2⟩

theorem FnExactHasSquare : laws_FnExactHasSquare.Pure := by
  intro l _ _ _
  refine Ev.rounds ?_
  unfold laws_FnExactHasSquare.f
  refine Ev_ite (fun _ => Ev.now _) (fun h => ?_)
  have hb : l.length ≤ 1048576 := by omega
  have t1 := laws_toIntS_ev l (by omega)
  have t2 := laws_eqIntS_ev l l (by omega)
  obtain ⟨b, h1, h2⟩ := spec_HasSquare_ev l hb
  obtain ⟨b', h3, h4⟩ := impl_HasSquare_ev l hb
  have e : b = b' := by rw [Bool.eq_iff_iff, h2, h4]
  subst e
  exact Ev_call _ t1 (Ev_call _ h1 (Ev_call _ t1 (Ev_call _ h3 (Ev_neg (by simp) (Ev_call _ t1 (Ev_call _ t2 (Ev_pos (by simp) (Ev.now _))))))))

end Go.Proofs.Ytoaonfacjcienaa.Pure
