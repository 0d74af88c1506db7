/- At every morphism and letter both answer one truth value. -/
import Derived.Test.YtolikggioekalaaWalkFnExactIsGrowing
import Derived.Test.YtolikggioekalaaG0
import Derived.Test.YtolikggioekalaaGSized
import Derived.Test.YtolikggioekalaaGArgs
import Derived.Test.YtolikggioekalaaGMor
import Derived.Test.YtolikggioekalaaGGrow
namespace Go.Proofs.Ytolikggioekalaa.Pure
open Go.RowKit Go.Proofs.Ytolikggioekalaa.PFnExactIsGrowing Go.Proofs.YtolikggioekalaaW.PrintWords Go.Proofs.YtolikggioekalaaW.PrintLast Go.Proofs.YtolikggioekalaaW.PrintMore Go.Proofs.Ytolikggioekalaa.G
set_option linter.unusedVariables false
set_option linter.unusedSimpArgs false

/-! ### laws_toIntS -/
theorem laws_toIntS_loop (l : List Int) (hb : l.length ≤ 17592186044416) (d : Nat) : ∀ (n : Nat) (acc : List Int), acc.length = l.length → n ≤ l.length → l.length - n = d → acc.take n = l.take n →
    Ev (fun k => laws_toIntS.l0 k l acc (n : Int)) l := by
  induction d with
  | zero =>
    intro n acc h0 h1 h2 h3
    refine Ev_succ ?_
    simp only [laws_toIntS.l0]
    refine Ev_neg (by omega) (Ev_some ?_)
    have : n = l.length := by omega
    subst this
    rw [List.take_length, ← h0, List.take_length] at h3
    exact h3
  | succ d ih =>
    intro n acc h0 h1 h2 h3
    refine Ev_succ ?_
    simp only [laws_toIntS.l0]
    refine Ev_pos (by omega) (Ev_pos (by omega) (Ev_pos (by omega) ?_))
    rw [rd_cast, wsucc (by omega), Int.toNat_natCast]
    refine ih (n + 1) _ (by simpa using h0) (by omega) (by omega) ?_
    rw [set_take_succ acc n _ (by omega), take_succ_getD l n 0 (by omega), h3]

theorem laws_toIntS_ev (l : List Int) (hb : l.length ≤ 17592186044416) : Ev (fun k => laws_toIntS.f k l) l := by
  unfold laws_toIntS.f
  refine Ev_pos (by omega) (Ev_pos (by omega) ?_)
  exact laws_toIntS_loop l hb _ 0 _ (by simp) (by omega) rfl (by simp)

/-! ### laws_toIntSS -/
theorem laws_toIntSS_loop (l : List (List Int)) (hm : l.length ≤ 1048576) (hr : ∀ x ∈ l, x.length ≤ 17592186044416) (d : Nat) : ∀ (n : Nat) (acc : List (List Int)), acc.length = l.length → n + d = l.length → acc.take n = l.take n →
    Ev (fun k => laws_toIntSS.l0 k l acc (n : Int)) l := by
  induction d with
  | zero =>
    intro n acc h0 h1 h2
    refine Ev_succ ?_
    simp only [laws_toIntSS.l0]
    refine Ev_neg (by omega) (Ev_some ?_)
    have : n = l.length := by omega
    subst this
    rw [List.take_length, ← h0, List.take_length] at h2
    exact h2
  | succ d ih =>
    intro n acc h0 h1 h2
    refine Ev_succ ?_
    simp only [laws_toIntSS.l0, rd_L1, Int.toNat_natCast]
    have hrow := hr (l.getD n []) (by rw [getD_eq (by omega)]; exact List.getElem_mem _)
    refine Ev_pos (by omega) (Ev_pos (by omega) (Ev_call _ (laws_toIntS_ev _ hrow) (Ev_pos (by omega) ?_)))
    rw [wsucc (n := n) (by omega)]
    refine ih (n + 1) _ (by simpa using h0) (by omega) ?_
    rw [set_take_succ acc n _ (by omega), take_succ_getD l n [] (by omega), h2]

theorem laws_toIntSS_ev (l : List (List Int)) (hm : l.length ≤ 1048576) (hr : ∀ x ∈ l, x.length ≤ 17592186044416) : Ev (fun k => laws_toIntSS.f k l) l := by
  unfold laws_toIntSS.f
  refine Ev_pos (by omega) (Ev_pos (by omega) ?_)
  exact laws_toIntSS_loop l hm hr _ 0 _ (by simp) (Nat.zero_add _) (by simp)

/-! ### laws_eqIntS -/
theorem laws_eqIntS_loop (a b : List Int) (hl : a.length = b.length) (hb : a.length ≤ 17592186044416) (d : Nat) : ∀ n : Nat, n ≤ a.length → a.length - n = d → a.take n = b.take n →
    Ev (fun k => laws_eqIntS.l0 k a b (n : Int)) (decide (a = b)) := by
  induction d with
  | zero =>
    intro n h1 h2 h3
    refine Ev_succ ?_
    simp only [laws_eqIntS.l0]
    refine Ev_neg (by omega) (Ev_some ?_)
    have : n = a.length := by omega
    subst this
    rw [List.take_length, hl, List.take_length] at h3
    simp [h3]
  | succ d ih =>
    intro n h1 h2 h3
    refine Ev_succ ?_
    simp only [laws_eqIntS.l0]
    refine Ev_pos (by omega) (Ev_pos (by omega) (Ev_pos (by omega) ?_))
    rw [rd_cast, rd_cast, wsucc (by omega)]
    refine Ev_ite (fun h => ?_) (fun h => Ev_some ?_)
    · refine ih (n + 1) (by omega) (by omega) ?_
      rw [take_succ_getD a n 0 (by omega), take_succ_getD b n 0 (by omega), h3, h]
    · symm
      rw [decide_eq_false_iff_not]
      intro e
      exact h (by rw [e])

theorem laws_eqIntS_ev (a b : List Int) (hb : a.length ≤ 17592186044416) : Ev (fun k => laws_eqIntS.f k a b) (decide (a = b)) := by
  unfold laws_eqIntS.f
  refine Ev_ite (fun h => ?_) (fun h => Ev_some ?_)
  · exact laws_eqIntS_loop a b (by omega) hb _ 0 (by omega) rfl (by simp)
  · symm
    rw [decide_eq_false_iff_not]
    intro e
    exact h (by rw [e])

/-! ### laws_eqIntSS -/
theorem laws_eqIntSS_loop (a b : List (List Int)) (hl : a.length = b.length) (hb : a.length ≤ 1048576) (hr : ∀ x ∈ a, x.length ≤ 17592186044416) (d : Nat) : ∀ n : Nat, n + d = a.length → a.take n = b.take n →
    Ev (fun k => laws_eqIntSS.l0 k a b (n : Int)) (decide (a = b)) := by
  induction d with
  | zero =>
    intro n h1 h2
    refine Ev_succ ?_
    simp only [laws_eqIntSS.l0]
    refine Ev_neg (by omega) (Ev_some ?_)
    have : n = a.length := by omega
    subst this
    rw [List.take_length, hl, List.take_length] at h2
    simp [h2]
  | succ d ih =>
    intro n h1 h2
    refine Ev_succ ?_
    simp only [laws_eqIntSS.l0, rd_L1, Int.toNat_natCast]
    have hrow := hr (a.getD n []) (by rw [getD_eq (by omega)]; exact List.getElem_mem _)
    refine Ev_pos (by omega) (Ev_pos (by omega) (Ev_pos (by omega) (Ev_call _ (laws_eqIntS_ev _ _ hrow) ?_)))
    rw [wsucc (n := n) (by omega)]
    refine Ev_ite (fun h => ?_) (fun h => Ev_some ?_)
    · rw [decide_eq_true_eq] at h
      refine ih (n + 1) (by omega) ?_
      rw [take_succ_getD a n [] (by omega), take_succ_getD b n [] (by omega), h2, h]
    · rw [decide_eq_true_eq] at h
      symm
      rw [decide_eq_false_iff_not]
      intro e
      exact h (by rw [e])

theorem laws_eqIntSS_ev (a b : List (List Int)) (hb : a.length ≤ 1048576) (hr : ∀ x ∈ a, x.length ≤ 17592186044416) : Ev (fun k => laws_eqIntSS.f k a b) (decide (a = b)) := by
  unfold laws_eqIntSS.f
  refine Ev_ite (fun h => ?_) (fun h => Ev_some ?_)
  · exact laws_eqIntSS_loop a b (by omega) hb hr _ 0 (Nat.zero_add _) (by simp)
  · symm
    rw [decide_eq_false_iff_not]
    intro e
    exact h (by rw [e])

/-! ### laws_szIntSS -/
theorem laws_szIntS_eq (l : List Int) (a : Int) (h : 0 ≤ a) (h2 : a ≤ 1048576) (hl : l.length ≤ maxLen) :
    laws_szIntS.f l a = some (if a < l.length then -1 else a - l.length) := by
  unfold maxLen at hl
  unfold laws_szIntS.f
  rw [w64 (n := a - (l.length : Int)) (by omega) (by omega)]
  by_cases c : a < l.length
  · rw [if_pos (by omega), if_pos c]
  · rw [if_neg (by omega), if_neg c]

theorem laws_szIntSS_loop (l : List (List Int)) (hm : l.length ≤ 1048576) (hr : ∀ r ∈ l, r.length ≤ maxLen) (d : Nat) : ∀ (n : Nat) (a : Int), n + d = l.length → 0 ≤ a → a ≤ 1048576 →
    ∃ r : Int, Ev (fun k => laws_szIntSS.l0 k l a (n : Int)) r ∧ r ≤ 1048576 ∧ (r < 0 ∨ ∀ i, n ≤ i → i < l.length → (l.getD i []).length ≤ 1048576) := by
  induction d with
  | zero =>
    intro n a h h0 h1
    refine ⟨a, Ev_succ ?_, h1, Or.inr (fun i h2 h3 => by omega)⟩
    simp only [laws_szIntSS.l0]
    exact Ev_neg (by omega) (Ev.now _)
  | succ d ih =>
    intro n a h h0 h1
    have hrow := hr (l.getD n []) (by rw [getD_eq (by omega)]; exact List.getElem_mem _)
    have es := laws_szIntS_eq (l.getD n []) a h0 h1 hrow
    by_cases c : a < (l.getD n []).length
    · refine ⟨-1, Ev_succ ?_, by omega, Or.inl (by omega)⟩
      simp only [laws_szIntSS.l0, rd_L1, Int.toNat_natCast, es, Option.bind_some, if_pos c]
      exact Ev_pos (by omega) (Ev_pos (by omega) (Ev_pos (by omega) (Ev.now _)))
    · obtain ⟨r, g1, g2, g3⟩ := ih (n + 1) (a - (l.getD n []).length) (by omega) (by omega) (by omega)
      refine ⟨r, Ev_succ ?_, g2, ?_⟩
      · simp only [laws_szIntSS.l0, rd_L1, Int.toNat_natCast, es, Option.bind_some, if_neg c]
        rw [wsucc (n := n) (by omega)]
        exact Ev_pos (by omega) (Ev_pos (by omega) (Ev_neg (by omega) g1))
      · rcases g3 with g3 | g3
        · exact Or.inl g3
        · refine Or.inr (fun i h2 h3 => ?_)
          by_cases e : i = n
          · subst e; omega
          · exact g3 i (by omega) h3

theorem laws_szIntSS_ev (l : List (List Int)) (a : Int) (h0 : 0 ≤ a) (h1 : a ≤ 1048576) (hm : l.length ≤ maxLen) (hr : ∀ r ∈ l, r.length ≤ maxLen) :
    ∃ r : Int, Ev (fun k => laws_szIntSS.f k l a) r ∧ r ≤ 1048576 ∧ (r < 0 ∨ (l.length ≤ 1048576 ∧ ∀ x ∈ l, x.length ≤ 1048576)) := by
  have hm' := hm
  unfold maxLen at hm
  unfold laws_szIntSS.f
  rw [w64 (n := a - (l.length : Int)) (by omega) (by omega)]
  by_cases c : a - (l.length : Int) < 0
  · exact ⟨-1, Ev_pos c (Ev.now _), by omega, Or.inl (by omega)⟩
  · obtain ⟨r, g1, g2, g3⟩ := laws_szIntSS_loop l (by omega) hr _ 0 (a - l.length) (Nat.zero_add _) (by omega) (by omega)
    refine ⟨r, Ev_neg c g1, g2, ?_⟩
    rcases g3 with g3 | g3
    · exact Or.inl g3
    · refine Or.inr ⟨by omega, fun x hx => ?_⟩
      obtain ⟨i, hi, rfl⟩ := List.getElem_of_mem hx
      have := g3 i (by omega) hi
      rwa [getD_eq hi] at this

/-! ### spec_l1In -/
theorem spec_l1In_eq (x a b : Int) : spec_l1In.f x a b = some (decide (a ≤ x ∧ x ≤ b)) := by
  unfold spec_l1In.f
  by_cases h : x ≥ a
  · rw [if_pos h]; simp [h]
  · rw [if_neg h]; congr 1; symm; rw [decide_eq_false_iff_not]; omega

/-! ### spec_IsWord -/
theorem spec_IsWord_loop (w : List Int) (n : Nat) (hw : w.length ≤ 1048576) (hn : n ≤ 1048576) (d : Nat) : ∀ i : Nat, i + d = w.length →
    Ev (fun k => spec_IsWord.l0 k w (n : Int) (i : Int)) (decide (RowIn n (w.drop i) ∧ (1 ≤ n ∧ n ≤ 16) ∧ w.length ≤ 400)) := by
  induction d with
  | zero =>
    intro i h
    refine Ev_succ ?_
    simp only [spec_IsWord.l0]
    have e : w.drop i = [] := List.drop_of_length_le (by omega)
    rw [e]
    refine Ev_neg (by omega) ?_
    by_cases c : 1 ≤ n ∧ n ≤ 16
    · refine Ev_call true (Ev_const ?_) (Ev_pos rfl (Ev_some ?_))
      · unfold spec_l1In.f; rw [if_pos (by omega)]; congr 1; simp; omega
      · rw [decide_eq_decide]; constructor
        · exact fun h => ⟨by simp [RowIn], c, by omega⟩
        · exact fun h => by have := h.2.2; omega
    · refine Ev_call false (Ev_const ?_) (Ev_neg (by simp) (Ev_some ?_))
      · unfold spec_l1In.f
        by_cases c1 : (n : Int) ≥ 1
        · rw [if_pos c1]; congr 1; simp; omega
        · rw [if_neg c1]
      · symm; rw [decide_eq_false_iff_not]; exact fun h => c h.2.1
  | succ d ih =>
    intro i h
    refine Ev_succ ?_
    simp only [spec_IsWord.l0, rd_cast]
    rw [wsucc (n := i) (by omega), drop_cons w i 0 (by omega)]
    refine Ev_pos (by omega) (Ev_pos (by omega) ?_)
    refine Ev_ite (fun h1 => Ev_some ?_) (fun h1 => Ev_ite (fun h2 => Ev_some ?_) (fun h2 => Ev_eq (ih (i + 1) (by omega)) ?_))
    · symm; rw [decide_eq_false_iff_not]; intro e; have := e.1 _ List.mem_cons_self; omega
    · symm; rw [decide_eq_false_iff_not]; intro e; have := e.1 _ List.mem_cons_self; omega
    · rw [decide_eq_decide]
      constructor
      · rintro ⟨e, e2⟩
        refine ⟨fun v hv => ?_, e2⟩
        rcases List.mem_cons.1 hv with rfl | hv
        · exact ⟨by omega, by omega⟩
        · exact e v hv
      · exact fun ⟨e, e2⟩ => ⟨fun v hv => e v (List.mem_cons_of_mem _ hv), e2⟩

theorem spec_IsWord_ev (w : List Int) (n : Nat) (hw : w.length ≤ 1048576) (hn : n ≤ 1048576) : Ev (fun k => spec_IsWord.f k w (n : Int)) (okWord w n) := by
  unfold spec_IsWord.f okWord
  have := spec_IsWord_loop w n hw hn w.length 0 (by omega)
  rwa [List.drop_zero] at this

/-! ### spec_IsMorphism -/
theorem spec_IsMorphism_loop (l : List (List Int)) (hl : l.length ≤ 1048576) (hr : ∀ r ∈ l, r.length ≤ 1048576) (d : Nat) : ∀ i : Nat, i + d = l.length →
    Ev (fun k => spec_IsMorphism.l0 k (i : Int) l) (decide ((1 ≤ l.length ∧ l.length ≤ 16) ∧ ∀ r ∈ l.drop i, r.length ≤ 8 ∧ RowIn l.length r)) := by
  induction d with
  | zero =>
    intro i h
    refine Ev_succ ?_
    simp only [spec_IsMorphism.l0]
    have e : l.drop i = [] := List.drop_of_length_le (by omega)
    rw [e]
    refine Ev_neg (by omega) (Ev_call _ (Ev_const (r := decide (1 ≤ l.length ∧ l.length ≤ 16)) ?_) (Ev_some (by simp)))
    unfold spec_l1In.f
    by_cases c1 : (l.length : Int) ≥ 1
    · rw [if_pos c1]; congr 1; rw [decide_eq_decide]; omega
    · rw [if_neg c1]; congr 1; symm; rw [decide_eq_false_iff_not]; omega
  | succ d ih =>
    intro i h
    have hrow := hr (l.getD i []) (by rw [getD_eq (by omega)]; exact List.getElem_mem _)
    have hw := spec_IsWord_ev (l.getD i []) l.length hrow hl
    refine Ev_succ ?_
    simp only [spec_IsMorphism.l0, rd_L1, Int.toNat_natCast]
    rw [wsucc (n := i) (by omega), drop_cons l i [] (by omega)]
    refine Ev_pos (by omega) (Ev_pos (by omega) (Ev_call _ hw ?_))
    unfold okWord
    refine Ev_ite (fun h1 => Ev_ite (fun h2 => Ev_some ?_) (fun h2 => Ev_eq (ih (i + 1) (by omega)) ?_)) (fun h1 => Ev_some ?_)
    · symm; rw [decide_eq_false_iff_not]; intro e; have := (e.2 _ List.mem_cons_self).1; omega
    · rw [decide_eq_true_eq] at h1
      rw [decide_eq_decide]
      constructor
      · rintro ⟨e, e2⟩
        refine ⟨e, fun r hr => ?_⟩
        rcases List.mem_cons.1 hr with rfl | hr
        · exact ⟨by omega, h1.1⟩
        · exact e2 r hr
      · exact fun ⟨e, e2⟩ => ⟨e, fun r hr => e2 r (List.mem_cons_of_mem _ hr)⟩
    · rw [decide_eq_true_eq] at h1
      symm; rw [decide_eq_false_iff_not]
      intro e
      have := e.2 _ List.mem_cons_self
      exact h1 ⟨this.2, e.1, by omega⟩

theorem spec_IsMorphism_ev (l : List (List Int)) (hl : l.length ≤ 1048576) (hr : ∀ r ∈ l, r.length ≤ 1048576) : Ev (fun k => spec_IsMorphism.f k l) (okMor l) := by
  unfold spec_IsMorphism.f okMor
  have := spec_IsMorphism_loop l hl hr l.length 0 (by omega)
  rwa [List.drop_zero] at this

/-! ### impl_areLetters -/
theorem impl_areLetters_loop (w : List Int) (n : Nat) (hw : w.length ≤ 1048576) (d : Nat) : ∀ i : Nat, i + d = w.length →
    Ev (fun k => impl_areLetters.l0 k (n : Int) w (w.length : Int) (i : Int)) (decide (RowIn n (w.drop i))) := by
  induction d with
  | zero =>
    intro i h
    refine Ev_succ ?_
    simp only [impl_areLetters.l0]
    have e : w.drop i = [] := List.drop_of_length_le (by omega)
    rw [e]
    exact Ev_neg (by omega) (Ev_some (by simp [RowIn]))
  | succ d ih =>
    intro i h
    refine Ev_succ ?_
    simp only [impl_areLetters.l0, rd_cast]
    rw [wsucc (n := i) (by omega), drop_cons w i 0 (by omega)]
    refine Ev_pos (by omega) (Ev_pos (by omega) (Ev_pos (by omega) ?_))
    refine Ev_ite (fun h1 => Ev_some ?_) (fun h1 => Ev_ite (fun h2 => Ev_some ?_) (fun h2 => Ev_eq (ih (i + 1) (by omega)) ?_))
    · symm; rw [decide_eq_false_iff_not]; intro e; have := e _ List.mem_cons_self; omega
    · symm; rw [decide_eq_false_iff_not]; intro e; have := e _ List.mem_cons_self; omega
    · rw [decide_eq_decide]
      constructor
      · intro e v hv
        rcases List.mem_cons.1 hv with rfl | hv
        · exact ⟨by omega, by omega⟩
        · exact e v hv
      · exact fun e v hv => e v (List.mem_cons_of_mem _ hv)

theorem impl_areLetters_ev (w : List Int) (n : Nat) (hw : w.length ≤ 1048576) : Ev (fun k => impl_areLetters.f k w (n : Int)) (decide (RowIn n w)) := by
  unfold impl_areLetters.f
  have := impl_areLetters_loop w n hw w.length 0 (by omega)
  rwa [List.drop_zero] at this

/-! ### impl_IsMorphism -/
theorem impl_IsMorphism_loop (l : List (List Int)) (hl : l.length ≤ 1048576) (hr : ∀ r ∈ l, r.length ≤ 1048576) (d : Nat) : ∀ i : Nat, i + d = l.length →
    Ev (fun k => impl_IsMorphism.l0 k (l.length : Int) l (l.length : Int) (i : Int)) (decide (∀ r ∈ l.drop i, r.length ≤ 8 ∧ RowIn l.length r)) := by
  induction d with
  | zero =>
    intro i h
    refine Ev_succ ?_
    simp only [impl_IsMorphism.l0]
    have e : l.drop i = [] := List.drop_of_length_le (by omega)
    rw [e]
    exact Ev_neg (by omega) (Ev_some (by simp))
  | succ d ih =>
    intro i h
    have hrow := hr (l.getD i []) (by rw [getD_eq (by omega)]; exact List.getElem_mem _)
    have hw := impl_areLetters_ev (l.getD i []) l.length hrow
    refine Ev_succ ?_
    simp only [impl_IsMorphism.l0, rd_L1, Int.toNat_natCast]
    rw [wsucc (n := i) (by omega), drop_cons l i [] (by omega)]
    refine Ev_pos (by omega) (Ev_pos (by omega) (Ev_pos (by omega) ?_))
    refine Ev_ite (fun h1 => Ev_some ?_) (fun h1 => Ev_call _ hw (Ev_ite (fun h2 => Ev_eq (ih (i + 1) (by omega)) ?_) (fun h2 => Ev_some ?_)))
    · symm; rw [decide_eq_false_iff_not]; intro e; have := (e _ List.mem_cons_self).1; omega
    · rw [decide_eq_true_eq] at h2
      rw [decide_eq_decide]
      constructor
      · intro e2 r hr
        rcases List.mem_cons.1 hr with rfl | hr
        · exact ⟨by omega, h2⟩
        · exact e2 r hr
      · exact fun e2 r hr => e2 r (List.mem_cons_of_mem _ hr)
    · rw [decide_eq_true_eq] at h2
      symm; rw [decide_eq_false_iff_not]
      intro e
      exact h2 (e _ List.mem_cons_self).2

theorem impl_IsMorphism_ev (l : List (List Int)) (hl : l.length ≤ 1048576) (hr : ∀ r ∈ l, r.length ≤ 1048576) : Ev (fun k => impl_IsMorphism.f k l) (okMor l) := by
  have no : ¬ (1 ≤ l.length ∧ l.length ≤ 16) → okMor l = false := fun h => by unfold okMor; rw [decide_eq_false_iff_not]; exact fun e => h e.1
  unfold impl_IsMorphism.f
  refine Ev_ite (fun h => ?_) (fun h => ?_)
  · refine Ev_succ ?_
    simp only [impl_IsMorphism.j0]
    exact Ev_pos (by simp) (Ev_some (no (by omega)).symm)
  · refine Ev_succ ?_
    simp only [impl_IsMorphism.j0]
    by_cases c : l.length ≤ 16
    · refine Ev_neg (by simp; omega) ?_
      have := impl_IsMorphism_loop l hl hr l.length 0 (by omega)
      rw [List.drop_zero] at this
      refine Ev_eq this ?_
      unfold okMor
      rw [decide_eq_decide]
      exact ⟨fun e => ⟨by omega, e⟩, fun e => e.2⟩
    · exact Ev_pos (by simp; omega) (Ev_some (no (by omega)).symm)

theorem laws_szMorphism_ev (l : List (List Int)) (hm : l.length ≤ maxLen) (hr : ∀ r ∈ l, r.length ≤ maxLen) :
    ∃ r : Int, Ev (fun k => laws_szMorphism.f k l 1048576) r ∧ (r < 0 ∨ (l.length ≤ 1048576 ∧ (∀ x ∈ l, x.length ≤ 1048576))) := by
  obtain ⟨r, g1, g2, g3⟩ := laws_szIntSS_ev l 1048576 (by omega) (by omega) hm hr
  unfold laws_szMorphism.f
  by_cases c : r < 0
  · exact ⟨-1, Ev_call _ g1 (Ev_pos c (Ev.now _)), Or.inl (by omega)⟩
  · exact ⟨r, Ev_call _ g1 (Ev_neg c (Ev.now _)), Or.inr (g3.resolve_left c)⟩
theorem laws_toMorphism_ev (l : List (List Int)) (hm : l.length ≤ 1048576) (hr : ∀ x ∈ l, x.length ≤ 1048576) : Ev (fun k => laws_toMorphism.f k l) l := by
  unfold laws_toMorphism.f
  exact Ev_call _ (laws_toIntSS_ev l hm (fun x hx => Nat.le_trans (hr x hx) (by omega))) (Ev.now _)
theorem laws_eqMorphism_refl (l : List (List Int)) (hm : l.length ≤ 1048576) (hr : ∀ x ∈ l, x.length ≤ 1048576) : Ev (fun k => laws_eqMorphism.f k l l) true := by
  unfold laws_eqMorphism.f
  have := laws_eqIntSS_ev l l hm (fun x hx => Nat.le_trans (hr x hx) (by omega))
  refine Ev_call _ this (Ev_pos (by simp) (Ev.now _))
theorem spec_l4Has_ev (l : List Int) (x : Int) (hl : l.length ≤ 1048577) : Ev (fun k => spec_l4Has.f k l x) (decide (x ∈ l)) := by
  have loop : ∀ d i : Nat, i + d = l.length → Ev (fun k => spec_l4Has.l0 k l x (i : Int)) (decide (x ∈ l.drop i)) := by
    intro d
    induction d with
    | zero =>
      intro i h
      refine Ev_succ ?_
      simp only [spec_l4Has.l0]
      refine Ev_neg (by omega) (Ev_some ?_)
      rw [List.drop_of_length_le (by omega)]; simp
    | succ d ih =>
      intro i h
      refine Ev_succ ?_
      simp only [spec_l4Has.l0, rd_cast]
      rw [wsucc (n := i) (by omega), drop_cons l i 0 (by omega)]
      refine Ev_pos (by omega) (Ev_pos (by omega) (Ev_ite (fun h1 => Ev_some ?_) (fun h1 => Ev_eq (ih (i + 1) (by omega)) ?_)))
      · symm; rw [decide_eq_true_eq, h1]; exact List.mem_cons_self
      · rw [decide_eq_decide, List.mem_cons]; exact ⟨fun e => .inr e, fun e => e.resolve_left (fun e2 => h1 e2.symm)⟩
  unfold spec_l4Has.f
  have := loop l.length 0 (Nat.zero_add _)
  rwa [List.drop_zero] at this
section
variable (l : List (List Int)) (hn : l.length ≤ 16) (ho : okL l) (h8 : ∀ x : Int, (img l x).length ≤ 8)
include hn ho h8 in
theorem spec_IG_l2 (rest : List Int) (hr : ∀ x ∈ rest, 0 ≤ x ∧ x < (l.length : Int)) (hrl : rest.length ≤ 16) (t : Int) (i : Nat) (hi : i < rest.length) (R : Bool) (d : Nat) :
    ∀ j : Nat, j + d = (img l (rest.getD i 0)).length → ∀ acc : List Int, acc.Nodup → (∀ x ∈ acc, 0 ≤ x ∧ x < (l.length : Int)) → Ev (fun k => spec_IsGrowing.l1 k rest t (nextS acc ((img l (rest.getD i 0)).drop j)) ((i + 1 : Nat) : Int) l) R →
      Ev (fun k => spec_IsGrowing.l2 k rest t acc (i : Int) (j : Int) l) R := by
  have hx := hr (rest.getD i 0) (by rw [getD_eq hi]; exact List.getElem_mem _)
  have h8' := h8 (rest.getD i 0)
  have e0 : rd_L1 l (rest.getD i 0) = img l (rest.getD i 0) := rfl
  induction d with
  | zero =>
    intro j h acc hd ha hR
    rw [List.drop_of_length_le (by omega)] at hR
    simp only [nextS] at hR
    refine Ev_succ ?_
    simp only [spec_IsGrowing.l2, rd_cast, e0]
    rw [wsucc (n := i) (by omega)]
    exact Ev_pos (by omega) (Ev_pos (by omega) (Ev_pos (by omega) (Ev_pos (by omega) (Ev_neg (by omega) hR))))
  | succ d ih =>
    intro j h acc hd ha hR
    have hj : j < (img l (rest.getD i 0)).length := by omega
    have hal := letters_len hd ha
    have hy := ho (rest.getD i 0) ((img l (rest.getD i 0)).getD j 0) (by rw [getD_eq hj]; exact List.getElem_mem _)
    rw [drop_cons _ j 0 hj, nextS] at hR
    refine Ev_succ ?_
    simp only [spec_IsGrowing.l2, rd_cast, e0]
    rw [wsucc (n := j) (by omega)]
    refine Ev_pos (by omega) (Ev_pos (by omega) (Ev_pos (by omega) (Ev_pos (by omega) (Ev_pos (by omega) (Ev_pos (by omega) (Ev_call _ (spec_l4Has_ev acc _ (by omega)) ?_))))))
    by_cases c : (img l (rest.getD i 0)).getD j 0 ∈ acc
    · rw [if_pos c] at hR
      exact Ev_pos (by simpa using c) (ih (j + 1) (by omega) acc hd ha hR)
    · rw [if_neg c] at hR
      refine Ev_neg (by simpa using c) (Ev_pos (by omega) (ih (j + 1) (by omega) _ ?_ ?_ hR))
      · have := nextS_nodup [(img l (rest.getD i 0)).getD j 0] acc hd
        rwa [nextS, if_neg c, nextS] at this
      · intro x hx
        rw [List.mem_append, List.mem_singleton] at hx
        rcases hx with hx | rfl
        · exact ha x hx
        · exact hy
include hn ho h8 in
theorem spec_IG_l1 (rest : List Int) (hr : ∀ x ∈ rest, 0 ≤ x ∧ x < (l.length : Int)) (hrl : rest.length ≤ 16) (t : Nat) (ht : t ≤ 100) (R : Bool) (d : Nat) :
    ∀ i : Nat, i + d = rest.length → ∀ acc : List Int, acc.Nodup → (∀ x ∈ acc, 0 ≤ x ∧ x < (l.length : Int)) → Ev (fun k => spec_IsGrowing.l0 k (nextAll l acc (rest.drop i)) ((t + 1 : Nat) : Int) l) R →
      Ev (fun k => spec_IsGrowing.l1 k rest (t : Int) acc (i : Int) l) R := by
  induction d with
  | zero =>
    intro i h acc hd ha hR
    rw [List.drop_of_length_le (by omega)] at hR
    simp only [nextAll] at hR
    refine Ev_succ ?_
    simp only [spec_IsGrowing.l1]
    rw [wsucc (n := t) (by omega)]
    exact Ev_neg (by omega) hR
  | succ d ih =>
    intro i h acc hd ha hR
    have hi : i < rest.length := by omega
    rw [drop_cons rest i 0 hi, nextAll] at hR
    refine Ev_succ ?_
    simp only [spec_IsGrowing.l1]
    refine Ev_pos (by omega) ?_
    refine spec_IG_l2 l hn ho h8 rest hr hrl (t : Int) i hi R _ 0 (Nat.zero_add _) acc hd ha ?_
    rw [List.drop_zero]
    refine ih (i + 1) (by omega) _ (nextS_nodup _ _ hd) (fun x hx => ?_) hR
    rcases (nextS_mem _ _ _).1 hx with hx | hx
    · exact ha x hx
    · exact ho _ x hx
include hn ho h8 in
theorem spec_IG_l0 (d : Nat) : ∀ (t : Nat) (rest : List Int), t + d = l.length + 1 → (∀ x ∈ rest, 0 ≤ x ∧ x < (l.length : Int)) → rest.length ≤ 16 → Ev (fun k => spec_IsGrowing.l0 k rest (t : Int) l) (rest.any (lives l d)) := by
  induction d with
  | zero =>
    intro t rest h hr hrl
    refine Ev_succ ?_
    simp only [spec_IsGrowing.l0]
    refine Ev_neg (by omega) (Ev_some ?_)
    cases rest with
    | nil => rfl
    | cons x xs => rw [List.any_cons, lives, Bool.true_or, decide_eq_true_eq, List.length_cons]; omega
  | succ d ih =>
    intro t rest h hr hrl
    refine Ev_succ ?_
    simp only [spec_IsGrowing.l0]
    refine Ev_pos (by omega) ?_
    refine spec_IG_l1 l hn ho h8 rest hr hrl t (by omega) _ _ 0 (Nat.zero_add _) [] List.nodup_nil (by simp) ?_
    rw [List.drop_zero, ← nextAll_any]
    have hin : ∀ x ∈ nextAll l [] rest, 0 ≤ x ∧ x < (l.length : Int) := fun x hx => by
      obtain ⟨y, _, hy⟩ := ((nextAll_mem l rest [] x).1 hx).resolve_left (by simp)
      exact ho _ x hy
    have hnd := nextAll_nodup l rest [] List.nodup_nil
    have := letters_len hnd hin
    exact ih (t + 1) _ (by omega) hin (by omega)
/-! The program's rounds. -/
theorem IG_contains (w : List Int) (b : List Bool) (hw : ∀ x ∈ w, 0 ≤ x ∧ x < (b.length : Int)) (hl : w.length ≤ 1048576) : Ev (fun k => slices_ContainsFunc_int_int.f k w b) (w.any (fun y => !(b.getD y.toNat false))) := by
  have loop : ∀ d i : Nat, i + d = w.length → ∃ r : Int, Ev (fun k => slices_IndexFunc_int_int.l0 k w b (w.length : Int) (i : Int)) r ∧ decide (r ≥ 0) = (w.drop i).any (fun y => !(b.getD y.toNat false)) := by
    intro d
    induction d with
    | zero =>
      intro i h
      refine ⟨-1, Ev_succ ?_, ?_⟩
      · simp only [slices_IndexFunc_int_int.l0]
        exact Ev_neg (by omega) (Ev.now _)
      · rw [List.drop_of_length_le (by omega)]; rfl
    | succ d ih =>
      intro i h
      have hi : i < w.length := by omega
      have hx := hw (w.getD i 0) (by rw [getD_eq hi]; exact List.getElem_mem _)
      have hB : impl_vanishingB1.f (w.getD i 0) b = some (!(b.getD (w.getD i 0).toNat false)) := by
        unfold impl_vanishingB1.f
        rw [if_pos hx.1, if_pos hx.2]; rfl
      rw [drop_cons w i 0 hi, List.any_cons]
      by_cases c : (!(b.getD (w.getD i 0).toNat false)) = true
      · refine ⟨(i : Int), Ev_succ ?_, ?_⟩
        · simp only [slices_IndexFunc_int_int.l0, rd_cast, hB]
          exact Ev_pos (by omega) (Ev_pos (by omega) (Ev_pos (by omega) (Ev_call _ (Ev.now _) (Ev_pos c (Ev.now _)))))
        · rw [c, Bool.true_or]; simp
      · obtain ⟨r, h1, h2⟩ := ih (i + 1) (by omega)
        refine ⟨r, Ev_succ ?_, ?_⟩
        · simp only [slices_IndexFunc_int_int.l0, rd_cast, hB]
          rw [wsucc (n := i) (by omega)]
          exact Ev_pos (by omega) (Ev_pos (by omega) (Ev_pos (by omega) (Ev_call _ (Ev.now _) (Ev_neg c h1))))
        · rw [h2, Bool.eq_false_iff.mpr c, Bool.false_or]
  obtain ⟨r, h1, h2⟩ := loop w.length 0 (Nat.zero_add _)
  rw [List.drop_zero] at h2
  unfold slices_ContainsFunc_int_int.f slices_IndexFunc_int_int.f
  exact Ev_call _ h1 (Ev_some h2)
/-- What the bits say behind r rounds. -/
def BitsOk (r : Nat) (b : List Bool) : Prop := b.length = l.length ∧ (∀ i : Nat, i < l.length → b.getD i false = true → lives l l.length (i : Int) = false) ∧ (∀ i : Nat, i < l.length → lives l r (i : Int) = false → b.getD i false = true)
include hn ho h8 in
theorem IG_round (r : Nat) (hr : r ≤ 100) (R : List Bool) (hR : ∀ b, BitsOk l (r + 1) b → Ev (fun k => impl_vanishing.l0 k b (l.length : Int) ((r + 1 : Nat) : Int) l) R) (d : Nat) :
    ∀ (i : Nat) (b : List Bool), i + d = l.length → BitsOk l r b → (∀ j : Nat, j < i → lives l (r + 1) (j : Int) = false → b.getD j false = true) → Ev (fun k => impl_vanishing.l1 k b (l.length : Int) (r : Int) l (l.length : Int) (i : Int) l) R := by
  induction d with
  | zero =>
    intro i b h hb hi
    refine Ev_succ ?_
    simp only [impl_vanishing.l1]
    rw [wsucc (n := r) (by omega)]
    exact Ev_neg (by omega) (hR b ⟨hb.1, hb.2.1, fun j hj => hi j (by omega)⟩)
  | succ d ih =>
    intro i b h hb hi
    have hil : i < l.length := by omega
    have e0 : rd_L1 l (i : Int) = img l (i : Int) := rfl
    have h8' := h8 (i : Int)
    have hc := IG_contains (img l (i : Int)) b (fun x hx => by rw [hb.1]; exact ho _ x hx) (by omega)
    refine Ev_succ ?_
    simp only [impl_vanishing.l1, e0]
    rw [wsucc (n := i) (by omega)]
    refine Ev_pos (by omega) (Ev_pos (by omega) (Ev_pos (by omega) (Ev_call _ hc (Ev_ite (fun h1 => ?_) (fun h1 => Ev_pos (by have := hb.1; omega) ?_)))))
    · refine ih (i + 1) b (by omega) hb (fun j hj hl => ?_)
      by_cases c : j = i
      · subst c
        rw [List.any_eq_true] at h1
        obtain ⟨y, hy, e⟩ := h1
        have hy2 := ho _ y hy
        exfalso
        have : lives l r y = true := by
          cases q : lives l r y with
          | true => rfl
          | false =>
            have := hb.2.2 y.toNat (by omega) (by rwa [show ((y.toNat : Nat) : Int) = y by omega])
            rw [this] at e; cases e
        have h2 : lives l (r + 1) (j : Int) = true := by rw [lives, List.any_eq_true]; exact ⟨y, hy, this⟩
        rw [h2] at hl; cases hl
      · exact hi j (by omega) hl
    · have hall : ∀ y ∈ img l (i : Int), b.getD y.toNat false = true := fun y hy => by
        cases q : b.getD y.toNat false with
        | true => rfl
        | false => exact absurd (List.any_eq_true.2 ⟨y, hy, by rw [q]; rfl⟩) h1
      have hdead : lives l l.length (i : Int) = false := by
        rw [← still_n ho i hil, lives]
        rw [Bool.eq_false_iff]
        intro e
        rw [List.any_eq_true] at e
        obtain ⟨y, hy, e⟩ := e
        have hy2 := ho _ y hy
        have := hb.2.1 y.toNat (by omega) (hall y hy)
        rw [show ((y.toNat : Nat) : Int) = y by omega] at this
        rw [this] at e; cases e
      have hset : ∀ j : Nat, (b.set i true).getD j false = if j = i then true else b.getD j false := by
        intro j
        rw [List.getD_eq_getElem?_getD, List.getElem?_set, List.getD_eq_getElem?_getD]
        by_cases c : j = i
        · subst c; rw [if_pos rfl, if_pos rfl, if_pos (by have := hb.1; omega)]; rfl
        · rw [if_neg (fun e => c e.symm), if_neg c]
      rw [Int.toNat_natCast]
      refine ih (i + 1) _ (by omega) ⟨by rw [List.length_set]; exact hb.1, fun j hj e => ?_, fun j hj e => ?_⟩ (fun j hj e => ?_)
      · rw [hset] at e
        by_cases c : j = i
        · subst c; exact hdead
        · rw [if_neg c] at e; exact hb.2.1 j hj e
      · rw [hset]
        by_cases c : j = i
        · rw [if_pos c]
        · rw [if_neg c]; exact hb.2.2 j hj e
      · rw [hset]
        by_cases c : j = i
        · rw [if_pos c]
        · rw [if_neg c]; exact hi j (by omega) e
def bitsF : List Bool := (List.range l.length).map (fun i : Nat => !(lives l l.length (i : Int)))
theorem bitsF_get (i : Nat) (hi : i < l.length) : (bitsF l).getD i false = !(lives l l.length (i : Int)) := by
  unfold bitsF
  rw [List.getD_eq_getElem?_getD, List.getElem?_map, List.getElem?_range hi]; rfl
theorem bits_eq (b : List Bool) (hb : BitsOk l l.length b) : b = bitsF l := by
  refine List.ext_getElem (by unfold bitsF; rw [List.length_map, List.length_range]; exact hb.1) (fun i h1 h2 => ?_)
  have hi : i < l.length := by rw [← hb.1]; exact h1
  have e1 : b[i] = b.getD i false := by rw [getD_eq h1]
  have e2 : (bitsF l)[i] = (bitsF l).getD i false := by rw [getD_eq h2]
  rw [e1, e2, bitsF_get l i hi]
  cases q : lives l l.length (i : Int) with
  | true =>
    cases p : b.getD i false with
    | false => rfl
    | true => have := hb.2.1 i hi p; rw [q] at this; cases this
  | false => rw [hb.2.2 i hi q]; rfl
include hn ho h8 in
theorem IG_rounds (d : Nat) : ∀ (r : Nat) (b : List Bool), r + d = l.length → BitsOk l r b → Ev (fun k => impl_vanishing.l0 k b (l.length : Int) (r : Int) l) (bitsF l) := by
  induction d with
  | zero =>
    intro r b h hb
    have hr : r = l.length := by omega
    subst hr
    refine Ev_succ ?_
    simp only [impl_vanishing.l0]
    exact Ev_neg (by omega) (Ev_some (bits_eq l b hb))
  | succ d ih =>
    intro r b h hb
    refine Ev_succ ?_
    simp only [impl_vanishing.l0]
    refine Ev_pos (by omega) ?_
    exact IG_round l hn ho h8 r (by omega) _ (fun b' hb' => ih (r + 1) b' (by omega) hb') _ 0 b (Nat.zero_add _) hb (fun j hj => by omega)
include hn ho h8 in
theorem impl_vanishing_ev : Ev (fun k => impl_vanishing.f k l) (bitsF l) := by
  unfold impl_vanishing.f
  refine Ev_pos (by omega) (Ev_pos (by omega) ?_)
  rw [Int.toNat_natCast]
  have hrep : ∀ i : Nat, (List.replicate l.length false).getD i false = false := by
    intro i
    rw [List.getD_eq_getElem?_getD, List.getElem?_replicate]
    split <;> rfl
  refine IG_rounds l hn ho h8 _ 0 _ (Nat.zero_add _) ⟨by rw [List.length_replicate], fun i hi e => ?_, fun i hi e => ?_⟩
  · rw [hrep] at e; cases e
  · rw [lives] at e; cases e
end
def growR (l : List (List Int)) (a : Int) : Bool := decide (okMor l = true ∧ 0 ≤ a ∧ a < (l.length : Int) ∧ 2 ≤ (img l a).length ∧ (img l a).getD 0 0 = a) && ((img l a).drop 1).any (lives l l.length)
theorem okMor_facts {l : List (List Int)} (h : okMor l = true) : (1 ≤ l.length ∧ l.length ≤ 16) ∧ okL l ∧ ∀ x : Int, (img l x).length ≤ 8 := by
  unfold okMor at h
  rw [decide_eq_true_eq] at h
  have key : ∀ x : Int, (img l x).length ≤ 8 ∧ ∀ y ∈ img l x, 0 ≤ y ∧ y < (l.length : Int) := by
    intro x
    by_cases c : x.toNat < l.length
    · have hm : img l x ∈ l := by unfold img; rw [getD_eq c]; exact List.getElem_mem _
      exact h.2 _ hm
    · have : img l x = [] := by unfold img; rw [List.getD_eq_getElem?_getD, List.getElem?_eq_none (by omega)]; rfl
      rw [this]; exact ⟨by simp, by simp⟩
  exact ⟨h.1, fun x y hy => (key x).2 y hy, fun x => (key x).1⟩
theorem spec_IsGrowing_ev (l : List (List Int)) (a : Int) (hl : l.length ≤ 1048576) (hr : ∀ r ∈ l, r.length ≤ 1048576) : Ev (fun k => spec_IsGrowing.f k l a) (growR l a) := by
  have no : ¬ (okMor l = true ∧ 0 ≤ a ∧ a < (l.length : Int) ∧ 2 ≤ (img l a).length ∧ (img l a).getD 0 0 = a) → Ev (fun k => spec_IsGrowing.j0 k a true l) (growR l a) := by
    intro h
    refine Ev_succ ?_
    simp only [spec_IsGrowing.j0]
    refine Ev_pos (by simp) (Ev_some ?_)
    unfold growR
    rw [decide_eq_false h]; rfl
  have e0 : rd_L1 l a = img l a := rfl
  have e1 : rd (img l a) 0 = (img l a).getD 0 0 := rfl
  unfold spec_IsGrowing.f
  rw [e0, e1]
  refine Ev_call _ (spec_IsMorphism_ev l hl hr) (Ev_ite (fun h1 => Ev_ite (fun h => no (fun e => by omega)) (fun h2 => Ev_ite (fun h => no (fun e => by omega)) (fun h3 => Ev_pos (by omega) (Ev_pos (by omega) (Ev_ite (fun h => no (fun e => by omega)) (fun h4 => Ev_pos (by omega) ?_)))))) (fun h => no (fun e => h e.1)))
  by_cases c : (img l a).getD 0 0 = a
  · rw [show ((img l a).getD 0 0 != a) = false by rw [c]; simp]
    obtain ⟨f1, f2, f3⟩ := okMor_facts h1
    have f3a := f3 a
    refine Ev_succ ?_
    simp only [spec_IsGrowing.j0, e0]
    refine Ev_neg (by simp) (Ev_pos (by omega) (Ev_pos (by omega) (Ev_pos (by omega) ?_)))
    have hin : ∀ x ∈ (img l a).drop 1, 0 ≤ x ∧ x < (l.length : Int) := fun x hx => f2 a x (List.mem_of_mem_drop hx)
    refine Ev_eq (spec_IG_l0 l f1.2 f2 f3 (l.length + 1) 0 _ (Nat.zero_add _) hin (by rw [List.length_drop]; omega)) ?_
    unfold growR
    rw [decide_eq_true (p := okMor l = true ∧ _) ⟨h1, by omega, by omega, by omega, c⟩, Bool.true_and]
    refine any_congr _ (fun x hx => ?_)
    have hx := hin x hx
    have := still_n f2 x.toNat (by omega)
    rwa [show ((x.toNat : Nat) : Int) = x by omega] at this
  · rw [show ((img l a).getD 0 0 != a) = true by rw [bne_iff_ne]; exact c]
    exact no (fun e => c e.2.2.2.2)
theorem impl_IsGrowing_ev (l : List (List Int)) (a : Int) (hl : l.length ≤ 1048576) (hr : ∀ r ∈ l, r.length ≤ 1048576) : Ev (fun k => impl_IsGrowing.f k l a) (growR l a) := by
  have no0 : ¬ (okMor l = true ∧ 0 ≤ a ∧ a < (l.length : Int) ∧ 2 ≤ (img l a).length ∧ (img l a).getD 0 0 = a) → Ev (fun k => impl_IsGrowing.j0 k a true l) (growR l a) := by
    intro h
    refine Ev_succ ?_
    simp only [impl_IsGrowing.j0]
    refine Ev_pos (by simp) (Ev_some ?_)
    unfold growR
    rw [decide_eq_false h]; rfl
  have no1 : ¬ (okMor l = true ∧ 0 ≤ a ∧ a < (l.length : Int) ∧ 2 ≤ (img l a).length ∧ (img l a).getD 0 0 = a) → Ev (fun k => impl_IsGrowing.j1 k (img l a) true l) (growR l a) := by
    intro h
    refine Ev_succ ?_
    simp only [impl_IsGrowing.j1]
    refine Ev_pos (by simp) (Ev_some ?_)
    unfold growR
    rw [decide_eq_false h]; rfl
  have e0 : rd_L1 l a = img l a := rfl
  have e1 : rd (img l a) 0 = (img l a).getD 0 0 := rfl
  unfold impl_IsGrowing.f
  refine Ev_call _ (impl_IsMorphism_ev l hl hr) (Ev_ite (fun h1 => Ev_ite (fun h => no0 (fun e => by omega)) (fun h2 => ?_)) (fun h => no0 (fun e => h e.1)))
  by_cases h3 : a ≥ (l.length : Int)
  · rw [decide_eq_true h3]; exact no0 (fun e => by omega)
  · rw [decide_eq_false h3]
    refine Ev_succ ?_
    simp only [impl_IsGrowing.j0, e0, e1]
    refine Ev_neg (by simp) (Ev_pos (by omega) (Ev_pos (by omega) (Ev_ite (fun h => no1 (fun e => by omega)) (fun h4 => Ev_pos (by omega) ?_))))
    by_cases c : (img l a).getD 0 0 = a
    · rw [show ((img l a).getD 0 0 != a) = false by rw [c]; simp]
      obtain ⟨f1, f2, f3⟩ := okMor_facts h1
      have f3a := f3 a
      refine Ev_succ ?_
      simp only [impl_IsGrowing.j1]
      have hbl : (bitsF l).length = l.length := by unfold bitsF; rw [List.length_map, List.length_range]
      have hin : ∀ x ∈ (img l a).drop 1, 0 ≤ x ∧ x < (l.length : Int) := fun x hx => f2 a x (List.mem_of_mem_drop hx)
      refine Ev_neg (by simp) (Ev_call _ (impl_vanishing_ev l f1.2 f2 f3) (Ev_pos (by omega) (Ev_call _ (IG_contains ((img l a).drop 1) (bitsF l) (fun x hx => by rw [hbl]; exact hin x hx) (by rw [List.length_drop]; omega)) (Ev_some ?_))))
      unfold growR
      rw [decide_eq_true (p := okMor l = true ∧ _) ⟨h1, by omega, by omega, by omega, c⟩, Bool.true_and]
      refine any_congr _ (fun x hx => ?_)
      have hx := hin x hx
      rw [bitsF_get l x.toNat (by omega), show ((x.toNat : Nat) : Int) = x by omega, Bool.not_not]
    · rw [show ((img l a).getD 0 0 != a) = true by rw [bne_iff_ne]; exact c]
      exact no1 (fun e => c e.2.2.2.2)
theorem FnExactIsGrowing_all (l : List (List Int)) (a : Int) (hl : l.length ≤ 1048576) (hr : ∀ r ∈ l, r.length ≤ 1048576) :
    ∃ (K : Nat) (r : Bool), ∀ k, K ≤ k → (laws_toMorphism.f k l = some l ∧ spec_IsGrowing.f k l a = some r ∧ impl_IsGrowing.f k l a = some r ∧ laws_eqMorphism.f k l l = some true) := by
  obtain ⟨K1, k1⟩ := laws_toMorphism_ev l hl hr
  obtain ⟨K2, k2⟩ := spec_IsGrowing_ev l a hl hr
  obtain ⟨K3, k3⟩ := impl_IsGrowing_ev l a hl hr
  obtain ⟨K4, k4⟩ := laws_eqMorphism_refl l hl hr
  exact ⟨K1 + K2 + K3 + K4, growR l a, fun k hk => ⟨k1 k (by omega), k2 k (by omega), k3 k (by omega), k4 k (by omega)⟩⟩

end Go.Proofs.Ytolikggioekalaa.Pure
