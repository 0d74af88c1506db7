/- At every morphism, letter and number the law's answer is true. -/
import Derived.Test.YtolikggioekalaaMFnExactIterateMorphismx6
import Derived.Test.YtolikggioekalaaG0
import Derived.Test.YtolikggioekalaaGSized
import Derived.Test.YtolikggioekalaaGArgs
import Derived.Test.YtolikggioekalaaGMarks
import Derived.Test.YtolikggioekalaaGMor
namespace Go.Proofs.Ytolikggioekalaa.Pure
open Go.RowKit Go.Proofs.Ytolikggioekalaa.PFnExactIterateMorphism Go.Proofs.YtolikggioekalaaW.PrintWords Go.Proofs.YtolikggioekalaaW.PrintLast Go.Proofs.YtolikggioekalaaW.PrintMore Go.Proofs.Ytolikggioekalaa.G
set_option linter.unusedVariables false
set_option linter.unusedSimpArgs false

/-! ### laws_toIntS -/
theorem laws_toIntS_loop (l : List Int) (hb : l.length ≤ 17592186044416) (d : Nat) : ∀ (n : Nat) (acc : List Int), acc.length = l.length → n ≤ l.length → l.length - n = d → acc.take n = l.take n →
    Ev (fun k => laws_toIntS.l0 k l acc (n : Int)) l := by
  induction d with
  | zero =>
    intro n acc h0 h1 h2 h3
    refine Ev_succ ?_
    simp only [laws_toIntS.l0]
    refine Ev_neg (by omega) (Ev_some ?_)
    have : n = l.length := by omega
    subst this
    rw [List.take_length, ← h0, List.take_length] at h3
    exact h3
  | succ d ih =>
    intro n acc h0 h1 h2 h3
    refine Ev_succ ?_
    simp only [laws_toIntS.l0]
    refine Ev_pos (by omega) (Ev_pos (by omega) (Ev_pos (by omega) ?_))
    rw [rd_cast, wsucc (by omega), Int.toNat_natCast]
    refine ih (n + 1) _ (by simpa using h0) (by omega) (by omega) ?_
    rw [set_take_succ acc n _ (by omega), take_succ_getD l n 0 (by omega), h3]

theorem laws_toIntS_ev (l : List Int) (hb : l.length ≤ 17592186044416) : Ev (fun k => laws_toIntS.f k l) l := by
  unfold laws_toIntS.f
  refine Ev_pos (by omega) (Ev_pos (by omega) ?_)
  exact laws_toIntS_loop l hb _ 0 _ (by simp) (by omega) rfl (by simp)

/-! ### laws_eqIntS -/
theorem laws_eqIntS_loop (a b : List Int) (hl : a.length = b.length) (hb : a.length ≤ 17592186044416) (d : Nat) : ∀ n : Nat, n ≤ a.length → a.length - n = d → a.take n = b.take n →
    Ev (fun k => laws_eqIntS.l0 k a b (n : Int)) (decide (a = b)) := by
  induction d with
  | zero =>
    intro n h1 h2 h3
    refine Ev_succ ?_
    simp only [laws_eqIntS.l0]
    refine Ev_neg (by omega) (Ev_some ?_)
    have : n = a.length := by omega
    subst this
    rw [List.take_length, hl, List.take_length] at h3
    simp [h3]
  | succ d ih =>
    intro n h1 h2 h3
    refine Ev_succ ?_
    simp only [laws_eqIntS.l0]
    refine Ev_pos (by omega) (Ev_pos (by omega) (Ev_pos (by omega) ?_))
    rw [rd_cast, rd_cast, wsucc (by omega)]
    refine Ev_ite (fun h => ?_) (fun h => Ev_some ?_)
    · refine ih (n + 1) (by omega) (by omega) ?_
      rw [take_succ_getD a n 0 (by omega), take_succ_getD b n 0 (by omega), h3, h]
    · symm
      rw [decide_eq_false_iff_not]
      intro e
      exact h (by rw [e])

theorem laws_eqIntS_ev (a b : List Int) (hb : a.length ≤ 17592186044416) : Ev (fun k => laws_eqIntS.f k a b) (decide (a = b)) := by
  unfold laws_eqIntS.f
  refine Ev_ite (fun h => ?_) (fun h => Ev_some ?_)
  · exact laws_eqIntS_loop a b (by omega) hb _ 0 (by omega) rfl (by simp)
  · symm
    rw [decide_eq_false_iff_not]
    intro e
    exact h (by rw [e])

/-! ### laws_markIntS -/
theorem laws_markIntS_loop (L : Nat) (m : Int) (hm : 0 ≤ m) (hm2 : m ≤ 17592186044416) (hb : L ≤ 17592186044416) (d : Nat) : ∀ (n : Nat) (acc : List Int), acc.length = L → n ≤ L → L - n = d → acc.take n = iota m n →
    Ev (fun k => laws_markIntS.l0 k acc (m + n) (n : Int)) (m + L, iota m L) := by
  induction d with
  | zero =>
    intro n acc h0 h1 h2 h3
    refine Ev_succ ?_
    simp only [laws_markIntS.l0]
    refine Ev_neg (by omega) (Ev_some ?_)
    have : n = L := by omega
    subst this
    rw [← h3, ← h0, List.take_length]
  | succ d ih =>
    intro n acc h0 h1 h2 h3
    refine Ev_succ ?_
    simp only [laws_markIntS.l0]
    refine Ev_pos (by omega) (Ev_pos (by omega) ?_)
    rw [wsucc (by omega), Int.toNat_natCast, w64 (n := m + (n : Int) + 1) (by omega) (by omega)]
    have e : m + (n : Int) + 1 = m + ((n + 1 : Nat) : Int) := by omega
    rw [e]
    refine ih (n + 1) _ (by simpa using h0) (by omega) (by omega) ?_
    rw [set_take_succ acc n _ (by omega), h3, iota_succ]

theorem laws_markIntS_ev (l : List Int) (m : Int) (hm : 0 ≤ m) (hm2 : m ≤ 17592186044416) (hb : l.length ≤ 17592186044416) : Ev (fun k => laws_markIntS.f k l m) (m + l.length, iota m l.length) := by
  unfold laws_markIntS.f
  have := laws_markIntS_loop l.length m hm hm2 hb _ 0 l rfl (by omega) rfl (by simp [iota])
  simpa using this

/-! ### laws_heldIntS -/
theorem laws_heldIntS_loop (L : Nat) (m : Int) (hm : 0 ≤ m) (hm2 : m ≤ 17592186044416) (hb : L ≤ 17592186044416) (d : Nat) : ∀ (n : Nat), n ≤ L → L - n = d →
    Ev (fun k => laws_heldIntS.l0 k (iota m L) (m + n) (n : Int)) (m + L) := by
  induction d with
  | zero =>
    intro n h1 h2
    refine Ev_succ ?_
    simp only [laws_heldIntS.l0]
    refine Ev_neg (by rw [iota_length]; omega) (Ev_some ?_)
    omega
  | succ d ih =>
    intro n h1 h2
    refine Ev_succ ?_
    simp only [laws_heldIntS.l0]
    refine Ev_pos (by rw [iota_length]; omega) (Ev_pos (by omega) ?_)
    rw [rd_cast, iota_getD m L n (by omega)]
    refine Ev_pos rfl ?_
    rw [wsucc (by omega), w64 (n := m + (n : Int) + 1) (by omega) (by omega)]
    have e : m + (n : Int) + 1 = m + ((n + 1 : Nat) : Int) := by omega
    rw [e]
    exact ih (n + 1) (by omega) (by omega)

theorem laws_heldIntS_ev (L : Nat) (m : Int) (hm : 0 ≤ m) (hm2 : m ≤ 17592186044416) (hb : L ≤ 17592186044416) : Ev (fun k => laws_heldIntS.f k (iota m L) m) (m + L) := by
  unfold laws_heldIntS.f
  have := laws_heldIntS_loop L m hm hm2 hb _ 0 (by omega) rfl
  simpa using this

/-! ### laws_szIntSS -/
theorem laws_szIntS_eq (l : List Int) (a : Int) (h : 0 ≤ a) (h2 : a ≤ 1048576) (hl : l.length ≤ maxLen) :
    laws_szIntS.f l a = some (if a < l.length then -1 else a - l.length) := by
  unfold maxLen at hl
  unfold laws_szIntS.f
  rw [w64 (n := a - (l.length : Int)) (by omega) (by omega)]
  by_cases c : a < l.length
  · rw [if_pos (by omega), if_pos c]
  · rw [if_neg (by omega), if_neg c]

theorem laws_szIntSS_loop (l : List (List Int)) (hm : l.length ≤ 1048576) (hr : ∀ r ∈ l, r.length ≤ maxLen) (d : Nat) : ∀ (n : Nat) (a : Int), n + d = l.length → 0 ≤ a → a ≤ 1048576 →
    ∃ r : Int, Ev (fun k => laws_szIntSS.l0 k l a (n : Int)) r ∧ r ≤ 1048576 ∧ (r < 0 ∨ ∀ i, n ≤ i → i < l.length → (l.getD i []).length ≤ 1048576) := by
  induction d with
  | zero =>
    intro n a h h0 h1
    refine ⟨a, Ev_succ ?_, h1, Or.inr (fun i h2 h3 => by omega)⟩
    simp only [laws_szIntSS.l0]
    exact Ev_neg (by omega) (Ev.now _)
  | succ d ih =>
    intro n a h h0 h1
    have hrow := hr (l.getD n []) (by rw [getD_eq (by omega)]; exact List.getElem_mem _)
    have es := laws_szIntS_eq (l.getD n []) a h0 h1 hrow
    by_cases c : a < (l.getD n []).length
    · refine ⟨-1, Ev_succ ?_, by omega, Or.inl (by omega)⟩
      simp only [laws_szIntSS.l0, rd_L1, Int.toNat_natCast, es, Option.bind_some, if_pos c]
      exact Ev_pos (by omega) (Ev_pos (by omega) (Ev_pos (by omega) (Ev.now _)))
    · obtain ⟨r, g1, g2, g3⟩ := ih (n + 1) (a - (l.getD n []).length) (by omega) (by omega) (by omega)
      refine ⟨r, Ev_succ ?_, g2, ?_⟩
      · simp only [laws_szIntSS.l0, rd_L1, Int.toNat_natCast, es, Option.bind_some, if_neg c]
        rw [wsucc (n := n) (by omega)]
        exact Ev_pos (by omega) (Ev_pos (by omega) (Ev_neg (by omega) g1))
      · rcases g3 with g3 | g3
        · exact Or.inl g3
        · refine Or.inr (fun i h2 h3 => ?_)
          by_cases e : i = n
          · subst e; omega
          · exact g3 i (by omega) h3

theorem laws_szIntSS_ev (l : List (List Int)) (a : Int) (h0 : 0 ≤ a) (h1 : a ≤ 1048576) (hm : l.length ≤ maxLen) (hr : ∀ r ∈ l, r.length ≤ maxLen) :
    ∃ r : Int, Ev (fun k => laws_szIntSS.f k l a) r ∧ r ≤ 1048576 ∧ (r < 0 ∨ (l.length ≤ 1048576 ∧ ∀ x ∈ l, x.length ≤ 1048576)) := by
  have hm' := hm
  unfold maxLen at hm
  unfold laws_szIntSS.f
  rw [w64 (n := a - (l.length : Int)) (by omega) (by omega)]
  by_cases c : a - (l.length : Int) < 0
  · exact ⟨-1, Ev_pos c (Ev.now _), by omega, Or.inl (by omega)⟩
  · obtain ⟨r, g1, g2, g3⟩ := laws_szIntSS_loop l (by omega) hr _ 0 (a - l.length) (Nat.zero_add _) (by omega) (by omega)
    refine ⟨r, Ev_neg c g1, g2, ?_⟩
    rcases g3 with g3 | g3
    · exact Or.inl g3
    · refine Or.inr ⟨by omega, fun x hx => ?_⟩
      obtain ⟨i, hi, rfl⟩ := List.getElem_of_mem hx
      have := g3 i (by omega) hi
      rwa [getD_eq hi] at this

/-! ### laws_toIntSS -/
theorem laws_toIntSS_loop (l : List (List Int)) (hm : l.length ≤ 1048576) (hr : ∀ x ∈ l, x.length ≤ 17592186044416) (d : Nat) : ∀ (n : Nat) (acc : List (List Int)), acc.length = l.length → n + d = l.length → acc.take n = l.take n →
    Ev (fun k => laws_toIntSS.l0 k l acc (n : Int)) l := by
  induction d with
  | zero =>
    intro n acc h0 h1 h2
    refine Ev_succ ?_
    simp only [laws_toIntSS.l0]
    refine Ev_neg (by omega) (Ev_some ?_)
    have : n = l.length := by omega
    subst this
    rw [List.take_length, ← h0, List.take_length] at h2
    exact h2
  | succ d ih =>
    intro n acc h0 h1 h2
    refine Ev_succ ?_
    simp only [laws_toIntSS.l0, rd_L1, Int.toNat_natCast]
    have hrow := hr (l.getD n []) (by rw [getD_eq (by omega)]; exact List.getElem_mem _)
    refine Ev_pos (by omega) (Ev_pos (by omega) (Ev_call _ (laws_toIntS_ev _ hrow) (Ev_pos (by omega) ?_)))
    rw [wsucc (n := n) (by omega)]
    refine ih (n + 1) _ (by simpa using h0) (by omega) ?_
    rw [set_take_succ acc n _ (by omega), take_succ_getD l n [] (by omega), h2]

theorem laws_toIntSS_ev (l : List (List Int)) (hm : l.length ≤ 1048576) (hr : ∀ x ∈ l, x.length ≤ 17592186044416) : Ev (fun k => laws_toIntSS.f k l) l := by
  unfold laws_toIntSS.f
  refine Ev_pos (by omega) (Ev_pos (by omega) ?_)
  exact laws_toIntSS_loop l hm hr _ 0 _ (by simp) (Nat.zero_add _) (by simp)

/-! ### laws_eqIntSS -/
theorem laws_eqIntSS_loop (a b : List (List Int)) (hl : a.length = b.length) (hb : a.length ≤ 1048576) (hr : ∀ x ∈ a, x.length ≤ 17592186044416) (d : Nat) : ∀ n : Nat, n + d = a.length → a.take n = b.take n →
    Ev (fun k => laws_eqIntSS.l0 k a b (n : Int)) (decide (a = b)) := by
  induction d with
  | zero =>
    intro n h1 h2
    refine Ev_succ ?_
    simp only [laws_eqIntSS.l0]
    refine Ev_neg (by omega) (Ev_some ?_)
    have : n = a.length := by omega
    subst this
    rw [List.take_length, hl, List.take_length] at h2
    simp [h2]
  | succ d ih =>
    intro n h1 h2
    refine Ev_succ ?_
    simp only [laws_eqIntSS.l0, rd_L1, Int.toNat_natCast]
    have hrow := hr (a.getD n []) (by rw [getD_eq (by omega)]; exact List.getElem_mem _)
    refine Ev_pos (by omega) (Ev_pos (by omega) (Ev_pos (by omega) (Ev_call _ (laws_eqIntS_ev _ _ hrow) ?_)))
    rw [wsucc (n := n) (by omega)]
    refine Ev_ite (fun h => ?_) (fun h => Ev_some ?_)
    · rw [decide_eq_true_eq] at h
      refine ih (n + 1) (by omega) ?_
      rw [take_succ_getD a n [] (by omega), take_succ_getD b n [] (by omega), h2, h]
    · rw [decide_eq_true_eq] at h
      symm
      rw [decide_eq_false_iff_not]
      intro e
      exact h (by rw [e])

theorem laws_eqIntSS_ev (a b : List (List Int)) (hb : a.length ≤ 1048576) (hr : ∀ x ∈ a, x.length ≤ 17592186044416) : Ev (fun k => laws_eqIntSS.f k a b) (decide (a = b)) := by
  unfold laws_eqIntSS.f
  refine Ev_ite (fun h => ?_) (fun h => Ev_some ?_)
  · exact laws_eqIntSS_loop a b (by omega) hb hr _ 0 (Nat.zero_add _) (by simp)
  · symm
    rw [decide_eq_false_iff_not]
    intro e
    exact h (by rw [e])

/-! ### laws_markIntSS -/
theorem laws_markIntSS_loop (rest : List (List Int)) : ∀ (pre : List (List Int)) (a : Int), 0 ≤ a → a + total rest ≤ 17592186044416 → (pre ++ rest).length ≤ 17592186044416 →
    Ev (fun k => laws_markIntSS.l0 k (pre ++ rest) a ((pre.length : Nat) : Int)) (a + total rest, pre ++ marks a rest) := by
  induction rest with
  | nil =>
    intro pre a h0 h1 h2
    refine Ev_succ ?_
    simp only [laws_markIntSS.l0]
    exact Ev_neg (by simp) (Ev_some (by simp [total, marks]))
  | cons r rs ih =>
    intro pre a h0 h1 h2
    simp only [total] at h1
    simp only [List.length_append, List.length_cons] at h2
    have hm := laws_markIntS_ev r a h0 (by omega) (by omega)
    refine Ev_succ ?_
    simp only [laws_markIntSS.l0, rd_L1, Int.toNat_natCast, getD_pre, set_pre]
    refine Ev_pos (by simp; omega) (Ev_pos (by omega) (Ev_call _ hm ?_))
    rw [wsucc (by omega)]
    have := ih (pre ++ [iota a r.length]) (a + r.length) (by omega) (by omega) (by simp; omega)
    simp only [List.length_append, List.length_cons, List.length_nil] at this
    refine Ev_eq this ?_
    simp only [total, marks, List.append_assoc, List.cons_append, List.nil_append, Int.natCast_add]
    congr 1
    omega

theorem laws_markIntSS_ev (l : List (List Int)) (a : Int) (h0 : 0 ≤ a) (h1 : a + total l ≤ 17592186044416) (h2 : l.length ≤ 17592186044416) : Ev (fun k => laws_markIntSS.f k l a) (a + total l, marks a l) := by
  unfold laws_markIntSS.f
  have := laws_markIntSS_loop l [] a h0 h1 (by simpa using h2)
  simpa using this

/-! ### laws_Morphism -/
theorem laws_szMorphism_ev (l : List (List Int)) (hm : l.length ≤ maxLen) (hr : ∀ r ∈ l, r.length ≤ maxLen) :
    ∃ r : Int, Ev (fun k => laws_szMorphism.f k l 1048576) r ∧ (r < 0 ∨ (l.length ≤ 1048576 ∧ (∀ x ∈ l, x.length ≤ 1048576))) := by
  obtain ⟨r, g1, g2, g3⟩ := laws_szIntSS_ev l 1048576 (by omega) (by omega) hm hr
  unfold laws_szMorphism.f
  by_cases c : r < 0
  · exact ⟨-1, Ev_call _ g1 (Ev_pos c (Ev.now _)), Or.inl (by omega)⟩
  · exact ⟨r, Ev_call _ g1 (Ev_neg c (Ev.now _)), Or.inr (g3.resolve_left c)⟩
theorem laws_toMorphism_ev (l : List (List Int)) (hm : l.length ≤ 1048576) (hr : ∀ x ∈ l, x.length ≤ 1048576) : Ev (fun k => laws_toMorphism.f k l) l := by
  unfold laws_toMorphism.f
  exact Ev_call _ (laws_toIntSS_ev l hm (fun x hx => Nat.le_trans (hr x hx) (by omega))) (Ev.now _)
theorem laws_eqMorphism_refl (l : List (List Int)) (hm : l.length ≤ 1048576) (hr : ∀ x ∈ l, x.length ≤ 1048576) : Ev (fun k => laws_eqMorphism.f k l l) true := by
  unfold laws_eqMorphism.f
  have := laws_eqIntSS_ev l l hm (fun x hx => Nat.le_trans (hr x hx) (by omega))
  refine Ev_call _ this (Ev_pos (by simp) (Ev.now _))
theorem laws_markMorphism_ev (l : List (List Int)) (a : Int) (h0 : 0 ≤ a) (h1 : a + total l ≤ 17592186044416) (h2 : l.length ≤ 17592186044416) : Ev (fun k => laws_markMorphism.f k l a) (a + total l, marks a l) := laws_markIntSS_ev l a h0 h1 h2

/-! ### spec_l1In -/
theorem spec_l1In_eq (x a b : Int) : spec_l1In.f x a b = some (decide (a ≤ x ∧ x ≤ b)) := by
  unfold spec_l1In.f
  by_cases h : x ≥ a
  · rw [if_pos h]; simp [h]
  · rw [if_neg h]; congr 1; symm; rw [decide_eq_false_iff_not]; omega

/-! ### spec_IsWord -/
theorem spec_IsWord_loop (w : List Int) (n : Nat) (hw : w.length ≤ 1048576) (hn : n ≤ 1048576) (d : Nat) : ∀ i : Nat, i + d = w.length →
    Ev (fun k => spec_IsWord.l0 k w (n : Int) (i : Int)) (decide (RowIn n (w.drop i) ∧ (1 ≤ n ∧ n ≤ 16) ∧ w.length ≤ 400)) := by
  induction d with
  | zero =>
    intro i h
    refine Ev_succ ?_
    simp only [spec_IsWord.l0]
    have e : w.drop i = [] := List.drop_of_length_le (by omega)
    rw [e]
    refine Ev_neg (by omega) ?_
    by_cases c : 1 ≤ n ∧ n ≤ 16
    · refine Ev_call true (Ev_const ?_) (Ev_pos rfl (Ev_some ?_))
      · unfold spec_l1In.f; rw [if_pos (by omega)]; congr 1; simp; omega
      · rw [decide_eq_decide]; constructor
        · exact fun h => ⟨by simp [RowIn], c, by omega⟩
        · exact fun h => by have := h.2.2; omega
    · refine Ev_call false (Ev_const ?_) (Ev_neg (by simp) (Ev_some ?_))
      · unfold spec_l1In.f
        by_cases c1 : (n : Int) ≥ 1
        · rw [if_pos c1]; congr 1; simp; omega
        · rw [if_neg c1]
      · symm; rw [decide_eq_false_iff_not]; exact fun h => c h.2.1
  | succ d ih =>
    intro i h
    refine Ev_succ ?_
    simp only [spec_IsWord.l0, rd_cast]
    rw [wsucc (n := i) (by omega), drop_cons w i 0 (by omega)]
    refine Ev_pos (by omega) (Ev_pos (by omega) ?_)
    refine Ev_ite (fun h1 => Ev_some ?_) (fun h1 => Ev_ite (fun h2 => Ev_some ?_) (fun h2 => Ev_eq (ih (i + 1) (by omega)) ?_))
    · symm; rw [decide_eq_false_iff_not]; intro e; have := e.1 _ List.mem_cons_self; omega
    · symm; rw [decide_eq_false_iff_not]; intro e; have := e.1 _ List.mem_cons_self; omega
    · rw [decide_eq_decide]
      constructor
      · rintro ⟨e, e2⟩
        refine ⟨fun v hv => ?_, e2⟩
        rcases List.mem_cons.1 hv with rfl | hv
        · exact ⟨by omega, by omega⟩
        · exact e v hv
      · exact fun ⟨e, e2⟩ => ⟨fun v hv => e v (List.mem_cons_of_mem _ hv), e2⟩

theorem spec_IsWord_ev (w : List Int) (n : Nat) (hw : w.length ≤ 1048576) (hn : n ≤ 1048576) : Ev (fun k => spec_IsWord.f k w (n : Int)) (okWord w n) := by
  unfold spec_IsWord.f okWord
  have := spec_IsWord_loop w n hw hn w.length 0 (by omega)
  rwa [List.drop_zero] at this

/-! ### spec_IsMorphism -/
theorem spec_IsMorphism_loop (l : List (List Int)) (hl : l.length ≤ 1048576) (hr : ∀ r ∈ l, r.length ≤ 1048576) (d : Nat) : ∀ i : Nat, i + d = l.length →
    Ev (fun k => spec_IsMorphism.l0 k (i : Int) l) (decide ((1 ≤ l.length ∧ l.length ≤ 16) ∧ ∀ r ∈ l.drop i, r.length ≤ 8 ∧ RowIn l.length r)) := by
  induction d with
  | zero =>
    intro i h
    refine Ev_succ ?_
    simp only [spec_IsMorphism.l0]
    have e : l.drop i = [] := List.drop_of_length_le (by omega)
    rw [e]
    refine Ev_neg (by omega) (Ev_call _ (Ev_const (r := decide (1 ≤ l.length ∧ l.length ≤ 16)) ?_) (Ev_some (by simp)))
    unfold spec_l1In.f
    by_cases c1 : (l.length : Int) ≥ 1
    · rw [if_pos c1]; congr 1; rw [decide_eq_decide]; omega
    · rw [if_neg c1]; congr 1; symm; rw [decide_eq_false_iff_not]; omega
  | succ d ih =>
    intro i h
    have hrow := hr (l.getD i []) (by rw [getD_eq (by omega)]; exact List.getElem_mem _)
    have hw := spec_IsWord_ev (l.getD i []) l.length hrow hl
    refine Ev_succ ?_
    simp only [spec_IsMorphism.l0, rd_L1, Int.toNat_natCast]
    rw [wsucc (n := i) (by omega), drop_cons l i [] (by omega)]
    refine Ev_pos (by omega) (Ev_pos (by omega) (Ev_call _ hw ?_))
    unfold okWord
    refine Ev_ite (fun h1 => Ev_ite (fun h2 => Ev_some ?_) (fun h2 => Ev_eq (ih (i + 1) (by omega)) ?_)) (fun h1 => Ev_some ?_)
    · symm; rw [decide_eq_false_iff_not]; intro e; have := (e.2 _ List.mem_cons_self).1; omega
    · rw [decide_eq_true_eq] at h1
      rw [decide_eq_decide]
      constructor
      · rintro ⟨e, e2⟩
        refine ⟨e, fun r hr => ?_⟩
        rcases List.mem_cons.1 hr with rfl | hr
        · exact ⟨by omega, h1.1⟩
        · exact e2 r hr
      · exact fun ⟨e, e2⟩ => ⟨e, fun r hr => e2 r (List.mem_cons_of_mem _ hr)⟩
    · rw [decide_eq_true_eq] at h1
      symm; rw [decide_eq_false_iff_not]
      intro e
      have := e.2 _ List.mem_cons_self
      exact h1 ⟨this.2, e.1, by omega⟩

theorem spec_IsMorphism_ev (l : List (List Int)) (hl : l.length ≤ 1048576) (hr : ∀ r ∈ l, r.length ≤ 1048576) : Ev (fun k => spec_IsMorphism.f k l) (okMor l) := by
  unfold spec_IsMorphism.f okMor
  have := spec_IsMorphism_loop l hl hr l.length 0 (by omega)
  rwa [List.drop_zero] at this

/-! ### spec_ApplyMorphism -/
theorem spec_ApplyMorphism_loop (l : List (List Int)) (w : List Int) (h1 : okMor l = true) (h2 : okWord w l.length = true) (d : Nat) : ∀ i : Nat, i + d = w.length → (appM l (w.take i)).length ≤ 400 →
    Ev (fun k => spec_ApplyMorphism.l0 k w (appM l (w.take i)) (i : Int) l) (appR l w) := by
  have m1 := h1
  have m2 := h2
  unfold okMor at m1
  unfold okWord at m2
  rw [decide_eq_true_eq] at m1 m2
  induction d with
  | zero =>
    intro i h h3
    have e : w.take i = w := List.take_of_length_le (by omega)
    rw [e] at h3 ⊢
    refine Ev_succ ?_
    simp only [spec_ApplyMorphism.l0]
    refine Ev_neg (by omega) (Ev_some ?_)
    unfold appR
    rw [if_pos ⟨h1, h2, h3⟩]
  | succ d ih =>
    intro i h h3
    have hv := m2.1 (w.getD i 0) (by rw [getD_eq (by omega)]; exact List.getElem_mem _)
    have h8 := appM_len (l := l) (fun r hr => (m1.2 r hr).1) (w.take (i + 1))
    have hw := m2.2.2
    rw [List.length_take] at h8
    have ht := appM_take (l := l) w i (by omega)
    have hl := congrArg List.length ht
    rw [List.length_append] at hl
    refine Ev_succ ?_
    simp only [spec_ApplyMorphism.l0, rd_cast, rd_L1]
    rw [wsucc (n := i) (by omega)]
    refine Ev_pos (by omega) (Ev_pos (by omega) (Ev_pos (by omega) (Ev_pos (by omega) (Ev_pos (by omega) (Ev_call _ (Ev.now _) ?_)))))
    rw [← ht]
    refine Ev_ite (fun h4 => Ev_some ?_) (fun h4 => ih (i + 1) (by omega) (by omega))
    unfold appR
    have := appM_mono (l := l) w (i + 1)
    rw [if_neg (fun e => by have := e.2.2; omega)]

theorem spec_ApplyMorphism_ev (l : List (List Int)) (w : List Int) (hl : l.length ≤ 1048576) (hr : ∀ r ∈ l, r.length ≤ 1048576) (hw : w.length ≤ 1048576) : Ev (fun k => spec_ApplyMorphism.f k l w) (appR l w) := by
  have g1 := spec_IsMorphism_ev l hl hr
  have g2 := spec_IsWord_ev w l.length hw hl
  have no : ¬ (okMor l = true ∧ okWord w l.length = true) → Ev (fun k => spec_ApplyMorphism.j0 k w [] true l) (appR l w) := by
    intro h
    refine Ev_succ ?_
    simp only [spec_ApplyMorphism.j0]
    refine Ev_pos (by simp) (Ev_some ?_)
    unfold appR
    rw [if_neg (fun e => h ⟨e.1, e.2.1⟩)]
  unfold spec_ApplyMorphism.f
  refine Ev_call _ (Ev.now _) (Ev_call _ g1 (Ev_ite (fun h1 => Ev_call _ g2 ?_) (fun h1 => no (fun e => h1 e.1))))
  by_cases h2 : okWord w l.length = true
  · rw [h2]
    refine Ev_succ ?_
    simp only [spec_ApplyMorphism.j0]
    have := spec_ApplyMorphism_loop l w h1 h2 w.length 0 (by omega) (by simp [appM])
    exact Ev_neg (by simp) (by simpa [appM] using this)
  · rw [Bool.eq_false_iff.mpr h2]
    exact no (fun e => h2 e.2)

/-! ### impl_areLetters -/
theorem impl_areLetters_loop (w : List Int) (n : Nat) (hw : w.length ≤ 1048576) (d : Nat) : ∀ i : Nat, i + d = w.length →
    Ev (fun k => impl_areLetters.l0 k (n : Int) w (w.length : Int) (i : Int)) (decide (RowIn n (w.drop i))) := by
  induction d with
  | zero =>
    intro i h
    refine Ev_succ ?_
    simp only [impl_areLetters.l0]
    have e : w.drop i = [] := List.drop_of_length_le (by omega)
    rw [e]
    exact Ev_neg (by omega) (Ev_some (by simp [RowIn]))
  | succ d ih =>
    intro i h
    refine Ev_succ ?_
    simp only [impl_areLetters.l0, rd_cast]
    rw [wsucc (n := i) (by omega), drop_cons w i 0 (by omega)]
    refine Ev_pos (by omega) (Ev_pos (by omega) (Ev_pos (by omega) ?_))
    refine Ev_ite (fun h1 => Ev_some ?_) (fun h1 => Ev_ite (fun h2 => Ev_some ?_) (fun h2 => Ev_eq (ih (i + 1) (by omega)) ?_))
    · symm; rw [decide_eq_false_iff_not]; intro e; have := e _ List.mem_cons_self; omega
    · symm; rw [decide_eq_false_iff_not]; intro e; have := e _ List.mem_cons_self; omega
    · rw [decide_eq_decide]
      constructor
      · intro e v hv
        rcases List.mem_cons.1 hv with rfl | hv
        · exact ⟨by omega, by omega⟩
        · exact e v hv
      · exact fun e v hv => e v (List.mem_cons_of_mem _ hv)

theorem impl_areLetters_ev (w : List Int) (n : Nat) (hw : w.length ≤ 1048576) : Ev (fun k => impl_areLetters.f k w (n : Int)) (decide (RowIn n w)) := by
  unfold impl_areLetters.f
  have := impl_areLetters_loop w n hw w.length 0 (by omega)
  rwa [List.drop_zero] at this

/-! ### impl_IsMorphism -/
theorem impl_IsMorphism_loop (l : List (List Int)) (hl : l.length ≤ 1048576) (hr : ∀ r ∈ l, r.length ≤ 1048576) (d : Nat) : ∀ i : Nat, i + d = l.length →
    Ev (fun k => impl_IsMorphism.l0 k (l.length : Int) l (l.length : Int) (i : Int)) (decide (∀ r ∈ l.drop i, r.length ≤ 8 ∧ RowIn l.length r)) := by
  induction d with
  | zero =>
    intro i h
    refine Ev_succ ?_
    simp only [impl_IsMorphism.l0]
    have e : l.drop i = [] := List.drop_of_length_le (by omega)
    rw [e]
    exact Ev_neg (by omega) (Ev_some (by simp))
  | succ d ih =>
    intro i h
    have hrow := hr (l.getD i []) (by rw [getD_eq (by omega)]; exact List.getElem_mem _)
    have hw := impl_areLetters_ev (l.getD i []) l.length hrow
    refine Ev_succ ?_
    simp only [impl_IsMorphism.l0, rd_L1, Int.toNat_natCast]
    rw [wsucc (n := i) (by omega), drop_cons l i [] (by omega)]
    refine Ev_pos (by omega) (Ev_pos (by omega) (Ev_pos (by omega) ?_))
    refine Ev_ite (fun h1 => Ev_some ?_) (fun h1 => Ev_call _ hw (Ev_ite (fun h2 => Ev_eq (ih (i + 1) (by omega)) ?_) (fun h2 => Ev_some ?_)))
    · symm; rw [decide_eq_false_iff_not]; intro e; have := (e _ List.mem_cons_self).1; omega
    · rw [decide_eq_true_eq] at h2
      rw [decide_eq_decide]
      constructor
      · intro e2 r hr
        rcases List.mem_cons.1 hr with rfl | hr
        · exact ⟨by omega, h2⟩
        · exact e2 r hr
      · exact fun e2 r hr => e2 r (List.mem_cons_of_mem _ hr)
    · rw [decide_eq_true_eq] at h2
      symm; rw [decide_eq_false_iff_not]
      intro e
      exact h2 (e _ List.mem_cons_self).2

theorem impl_IsMorphism_ev (l : List (List Int)) (hl : l.length ≤ 1048576) (hr : ∀ r ∈ l, r.length ≤ 1048576) : Ev (fun k => impl_IsMorphism.f k l) (okMor l) := by
  have no : ¬ (1 ≤ l.length ∧ l.length ≤ 16) → okMor l = false := fun h => by unfold okMor; rw [decide_eq_false_iff_not]; exact fun e => h e.1
  unfold impl_IsMorphism.f
  refine Ev_ite (fun h => ?_) (fun h => ?_)
  · refine Ev_succ ?_
    simp only [impl_IsMorphism.j0]
    exact Ev_pos (by simp) (Ev_some (no (by omega)).symm)
  · refine Ev_succ ?_
    simp only [impl_IsMorphism.j0]
    by_cases c : l.length ≤ 16
    · refine Ev_neg (by simp; omega) ?_
      have := impl_IsMorphism_loop l hl hr l.length 0 (by omega)
      rw [List.drop_zero] at this
      refine Ev_eq this ?_
      unfold okMor
      rw [decide_eq_decide]
      exact ⟨fun e => ⟨by omega, e⟩, fun e => e.2⟩
    · exact Ev_pos (by simp; omega) (Ev_some (no (by omega)).symm)

/-! ### impl_IsWord -/
theorem impl_IsWord_ev (w : List Int) (n : Nat) (hw : w.length ≤ 1048576) : Ev (fun k => impl_IsWord.f k w (n : Int)) (okWord w n) := by
  unfold impl_IsWord.f okWord
  have no : ¬ ((1 ≤ n ∧ n ≤ 16) ∧ w.length ≤ 400) → Ev (fun _ => some false) (decide (RowIn n w ∧ (1 ≤ n ∧ n ≤ 16) ∧ w.length ≤ 400)) := fun h => Ev_some (by symm; rw [decide_eq_false_iff_not]; exact fun e => h e.2)
  refine Ev_ite (fun h1 => Ev_ite (fun h2 => Ev_ite (fun h3 => ?_) (fun h => no (by omega))) (fun h => no (by omega))) (fun h => no (by omega))
  refine Ev_call _ (impl_areLetters_ev w n hw) (Ev_some ?_)
  rw [decide_eq_decide]
  exact ⟨fun e => ⟨e, by omega, by omega⟩, fun e => e.1⟩

/-! ### impl_ApplyMorphism -/
theorem impl_ApplyMorphism_loop (l : List (List Int)) (w : List Int) (h1 : okMor l = true) (h2 : okWord w l.length = true) (d : Nat) : ∀ i : Nat, i + d = w.length →
    Ev (fun k => impl_ApplyMorphism.l0 k (appM l (w.take i)) w (w.length : Int) (i : Int) l) (appR l w) := by
  have m1 := h1
  have m2 := h2
  unfold okMor at m1
  unfold okWord at m2
  rw [decide_eq_true_eq] at m1 m2
  induction d with
  | zero =>
    intro i h
    have e : w.take i = w := List.take_of_length_le (by omega)
    rw [e]
    refine Ev_succ ?_
    simp only [impl_ApplyMorphism.l0]
    refine Ev_neg (by omega) (Ev_ite (fun h3 => Ev_some ?_) (fun h3 => Ev_some ?_))
    · unfold appR
      rw [if_neg (fun e => by have := e.2.2; omega)]
    · unfold appR
      rw [if_pos ⟨h1, h2, by omega⟩]
  | succ d ih =>
    intro i h
    have hv := m2.1 (w.getD i 0) (by rw [getD_eq (by omega)]; exact List.getElem_mem _)
    have h8 := appM_len (l := l) (fun r hr => (m1.2 r hr).1) (w.take (i + 1))
    have hw := m2.2.2
    rw [List.length_take] at h8
    have ht := appM_take (l := l) w i (by omega)
    have hl := congrArg List.length ht
    rw [List.length_append] at hl
    refine Ev_succ ?_
    simp only [impl_ApplyMorphism.l0, rd_cast, rd_L1]
    rw [wsucc (n := i) (by omega)]
    refine Ev_pos (by omega) (Ev_pos (by omega) (Ev_pos (by omega) (Ev_pos (by omega) (Ev_pos (by omega) (Ev_pos (by omega) ?_)))))
    rw [← ht]
    exact ih (i + 1) (by omega)

theorem impl_ApplyMorphism_ev (l : List (List Int)) (w : List Int) (hl : l.length ≤ 1048576) (hr : ∀ r ∈ l, r.length ≤ 1048576) (hw : w.length ≤ 1048576) : Ev (fun k => impl_ApplyMorphism.f k l w) (appR l w) := by
  have g1 := impl_IsMorphism_ev l hl hr
  have g2 := impl_IsWord_ev w l.length hw
  have no : ¬ (okMor l = true ∧ okWord w l.length = true) → Ev (fun k => impl_ApplyMorphism.j0 k w true l) (appR l w) := by
    intro h
    refine Ev_succ ?_
    simp only [impl_ApplyMorphism.j0]
    refine Ev_pos (by simp) (Ev_some ?_)
    unfold appR
    rw [if_neg (fun e => h ⟨e.1, e.2.1⟩)]
  unfold impl_ApplyMorphism.f
  refine Ev_call _ g1 (Ev_ite (fun h1 => Ev_call _ g2 ?_) (fun h1 => no (fun e => h1 e.1)))
  by_cases h2 : okWord w l.length = true
  · rw [h2]
    refine Ev_succ ?_
    simp only [impl_ApplyMorphism.j0]
    have := impl_ApplyMorphism_loop l w h1 h2 w.length 0 (by omega)
    exact Ev_neg (by simp) (by simpa [appM] using this)
  · rw [Bool.eq_false_iff.mpr h2]
    exact no (fun e => h2 e.2)

def itN (l : List (List Int)) : Nat → List Int → List Int × Bool
  | 0, x => (x, true)
  | d + 1, x => if (appR l x).2 = true then itN l d (appR l x).1 else ([], false)
def iterR (l : List (List Int)) (a n : Int) : List Int × Bool := if okMor l = true ∧ 0 ≤ a ∧ a < (l.length : Int) ∧ 0 ≤ n ∧ n ≤ 20 then itN l n.toNat [a] else ([], false)
theorem appR_short (l : List (List Int)) (w : List Int) : (appR l w).1.length ≤ 400 := by unfold appR; split <;> simp_all
theorem itN_length (l : List (List Int)) (d : Nat) : ∀ x : List Int, x.length ≤ 400 → (itN l d x).1.length ≤ 400 := by
  induction d with
  | zero => intro x h; exact h
  | succ d ih =>
    intro x h
    rw [itN]
    split
    · exact ih _ (appR_short l x)
    · simp
theorem iterR_length (l : List (List Int)) (a n : Int) : (iterR l a n).1.length ≤ 400 := by
  unfold iterR
  split
  · exact itN_length l _ _ (by simp)
  · simp
theorem spec_IterateMorphism_loop (l : List (List Int)) (hl : l.length ≤ 1048576) (hr : ∀ r ∈ l, r.length ≤ 1048576) (n : Nat) (hn : n ≤ 20) (d : Nat) : ∀ (i : Nat) (x : List Int), i + d = n → x.length ≤ 400 →
    Ev (fun k => spec_IterateMorphism.l0 k (n : Int) x (i : Int) l) (itN l d x) := by
  induction d with
  | zero =>
    intro i x h hx
    refine Ev_succ ?_
    simp only [spec_IterateMorphism.l0]
    exact Ev_neg (by omega) (Ev.now _)
  | succ d ih =>
    intro i x h hx
    refine Ev_succ ?_
    simp only [spec_IterateMorphism.l0]
    rw [wsucc (n := i) (by omega), itN]
    refine Ev_pos (by omega) (Ev_call _ (spec_ApplyMorphism_ev l x hl hr (by omega)) ?_)
    by_cases c : (appR l x).2 = true
    · rw [if_pos c]
      exact Ev_pos c (ih (i + 1) _ (by omega) (appR_short l x))
    · rw [if_neg c]
      exact Ev_neg c (Ev.now _)
theorem impl_IterateMorphism_loop (l : List (List Int)) (hl : l.length ≤ 1048576) (hr : ∀ r ∈ l, r.length ≤ 1048576) (n : Nat) (hn : n ≤ 20) (d : Nat) : ∀ (i : Nat) (x : List Int), i + d = n → x.length ≤ 400 →
    Ev (fun k => impl_IterateMorphism.l0 k x (n : Int) (i : Int) l) (itN l d x) := by
  induction d with
  | zero =>
    intro i x h hx
    refine Ev_succ ?_
    simp only [impl_IterateMorphism.l0]
    exact Ev_neg (by omega) (Ev.now _)
  | succ d ih =>
    intro i x h hx
    refine Ev_succ ?_
    simp only [impl_IterateMorphism.l0]
    rw [wsucc (n := i) (by omega), itN]
    refine Ev_pos (by omega) (Ev_call _ (impl_ApplyMorphism_ev l x hl hr (by omega)) ?_)
    by_cases c : (appR l x).2 = true
    · rw [if_pos c]
      exact Ev_pos c (ih (i + 1) _ (by omega) (appR_short l x))
    · rw [if_neg c]
      exact Ev_neg c (Ev.now _)
theorem spec_IterateMorphism_ev (l : List (List Int)) (a n : Int) (hl : l.length ≤ 1048576) (hr : ∀ r ∈ l, r.length ≤ 1048576) : Ev (fun k => spec_IterateMorphism.f k l a n) (iterR l a n) := by
  have no : ¬ (okMor l = true ∧ 0 ≤ a ∧ a < (l.length : Int) ∧ 0 ≤ n ∧ n ≤ 20) → Ev (fun k => spec_IterateMorphism.j0 k n [a] true l) (iterR l a n) := by
    intro h
    refine Ev_succ ?_
    simp only [spec_IterateMorphism.j0]
    refine Ev_pos (by simp) (Ev_some ?_)
    unfold iterR
    rw [if_neg h]
  have hin : Ev (fun _ => spec_l1In.f n 0 20) (decide (0 ≤ n ∧ n ≤ 20)) := by
    exact Ev_const (spec_l1In_eq n 0 20)
  unfold spec_IterateMorphism.f
  refine Ev_call _ (Ev.now _) (Ev_call _ (spec_IsMorphism_ev l hl hr) (Ev_ite (fun h1 => Ev_call _ (spec_IsWord_ev [a] l.length (by simp) hl) ?_) (fun h1 => no (fun e => h1 e.1))))
  have hm : 1 ≤ l.length ∧ l.length ≤ 16 := by
    have := h1
    unfold okMor at this
    exact (of_decide_eq_true this).1
  have hw : okWord [a] l.length = true ↔ 0 ≤ a ∧ a < (l.length : Int) := by
    unfold okWord
    rw [decide_eq_true_eq]
    constructor
    · intro h; exact h.1 a (by simp)
    · intro h
      refine ⟨fun v hv => ?_, hm, by simp⟩
      rw [List.mem_singleton] at hv
      subst hv
      exact h
  refine Ev_ite (fun h2 => Ev_call _ hin ?_) (fun h2 => no (fun e => h2 (hw.2 ⟨e.2.1, e.2.2.1⟩)))
  have h3 := hw.1 h2
  by_cases c : 0 ≤ n ∧ n ≤ 20
  · rw [decide_eq_true c]
    refine Ev_succ ?_
    simp only [spec_IterateMorphism.j0]
    refine Ev_neg (by simp) ?_
    unfold iterR
    rw [if_pos ⟨h1, h3.1, h3.2, c.1, c.2⟩]
    have := spec_IterateMorphism_loop l hl hr n.toNat (by omega) n.toNat 0 [a] (by omega) (by simp)
    rw [Int.toNat_of_nonneg c.1] at this
    exact this
  · rw [decide_eq_false c]
    exact no (fun e => c ⟨e.2.2.2.1, e.2.2.2.2⟩)
theorem impl_IterateMorphism_ev (l : List (List Int)) (a n : Int) (hl : l.length ≤ 1048576) (hr : ∀ r ∈ l, r.length ≤ 1048576) : Ev (fun k => impl_IterateMorphism.f k l a n) (iterR l a n) := by
  have no : ¬ (okMor l = true ∧ 0 ≤ a ∧ a < (l.length : Int) ∧ 0 ≤ n ∧ n ≤ 20) → Ev (fun k => impl_IterateMorphism.j0 k a n true l) (iterR l a n) := by
    intro h
    refine Ev_succ ?_
    simp only [impl_IterateMorphism.j0]
    refine Ev_pos (by simp) (Ev_some ?_)
    unfold iterR
    rw [if_neg h]
  unfold impl_IterateMorphism.f
  refine Ev_call _ (impl_IsMorphism_ev l hl hr) (Ev_ite (fun h1 => Ev_ite (fun h2 => no (fun e => by omega)) (fun h2 => Ev_ite (fun h3 => no (fun e => by omega)) (fun h3 => Ev_ite (fun h4 => no (fun e => by omega)) (fun h4 => ?_)))) (fun h1 => no (fun e => h1 e.1)))
  by_cases c : n > 20
  · rw [decide_eq_true c]
    exact no (fun e => by omega)
  · rw [decide_eq_false c]
    refine Ev_succ ?_
    simp only [impl_IterateMorphism.j0]
    refine Ev_neg (by simp) ?_
    unfold iterR
    rw [if_pos ⟨h1, by omega, by omega, by omega, by omega⟩]
    have := impl_IterateMorphism_loop l hl hr n.toNat (by omega) n.toNat 0 [a] (by omega) (by simp)
    rw [Int.toNat_of_nonneg (by omega)] at this
    exact this
theorem FnExactIterateMorphism (l : List (List Int)) (a n : Int) (hm : l.length ≤ maxLen) (hr : ∀ r ∈ l, r.length ≤ maxLen) :
    ∃ k, laws_FnExactIterateMorphism.f k l a n = some true := by
  refine Ev.rounds ?_
  unfold laws_FnExactIterateMorphism.f
  obtain ⟨r, s1, s2⟩ := laws_szMorphism_ev l hm hr
  refine Ev_call _ s1 (Ev_ite (fun _ => Ev.now _) (fun h => ?_))
  obtain ⟨m1, m2⟩ := s2.resolve_left h
  have t1 := laws_toMorphism_ev l m1 m2
  have t3 := laws_eqMorphism_refl l m1 m2
  have ht := total_small m1 m2
  have t5 := laws_markMorphism_ev l 1 (by omega) (by omega) (by omega)
  have h1 := spec_IterateMorphism_ev l a n m1 m2
  have h2 := impl_IterateMorphism_ev l a n m1 m2
  have hx := iterR_length l a n
  generalize iterR l a n = x at h1 h2 hx
  obtain ⟨x, b⟩ := x
  have e1 := laws_eqIntS_ev x x (by simp only at hx; omega)
  have e2 := laws_markIntS_ev x 1 (by omega) (by omega) (by simp only at hx; omega)
  have e3 := laws_heldIntS_ev x.length 1 (by omega) (by omega) (by simp only at hx; omega)
  simp only at hx
  clear s1 s2 m2 hr
  repeat (first
    | exact Ev.now _
    | (refine Ev_call _ (by with_reducible assumption) ?_; try dsimp only)
    | (refine Ev_call _ (laws_markIntS_ev _ _ (by omega) (by omega) (by omega)) ?_; try dsimp only)
    | (refine Ev_call _ (laws_heldIntS_ev _ _ (by omega) (by omega) (by omega)) ?_; try dsimp only)
    | refine Ev_call _ (laws_eqIntS_ev _ _ (by omega)) ?_
    | (refine Ev_pos ?hc ?_; (case hc => first | with_reducible rfl | omega | (simp; done)))
    | (refine Ev_neg ?hc ?_; (case hc => first | omega | (simp; done)))
    | (refine Ev_succ ?_; simp only [laws_FnExactIterateMorphism.j0, laws_FnExactIterateMorphism.j1, laws_FnExactIterateMorphism.j2]))

end Go.Proofs.Ytolikggioekalaa.Pure
