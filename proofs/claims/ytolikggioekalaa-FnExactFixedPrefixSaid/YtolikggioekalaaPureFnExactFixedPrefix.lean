/- At every morphism, letter and length both answer one word. -/
import Derived.Test.YtolikggioekalaaWalkFnExactFixedPrefix
import Derived.Test.YtolikggioekalaaG0
import Derived.Test.YtolikggioekalaaGSized
import Derived.Test.YtolikggioekalaaGArgs
import Derived.Test.YtolikggioekalaaGMarks
import Derived.Test.YtolikggioekalaaGMor
import Derived.Test.YtolikggioekalaaGGrow
namespace Go.Proofs.Ytolikggioekalaa.Pure
open Go.RowKit Go.Proofs.Ytolikggioekalaa.PFnExactFixedPrefix Go.Proofs.YtolikggioekalaaW.PrintWords Go.Proofs.YtolikggioekalaaW.PrintLast Go.Proofs.YtolikggioekalaaW.PrintMore Go.Proofs.Ytolikggioekalaa.G
set_option linter.unusedVariables false
set_option linter.unusedSimpArgs false

/-! ### laws_szIntSS -/
theorem laws_szIntS_eq (l : List Int) (a : Int) (h : 0 ≤ a) (h2 : a ≤ 1048576) (hl : l.length ≤ maxLen) :
    laws_szIntS.f l a = some (if a < l.length then -1 else a - l.length) := by
  unfold maxLen at hl
  unfold laws_szIntS.f
  rw [w64 (n := a - (l.length : Int)) (by omega) (by omega)]
  by_cases c : a < l.length
  · rw [if_pos (by omega), if_pos c]
  · rw [if_neg (by omega), if_neg c]

theorem laws_szIntSS_loop (l : List (List Int)) (hm : l.length ≤ 1048576) (hr : ∀ r ∈ l, r.length ≤ maxLen) (d : Nat) : ∀ (n : Nat) (a : Int), n + d = l.length → 0 ≤ a → a ≤ 1048576 →
    ∃ r : Int, Ev (fun k => laws_szIntSS.l0 k l a (n : Int)) r ∧ r ≤ 1048576 ∧ (r < 0 ∨ ∀ i, n ≤ i → i < l.length → (l.getD i []).length ≤ 1048576) := by
  induction d with
  | zero =>
    intro n a h h0 h1
    refine ⟨a, Ev_succ ?_, h1, Or.inr (fun i h2 h3 => by omega)⟩
    simp only [laws_szIntSS.l0]
    exact Ev_neg (by omega) (Ev.now _)
  | succ d ih =>
    intro n a h h0 h1
    have hrow := hr (l.getD n []) (by rw [getD_eq (by omega)]; exact List.getElem_mem _)
    have es := laws_szIntS_eq (l.getD n []) a h0 h1 hrow
    by_cases c : a < (l.getD n []).length
    · refine ⟨-1, Ev_succ ?_, by omega, Or.inl (by omega)⟩
      simp only [laws_szIntSS.l0, rd_L1, Int.toNat_natCast, es, Option.bind_some, if_pos c]
      exact Ev_pos (by omega) (Ev_pos (by omega) (Ev_pos (by omega) (Ev.now _)))
    · obtain ⟨r, g1, g2, g3⟩ := ih (n + 1) (a - (l.getD n []).length) (by omega) (by omega) (by omega)
      refine ⟨r, Ev_succ ?_, g2, ?_⟩
      · simp only [laws_szIntSS.l0, rd_L1, Int.toNat_natCast, es, Option.bind_some, if_neg c]
        rw [wsucc (n := n) (by omega)]
        exact Ev_pos (by omega) (Ev_pos (by omega) (Ev_neg (by omega) g1))
      · rcases g3 with g3 | g3
        · exact Or.inl g3
        · refine Or.inr (fun i h2 h3 => ?_)
          by_cases e : i = n
          · subst e; omega
          · exact g3 i (by omega) h3

theorem laws_szIntSS_ev (l : List (List Int)) (a : Int) (h0 : 0 ≤ a) (h1 : a ≤ 1048576) (hm : l.length ≤ maxLen) (hr : ∀ r ∈ l, r.length ≤ maxLen) :
    ∃ r : Int, Ev (fun k => laws_szIntSS.f k l a) r ∧ r ≤ 1048576 ∧ (r < 0 ∨ (l.length ≤ 1048576 ∧ ∀ x ∈ l, x.length ≤ 1048576)) := by
  have hm' := hm
  unfold maxLen at hm
  unfold laws_szIntSS.f
  rw [w64 (n := a - (l.length : Int)) (by omega) (by omega)]
  by_cases c : a - (l.length : Int) < 0
  · exact ⟨-1, Ev_pos c (Ev.now _), by omega, Or.inl (by omega)⟩
  · obtain ⟨r, g1, g2, g3⟩ := laws_szIntSS_loop l (by omega) hr _ 0 (a - l.length) (Nat.zero_add _) (by omega) (by omega)
    refine ⟨r, Ev_neg c g1, g2, ?_⟩
    rcases g3 with g3 | g3
    · exact Or.inl g3
    · refine Or.inr ⟨by omega, fun x hx => ?_⟩
      obtain ⟨i, hi, rfl⟩ := List.getElem_of_mem hx
      have := g3 i (by omega) hi
      rwa [getD_eq hi] at this

/-! ### laws_toIntS -/
theorem laws_toIntS_loop (l : List Int) (hb : l.length ≤ 17592186044416) (d : Nat) : ∀ (n : Nat) (acc : List Int), acc.length = l.length → n ≤ l.length → l.length - n = d → acc.take n = l.take n →
    Ev (fun k => laws_toIntS.l0 k l acc (n : Int)) l := by
  induction d with
  | zero =>
    intro n acc h0 h1 h2 h3
    refine Ev_succ ?_
    simp only [laws_toIntS.l0]
    refine Ev_neg (by omega) (Ev_some ?_)
    have : n = l.length := by omega
    subst this
    rw [List.take_length, ← h0, List.take_length] at h3
    exact h3
  | succ d ih =>
    intro n acc h0 h1 h2 h3
    refine Ev_succ ?_
    simp only [laws_toIntS.l0]
    refine Ev_pos (by omega) (Ev_pos (by omega) (Ev_pos (by omega) ?_))
    rw [rd_cast, wsucc (by omega), Int.toNat_natCast]
    refine ih (n + 1) _ (by simpa using h0) (by omega) (by omega) ?_
    rw [set_take_succ acc n _ (by omega), take_succ_getD l n 0 (by omega), h3]

theorem laws_toIntS_ev (l : List Int) (hb : l.length ≤ 17592186044416) : Ev (fun k => laws_toIntS.f k l) l := by
  unfold laws_toIntS.f
  refine Ev_pos (by omega) (Ev_pos (by omega) ?_)
  exact laws_toIntS_loop l hb _ 0 _ (by simp) (by omega) rfl (by simp)

/-! ### laws_toIntSS -/
theorem laws_toIntSS_loop (l : List (List Int)) (hm : l.length ≤ 1048576) (hr : ∀ x ∈ l, x.length ≤ 17592186044416) (d : Nat) : ∀ (n : Nat) (acc : List (List Int)), acc.length = l.length → n + d = l.length → acc.take n = l.take n →
    Ev (fun k => laws_toIntSS.l0 k l acc (n : Int)) l := by
  induction d with
  | zero =>
    intro n acc h0 h1 h2
    refine Ev_succ ?_
    simp only [laws_toIntSS.l0]
    refine Ev_neg (by omega) (Ev_some ?_)
    have : n = l.length := by omega
    subst this
    rw [List.take_length, ← h0, List.take_length] at h2
    exact h2
  | succ d ih =>
    intro n acc h0 h1 h2
    refine Ev_succ ?_
    simp only [laws_toIntSS.l0, rd_L1, Int.toNat_natCast]
    have hrow := hr (l.getD n []) (by rw [getD_eq (by omega)]; exact List.getElem_mem _)
    refine Ev_pos (by omega) (Ev_pos (by omega) (Ev_call _ (laws_toIntS_ev _ hrow) (Ev_pos (by omega) ?_)))
    rw [wsucc (n := n) (by omega)]
    refine ih (n + 1) _ (by simpa using h0) (by omega) ?_
    rw [set_take_succ acc n _ (by omega), take_succ_getD l n [] (by omega), h2]

theorem laws_toIntSS_ev (l : List (List Int)) (hm : l.length ≤ 1048576) (hr : ∀ x ∈ l, x.length ≤ 17592186044416) : Ev (fun k => laws_toIntSS.f k l) l := by
  unfold laws_toIntSS.f
  refine Ev_pos (by omega) (Ev_pos (by omega) ?_)
  exact laws_toIntSS_loop l hm hr _ 0 _ (by simp) (Nat.zero_add _) (by simp)

/-! ### laws_eqIntS -/
theorem laws_eqIntS_loop (a b : List Int) (hl : a.length = b.length) (hb : a.length ≤ 17592186044416) (d : Nat) : ∀ n : Nat, n ≤ a.length → a.length - n = d → a.take n = b.take n →
    Ev (fun k => laws_eqIntS.l0 k a b (n : Int)) (decide (a = b)) := by
  induction d with
  | zero =>
    intro n h1 h2 h3
    refine Ev_succ ?_
    simp only [laws_eqIntS.l0]
    refine Ev_neg (by omega) (Ev_some ?_)
    have : n = a.length := by omega
    subst this
    rw [List.take_length, hl, List.take_length] at h3
    simp [h3]
  | succ d ih =>
    intro n h1 h2 h3
    refine Ev_succ ?_
    simp only [laws_eqIntS.l0]
    refine Ev_pos (by omega) (Ev_pos (by omega) (Ev_pos (by omega) ?_))
    rw [rd_cast, rd_cast, wsucc (by omega)]
    refine Ev_ite (fun h => ?_) (fun h => Ev_some ?_)
    · refine ih (n + 1) (by omega) (by omega) ?_
      rw [take_succ_getD a n 0 (by omega), take_succ_getD b n 0 (by omega), h3, h]
    · symm
      rw [decide_eq_false_iff_not]
      intro e
      exact h (by rw [e])

theorem laws_eqIntS_ev (a b : List Int) (hb : a.length ≤ 17592186044416) : Ev (fun k => laws_eqIntS.f k a b) (decide (a = b)) := by
  unfold laws_eqIntS.f
  refine Ev_ite (fun h => ?_) (fun h => Ev_some ?_)
  · exact laws_eqIntS_loop a b (by omega) hb _ 0 (by omega) rfl (by simp)
  · symm
    rw [decide_eq_false_iff_not]
    intro e
    exact h (by rw [e])

/-! ### laws_eqIntSS -/
theorem laws_eqIntSS_loop (a b : List (List Int)) (hl : a.length = b.length) (hb : a.length ≤ 1048576) (hr : ∀ x ∈ a, x.length ≤ 17592186044416) (d : Nat) : ∀ n : Nat, n + d = a.length → a.take n = b.take n →
    Ev (fun k => laws_eqIntSS.l0 k a b (n : Int)) (decide (a = b)) := by
  induction d with
  | zero =>
    intro n h1 h2
    refine Ev_succ ?_
    simp only [laws_eqIntSS.l0]
    refine Ev_neg (by omega) (Ev_some ?_)
    have : n = a.length := by omega
    subst this
    rw [List.take_length, hl, List.take_length] at h2
    simp [h2]
  | succ d ih =>
    intro n h1 h2
    refine Ev_succ ?_
    simp only [laws_eqIntSS.l0, rd_L1, Int.toNat_natCast]
    have hrow := hr (a.getD n []) (by rw [getD_eq (by omega)]; exact List.getElem_mem _)
    refine Ev_pos (by omega) (Ev_pos (by omega) (Ev_pos (by omega) (Ev_call _ (laws_eqIntS_ev _ _ hrow) ?_)))
    rw [wsucc (n := n) (by omega)]
    refine Ev_ite (fun h => ?_) (fun h => Ev_some ?_)
    · rw [decide_eq_true_eq] at h
      refine ih (n + 1) (by omega) ?_
      rw [take_succ_getD a n [] (by omega), take_succ_getD b n [] (by omega), h2, h]
    · rw [decide_eq_true_eq] at h
      symm
      rw [decide_eq_false_iff_not]
      intro e
      exact h (by rw [e])

theorem laws_eqIntSS_ev (a b : List (List Int)) (hb : a.length ≤ 1048576) (hr : ∀ x ∈ a, x.length ≤ 17592186044416) : Ev (fun k => laws_eqIntSS.f k a b) (decide (a = b)) := by
  unfold laws_eqIntSS.f
  refine Ev_ite (fun h => ?_) (fun h => Ev_some ?_)
  · exact laws_eqIntSS_loop a b (by omega) hb hr _ 0 (Nat.zero_add _) (by simp)
  · symm
    rw [decide_eq_false_iff_not]
    intro e
    exact h (by rw [e])

/-! ### laws_markIntS -/
theorem laws_markIntS_loop (L : Nat) (m : Int) (hm : 0 ≤ m) (hm2 : m ≤ 17592186044416) (hb : L ≤ 17592186044416) (d : Nat) : ∀ (n : Nat) (acc : List Int), acc.length = L → n ≤ L → L - n = d → acc.take n = iota m n →
    Ev (fun k => laws_markIntS.l0 k acc (m + n) (n : Int)) (m + L, iota m L) := by
  induction d with
  | zero =>
    intro n acc h0 h1 h2 h3
    refine Ev_succ ?_
    simp only [laws_markIntS.l0]
    refine Ev_neg (by omega) (Ev_some ?_)
    have : n = L := by omega
    subst this
    rw [← h3, ← h0, List.take_length]
  | succ d ih =>
    intro n acc h0 h1 h2 h3
    refine Ev_succ ?_
    simp only [laws_markIntS.l0]
    refine Ev_pos (by omega) (Ev_pos (by omega) ?_)
    rw [wsucc (by omega), Int.toNat_natCast, w64 (n := m + (n : Int) + 1) (by omega) (by omega)]
    have e : m + (n : Int) + 1 = m + ((n + 1 : Nat) : Int) := by omega
    rw [e]
    refine ih (n + 1) _ (by simpa using h0) (by omega) (by omega) ?_
    rw [set_take_succ acc n _ (by omega), h3, iota_succ]

theorem laws_markIntS_ev (l : List Int) (m : Int) (hm : 0 ≤ m) (hm2 : m ≤ 17592186044416) (hb : l.length ≤ 17592186044416) : Ev (fun k => laws_markIntS.f k l m) (m + l.length, iota m l.length) := by
  unfold laws_markIntS.f
  have := laws_markIntS_loop l.length m hm hm2 hb _ 0 l rfl (by omega) rfl (by simp [iota])
  simpa using this

/-! ### laws_markIntSS -/
theorem laws_markIntSS_loop (rest : List (List Int)) : ∀ (pre : List (List Int)) (a : Int), 0 ≤ a → a + total rest ≤ 17592186044416 → (pre ++ rest).length ≤ 17592186044416 →
    Ev (fun k => laws_markIntSS.l0 k (pre ++ rest) a ((pre.length : Nat) : Int)) (a + total rest, pre ++ marks a rest) := by
  induction rest with
  | nil =>
    intro pre a h0 h1 h2
    refine Ev_succ ?_
    simp only [laws_markIntSS.l0]
    exact Ev_neg (by simp) (Ev_some (by simp [total, marks]))
  | cons r rs ih =>
    intro pre a h0 h1 h2
    simp only [total] at h1
    simp only [List.length_append, List.length_cons] at h2
    have hm := laws_markIntS_ev r a h0 (by omega) (by omega)
    refine Ev_succ ?_
    simp only [laws_markIntSS.l0, rd_L1, Int.toNat_natCast, getD_pre, set_pre]
    refine Ev_pos (by simp; omega) (Ev_pos (by omega) (Ev_call _ hm ?_))
    rw [wsucc (by omega)]
    have := ih (pre ++ [iota a r.length]) (a + r.length) (by omega) (by omega) (by simp; omega)
    simp only [List.length_append, List.length_cons, List.length_nil] at this
    refine Ev_eq this ?_
    simp only [total, marks, List.append_assoc, List.cons_append, List.nil_append, Int.natCast_add]
    congr 1
    omega

theorem laws_markIntSS_ev (l : List (List Int)) (a : Int) (h0 : 0 ≤ a) (h1 : a + total l ≤ 17592186044416) (h2 : l.length ≤ 17592186044416) : Ev (fun k => laws_markIntSS.f k l a) (a + total l, marks a l) := by
  unfold laws_markIntSS.f
  have := laws_markIntSS_loop l [] a h0 h1 (by simpa using h2)
  simpa using this

/-! ### laws_Morphism -/
theorem laws_szMorphism_ev (l : List (List Int)) (hm : l.length ≤ maxLen) (hr : ∀ r ∈ l, r.length ≤ maxLen) :
    ∃ r : Int, Ev (fun k => laws_szMorphism.f k l 1048576) r ∧ (r < 0 ∨ (l.length ≤ 1048576 ∧ (∀ x ∈ l, x.length ≤ 1048576))) := by
  obtain ⟨r, g1, g2, g3⟩ := laws_szIntSS_ev l 1048576 (by omega) (by omega) hm hr
  unfold laws_szMorphism.f
  by_cases c : r < 0
  · exact ⟨-1, Ev_call _ g1 (Ev_pos c (Ev.now _)), Or.inl (by omega)⟩
  · exact ⟨r, Ev_call _ g1 (Ev_neg c (Ev.now _)), Or.inr (g3.resolve_left c)⟩
theorem laws_toMorphism_ev (l : List (List Int)) (hm : l.length ≤ 1048576) (hr : ∀ x ∈ l, x.length ≤ 1048576) : Ev (fun k => laws_toMorphism.f k l) l := by
  unfold laws_toMorphism.f
  exact Ev_call _ (laws_toIntSS_ev l hm (fun x hx => Nat.le_trans (hr x hx) (by omega))) (Ev.now _)
theorem laws_eqMorphism_refl (l : List (List Int)) (hm : l.length ≤ 1048576) (hr : ∀ x ∈ l, x.length ≤ 1048576) : Ev (fun k => laws_eqMorphism.f k l l) true := by
  unfold laws_eqMorphism.f
  have := laws_eqIntSS_ev l l hm (fun x hx => Nat.le_trans (hr x hx) (by omega))
  refine Ev_call _ this (Ev_pos (by simp) (Ev.now _))
theorem laws_markMorphism_ev (l : List (List Int)) (a : Int) (h0 : 0 ≤ a) (h1 : a + total l ≤ 17592186044416) (h2 : l.length ≤ 17592186044416) : Ev (fun k => laws_markMorphism.f k l a) (a + total l, marks a l) := laws_markIntSS_ev l a h0 h1 h2

/-! ### laws_heldIntS -/
theorem laws_heldIntS_loop (L : Nat) (m : Int) (hm : 0 ≤ m) (hm2 : m ≤ 17592186044416) (hb : L ≤ 17592186044416) (d : Nat) : ∀ (n : Nat), n ≤ L → L - n = d →
    Ev (fun k => laws_heldIntS.l0 k (iota m L) (m + n) (n : Int)) (m + L) := by
  induction d with
  | zero =>
    intro n h1 h2
    refine Ev_succ ?_
    simp only [laws_heldIntS.l0]
    refine Ev_neg (by rw [iota_length]; omega) (Ev_some ?_)
    omega
  | succ d ih =>
    intro n h1 h2
    refine Ev_succ ?_
    simp only [laws_heldIntS.l0]
    refine Ev_pos (by rw [iota_length]; omega) (Ev_pos (by omega) ?_)
    rw [rd_cast, iota_getD m L n (by omega)]
    refine Ev_pos rfl ?_
    rw [wsucc (by omega), w64 (n := m + (n : Int) + 1) (by omega) (by omega)]
    have e : m + (n : Int) + 1 = m + ((n + 1 : Nat) : Int) := by omega
    rw [e]
    exact ih (n + 1) (by omega) (by omega)

theorem laws_heldIntS_ev (L : Nat) (m : Int) (hm : 0 ≤ m) (hm2 : m ≤ 17592186044416) (hb : L ≤ 17592186044416) : Ev (fun k => laws_heldIntS.f k (iota m L) m) (m + L) := by
  unfold laws_heldIntS.f
  have := laws_heldIntS_loop L m hm hm2 hb _ 0 (by omega) rfl
  simpa using this

/-! ### spec_l1In -/
theorem spec_l1In_eq (x a b : Int) : spec_l1In.f x a b = some (decide (a ≤ x ∧ x ≤ b)) := by
  unfold spec_l1In.f
  by_cases h : x ≥ a
  · rw [if_pos h]; simp [h]
  · rw [if_neg h]; congr 1; symm; rw [decide_eq_false_iff_not]; omega

/-! ### spec_IsWord -/
theorem spec_IsWord_loop (w : List Int) (n : Nat) (hw : w.length ≤ 1048576) (hn : n ≤ 1048576) (d : Nat) : ∀ i : Nat, i + d = w.length →
    Ev (fun k => spec_IsWord.l0 k w (n : Int) (i : Int)) (decide (RowIn n (w.drop i) ∧ (1 ≤ n ∧ n ≤ 16) ∧ w.length ≤ 400)) := by
  induction d with
  | zero =>
    intro i h
    refine Ev_succ ?_
    simp only [spec_IsWord.l0]
    have e : w.drop i = [] := List.drop_of_length_le (by omega)
    rw [e]
    refine Ev_neg (by omega) ?_
    by_cases c : 1 ≤ n ∧ n ≤ 16
    · refine Ev_call true (Ev_const ?_) (Ev_pos rfl (Ev_some ?_))
      · unfold spec_l1In.f; rw [if_pos (by omega)]; congr 1; simp; omega
      · rw [decide_eq_decide]; constructor
        · exact fun h => ⟨by simp [RowIn], c, by omega⟩
        · exact fun h => by have := h.2.2; omega
    · refine Ev_call false (Ev_const ?_) (Ev_neg (by simp) (Ev_some ?_))
      · unfold spec_l1In.f
        by_cases c1 : (n : Int) ≥ 1
        · rw [if_pos c1]; congr 1; simp; omega
        · rw [if_neg c1]
      · symm; rw [decide_eq_false_iff_not]; exact fun h => c h.2.1
  | succ d ih =>
    intro i h
    refine Ev_succ ?_
    simp only [spec_IsWord.l0, rd_cast]
    rw [wsucc (n := i) (by omega), drop_cons w i 0 (by omega)]
    refine Ev_pos (by omega) (Ev_pos (by omega) ?_)
    refine Ev_ite (fun h1 => Ev_some ?_) (fun h1 => Ev_ite (fun h2 => Ev_some ?_) (fun h2 => Ev_eq (ih (i + 1) (by omega)) ?_))
    · symm; rw [decide_eq_false_iff_not]; intro e; have := e.1 _ List.mem_cons_self; omega
    · symm; rw [decide_eq_false_iff_not]; intro e; have := e.1 _ List.mem_cons_self; omega
    · rw [decide_eq_decide]
      constructor
      · rintro ⟨e, e2⟩
        refine ⟨fun v hv => ?_, e2⟩
        rcases List.mem_cons.1 hv with rfl | hv
        · exact ⟨by omega, by omega⟩
        · exact e v hv
      · exact fun ⟨e, e2⟩ => ⟨fun v hv => e v (List.mem_cons_of_mem _ hv), e2⟩

theorem spec_IsWord_ev (w : List Int) (n : Nat) (hw : w.length ≤ 1048576) (hn : n ≤ 1048576) : Ev (fun k => spec_IsWord.f k w (n : Int)) (okWord w n) := by
  unfold spec_IsWord.f okWord
  have := spec_IsWord_loop w n hw hn w.length 0 (by omega)
  rwa [List.drop_zero] at this

/-! ### spec_IsMorphism -/
theorem spec_IsMorphism_loop (l : List (List Int)) (hl : l.length ≤ 1048576) (hr : ∀ r ∈ l, r.length ≤ 1048576) (d : Nat) : ∀ i : Nat, i + d = l.length →
    Ev (fun k => spec_IsMorphism.l0 k (i : Int) l) (decide ((1 ≤ l.length ∧ l.length ≤ 16) ∧ ∀ r ∈ l.drop i, r.length ≤ 8 ∧ RowIn l.length r)) := by
  induction d with
  | zero =>
    intro i h
    refine Ev_succ ?_
    simp only [spec_IsMorphism.l0]
    have e : l.drop i = [] := List.drop_of_length_le (by omega)
    rw [e]
    refine Ev_neg (by omega) (Ev_call _ (Ev_const (r := decide (1 ≤ l.length ∧ l.length ≤ 16)) ?_) (Ev_some (by simp)))
    unfold spec_l1In.f
    by_cases c1 : (l.length : Int) ≥ 1
    · rw [if_pos c1]; congr 1; rw [decide_eq_decide]; omega
    · rw [if_neg c1]; congr 1; symm; rw [decide_eq_false_iff_not]; omega
  | succ d ih =>
    intro i h
    have hrow := hr (l.getD i []) (by rw [getD_eq (by omega)]; exact List.getElem_mem _)
    have hw := spec_IsWord_ev (l.getD i []) l.length hrow hl
    refine Ev_succ ?_
    simp only [spec_IsMorphism.l0, rd_L1, Int.toNat_natCast]
    rw [wsucc (n := i) (by omega), drop_cons l i [] (by omega)]
    refine Ev_pos (by omega) (Ev_pos (by omega) (Ev_call _ hw ?_))
    unfold okWord
    refine Ev_ite (fun h1 => Ev_ite (fun h2 => Ev_some ?_) (fun h2 => Ev_eq (ih (i + 1) (by omega)) ?_)) (fun h1 => Ev_some ?_)
    · symm; rw [decide_eq_false_iff_not]; intro e; have := (e.2 _ List.mem_cons_self).1; omega
    · rw [decide_eq_true_eq] at h1
      rw [decide_eq_decide]
      constructor
      · rintro ⟨e, e2⟩
        refine ⟨e, fun r hr => ?_⟩
        rcases List.mem_cons.1 hr with rfl | hr
        · exact ⟨by omega, h1.1⟩
        · exact e2 r hr
      · exact fun ⟨e, e2⟩ => ⟨e, fun r hr => e2 r (List.mem_cons_of_mem _ hr)⟩
    · rw [decide_eq_true_eq] at h1
      symm; rw [decide_eq_false_iff_not]
      intro e
      have := e.2 _ List.mem_cons_self
      exact h1 ⟨this.2, e.1, by omega⟩

theorem spec_IsMorphism_ev (l : List (List Int)) (hl : l.length ≤ 1048576) (hr : ∀ r ∈ l, r.length ≤ 1048576) : Ev (fun k => spec_IsMorphism.f k l) (okMor l) := by
  unfold spec_IsMorphism.f okMor
  have := spec_IsMorphism_loop l hl hr l.length 0 (by omega)
  rwa [List.drop_zero] at this

/-! ### impl_areLetters -/
theorem impl_areLetters_loop (w : List Int) (n : Nat) (hw : w.length ≤ 1048576) (d : Nat) : ∀ i : Nat, i + d = w.length →
    Ev (fun k => impl_areLetters.l0 k (n : Int) w (w.length : Int) (i : Int)) (decide (RowIn n (w.drop i))) := by
  induction d with
  | zero =>
    intro i h
    refine Ev_succ ?_
    simp only [impl_areLetters.l0]
    have e : w.drop i = [] := List.drop_of_length_le (by omega)
    rw [e]
    exact Ev_neg (by omega) (Ev_some (by simp [RowIn]))
  | succ d ih =>
    intro i h
    refine Ev_succ ?_
    simp only [impl_areLetters.l0, rd_cast]
    rw [wsucc (n := i) (by omega), drop_cons w i 0 (by omega)]
    refine Ev_pos (by omega) (Ev_pos (by omega) (Ev_pos (by omega) ?_))
    refine Ev_ite (fun h1 => Ev_some ?_) (fun h1 => Ev_ite (fun h2 => Ev_some ?_) (fun h2 => Ev_eq (ih (i + 1) (by omega)) ?_))
    · symm; rw [decide_eq_false_iff_not]; intro e; have := e _ List.mem_cons_self; omega
    · symm; rw [decide_eq_false_iff_not]; intro e; have := e _ List.mem_cons_self; omega
    · rw [decide_eq_decide]
      constructor
      · intro e v hv
        rcases List.mem_cons.1 hv with rfl | hv
        · exact ⟨by omega, by omega⟩
        · exact e v hv
      · exact fun e v hv => e v (List.mem_cons_of_mem _ hv)

theorem impl_areLetters_ev (w : List Int) (n : Nat) (hw : w.length ≤ 1048576) : Ev (fun k => impl_areLetters.f k w (n : Int)) (decide (RowIn n w)) := by
  unfold impl_areLetters.f
  have := impl_areLetters_loop w n hw w.length 0 (by omega)
  rwa [List.drop_zero] at this

/-! ### impl_IsMorphism -/
theorem impl_IsMorphism_loop (l : List (List Int)) (hl : l.length ≤ 1048576) (hr : ∀ r ∈ l, r.length ≤ 1048576) (d : Nat) : ∀ i : Nat, i + d = l.length →
    Ev (fun k => impl_IsMorphism.l0 k (l.length : Int) l (l.length : Int) (i : Int)) (decide (∀ r ∈ l.drop i, r.length ≤ 8 ∧ RowIn l.length r)) := by
  induction d with
  | zero =>
    intro i h
    refine Ev_succ ?_
    simp only [impl_IsMorphism.l0]
    have e : l.drop i = [] := List.drop_of_length_le (by omega)
    rw [e]
    exact Ev_neg (by omega) (Ev_some (by simp))
  | succ d ih =>
    intro i h
    have hrow := hr (l.getD i []) (by rw [getD_eq (by omega)]; exact List.getElem_mem _)
    have hw := impl_areLetters_ev (l.getD i []) l.length hrow
    refine Ev_succ ?_
    simp only [impl_IsMorphism.l0, rd_L1, Int.toNat_natCast]
    rw [wsucc (n := i) (by omega), drop_cons l i [] (by omega)]
    refine Ev_pos (by omega) (Ev_pos (by omega) (Ev_pos (by omega) ?_))
    refine Ev_ite (fun h1 => Ev_some ?_) (fun h1 => Ev_call _ hw (Ev_ite (fun h2 => Ev_eq (ih (i + 1) (by omega)) ?_) (fun h2 => Ev_some ?_)))
    · symm; rw [decide_eq_false_iff_not]; intro e; have := (e _ List.mem_cons_self).1; omega
    · rw [decide_eq_true_eq] at h2
      rw [decide_eq_decide]
      constructor
      · intro e2 r hr
        rcases List.mem_cons.1 hr with rfl | hr
        · exact ⟨by omega, h2⟩
        · exact e2 r hr
      · exact fun e2 r hr => e2 r (List.mem_cons_of_mem _ hr)
    · rw [decide_eq_true_eq] at h2
      symm; rw [decide_eq_false_iff_not]
      intro e
      exact h2 (e _ List.mem_cons_self).2

theorem impl_IsMorphism_ev (l : List (List Int)) (hl : l.length ≤ 1048576) (hr : ∀ r ∈ l, r.length ≤ 1048576) : Ev (fun k => impl_IsMorphism.f k l) (okMor l) := by
  have no : ¬ (1 ≤ l.length ∧ l.length ≤ 16) → okMor l = false := fun h => by unfold okMor; rw [decide_eq_false_iff_not]; exact fun e => h e.1
  unfold impl_IsMorphism.f
  refine Ev_ite (fun h => ?_) (fun h => ?_)
  · refine Ev_succ ?_
    simp only [impl_IsMorphism.j0]
    exact Ev_pos (by simp) (Ev_some (no (by omega)).symm)
  · refine Ev_succ ?_
    simp only [impl_IsMorphism.j0]
    by_cases c : l.length ≤ 16
    · refine Ev_neg (by simp; omega) ?_
      have := impl_IsMorphism_loop l hl hr l.length 0 (by omega)
      rw [List.drop_zero] at this
      refine Ev_eq this ?_
      unfold okMor
      rw [decide_eq_decide]
      exact ⟨fun e => ⟨by omega, e⟩, fun e => e.2⟩
    · exact Ev_pos (by simp; omega) (Ev_some (no (by omega)).symm)

/-! ### IsGrowing -/
theorem spec_l4Has_ev (l : List Int) (x : Int) (hl : l.length ≤ 1048577) : Ev (fun k => spec_l4Has.f k l x) (decide (x ∈ l)) := by
  have loop : ∀ d i : Nat, i + d = l.length → Ev (fun k => spec_l4Has.l0 k l x (i : Int)) (decide (x ∈ l.drop i)) := by
    intro d
    induction d with
    | zero =>
      intro i h
      refine Ev_succ ?_
      simp only [spec_l4Has.l0]
      refine Ev_neg (by omega) (Ev_some ?_)
      rw [List.drop_of_length_le (by omega)]; simp
    | succ d ih =>
      intro i h
      refine Ev_succ ?_
      simp only [spec_l4Has.l0, rd_cast]
      rw [wsucc (n := i) (by omega), drop_cons l i 0 (by omega)]
      refine Ev_pos (by omega) (Ev_pos (by omega) (Ev_ite (fun h1 => Ev_some ?_) (fun h1 => Ev_eq (ih (i + 1) (by omega)) ?_)))
      · symm; rw [decide_eq_true_eq, h1]; exact List.mem_cons_self
      · rw [decide_eq_decide, List.mem_cons]; exact ⟨fun e => .inr e, fun e => e.resolve_left (fun e2 => h1 e2.symm)⟩
  unfold spec_l4Has.f
  have := loop l.length 0 (Nat.zero_add _)
  rwa [List.drop_zero] at this
section
variable (l : List (List Int)) (hn : l.length ≤ 16) (ho : okL l) (h8 : ∀ x : Int, (img l x).length ≤ 8)
include hn ho h8 in
theorem spec_IG_l2 (rest : List Int) (hr : ∀ x ∈ rest, 0 ≤ x ∧ x < (l.length : Int)) (hrl : rest.length ≤ 16) (t : Int) (i : Nat) (hi : i < rest.length) (R : Bool) (d : Nat) :
    ∀ j : Nat, j + d = (img l (rest.getD i 0)).length → ∀ acc : List Int, acc.Nodup → (∀ x ∈ acc, 0 ≤ x ∧ x < (l.length : Int)) → Ev (fun k => spec_IsGrowing.l1 k rest t (nextS acc ((img l (rest.getD i 0)).drop j)) ((i + 1 : Nat) : Int) l) R →
      Ev (fun k => spec_IsGrowing.l2 k rest t acc (i : Int) (j : Int) l) R := by
  have hx := hr (rest.getD i 0) (by rw [getD_eq hi]; exact List.getElem_mem _)
  have h8' := h8 (rest.getD i 0)
  have e0 : rd_L1 l (rest.getD i 0) = img l (rest.getD i 0) := rfl
  induction d with
  | zero =>
    intro j h acc hd ha hR
    rw [List.drop_of_length_le (by omega)] at hR
    simp only [nextS] at hR
    refine Ev_succ ?_
    simp only [spec_IsGrowing.l2, rd_cast, e0]
    rw [wsucc (n := i) (by omega)]
    exact Ev_pos (by omega) (Ev_pos (by omega) (Ev_pos (by omega) (Ev_pos (by omega) (Ev_neg (by omega) hR))))
  | succ d ih =>
    intro j h acc hd ha hR
    have hj : j < (img l (rest.getD i 0)).length := by omega
    have hal := letters_len hd ha
    have hy := ho (rest.getD i 0) ((img l (rest.getD i 0)).getD j 0) (by rw [getD_eq hj]; exact List.getElem_mem _)
    rw [drop_cons _ j 0 hj, nextS] at hR
    refine Ev_succ ?_
    simp only [spec_IsGrowing.l2, rd_cast, e0]
    rw [wsucc (n := j) (by omega)]
    refine Ev_pos (by omega) (Ev_pos (by omega) (Ev_pos (by omega) (Ev_pos (by omega) (Ev_pos (by omega) (Ev_pos (by omega) (Ev_call _ (spec_l4Has_ev acc _ (by omega)) ?_))))))
    by_cases c : (img l (rest.getD i 0)).getD j 0 ∈ acc
    · rw [if_pos c] at hR
      exact Ev_pos (by simpa using c) (ih (j + 1) (by omega) acc hd ha hR)
    · rw [if_neg c] at hR
      refine Ev_neg (by simpa using c) (Ev_pos (by omega) (ih (j + 1) (by omega) _ ?_ ?_ hR))
      · have := nextS_nodup [(img l (rest.getD i 0)).getD j 0] acc hd
        rwa [nextS, if_neg c, nextS] at this
      · intro x hx
        rw [List.mem_append, List.mem_singleton] at hx
        rcases hx with hx | rfl
        · exact ha x hx
        · exact hy
include hn ho h8 in
theorem spec_IG_l1 (rest : List Int) (hr : ∀ x ∈ rest, 0 ≤ x ∧ x < (l.length : Int)) (hrl : rest.length ≤ 16) (t : Nat) (ht : t ≤ 100) (R : Bool) (d : Nat) :
    ∀ i : Nat, i + d = rest.length → ∀ acc : List Int, acc.Nodup → (∀ x ∈ acc, 0 ≤ x ∧ x < (l.length : Int)) → Ev (fun k => spec_IsGrowing.l0 k (nextAll l acc (rest.drop i)) ((t + 1 : Nat) : Int) l) R →
      Ev (fun k => spec_IsGrowing.l1 k rest (t : Int) acc (i : Int) l) R := by
  induction d with
  | zero =>
    intro i h acc hd ha hR
    rw [List.drop_of_length_le (by omega)] at hR
    simp only [nextAll] at hR
    refine Ev_succ ?_
    simp only [spec_IsGrowing.l1]
    rw [wsucc (n := t) (by omega)]
    exact Ev_neg (by omega) hR
  | succ d ih =>
    intro i h acc hd ha hR
    have hi : i < rest.length := by omega
    rw [drop_cons rest i 0 hi, nextAll] at hR
    refine Ev_succ ?_
    simp only [spec_IsGrowing.l1]
    refine Ev_pos (by omega) ?_
    refine spec_IG_l2 l hn ho h8 rest hr hrl (t : Int) i hi R _ 0 (Nat.zero_add _) acc hd ha ?_
    rw [List.drop_zero]
    refine ih (i + 1) (by omega) _ (nextS_nodup _ _ hd) (fun x hx => ?_) hR
    rcases (nextS_mem _ _ _).1 hx with hx | hx
    · exact ha x hx
    · exact ho _ x hx
include hn ho h8 in
theorem spec_IG_l0 (d : Nat) : ∀ (t : Nat) (rest : List Int), t + d = l.length + 1 → (∀ x ∈ rest, 0 ≤ x ∧ x < (l.length : Int)) → rest.length ≤ 16 → Ev (fun k => spec_IsGrowing.l0 k rest (t : Int) l) (rest.any (lives l d)) := by
  induction d with
  | zero =>
    intro t rest h hr hrl
    refine Ev_succ ?_
    simp only [spec_IsGrowing.l0]
    refine Ev_neg (by omega) (Ev_some ?_)
    cases rest with
    | nil => rfl
    | cons x xs => rw [List.any_cons, lives, Bool.true_or, decide_eq_true_eq, List.length_cons]; omega
  | succ d ih =>
    intro t rest h hr hrl
    refine Ev_succ ?_
    simp only [spec_IsGrowing.l0]
    refine Ev_pos (by omega) ?_
    refine spec_IG_l1 l hn ho h8 rest hr hrl t (by omega) _ _ 0 (Nat.zero_add _) [] List.nodup_nil (by simp) ?_
    rw [List.drop_zero, ← nextAll_any]
    have hin : ∀ x ∈ nextAll l [] rest, 0 ≤ x ∧ x < (l.length : Int) := fun x hx => by
      obtain ⟨y, _, hy⟩ := ((nextAll_mem l rest [] x).1 hx).resolve_left (by simp)
      exact ho _ x hy
    have hnd := nextAll_nodup l rest [] List.nodup_nil
    have := letters_len hnd hin
    exact ih (t + 1) _ (by omega) hin (by omega)
/-! The program's rounds. -/
theorem IG_contains (w : List Int) (b : List Bool) (hw : ∀ x ∈ w, 0 ≤ x ∧ x < (b.length : Int)) (hl : w.length ≤ 1048576) : Ev (fun k => slices_ContainsFunc_int_int.f k w b) (w.any (fun y => !(b.getD y.toNat false))) := by
  have loop : ∀ d i : Nat, i + d = w.length → ∃ r : Int, Ev (fun k => slices_IndexFunc_int_int.l0 k w b (w.length : Int) (i : Int)) r ∧ decide (r ≥ 0) = (w.drop i).any (fun y => !(b.getD y.toNat false)) := by
    intro d
    induction d with
    | zero =>
      intro i h
      refine ⟨-1, Ev_succ ?_, ?_⟩
      · simp only [slices_IndexFunc_int_int.l0]
        exact Ev_neg (by omega) (Ev.now _)
      · rw [List.drop_of_length_le (by omega)]; rfl
    | succ d ih =>
      intro i h
      have hi : i < w.length := by omega
      have hx := hw (w.getD i 0) (by rw [getD_eq hi]; exact List.getElem_mem _)
      have hB : impl_vanishingB1.f (w.getD i 0) b = some (!(b.getD (w.getD i 0).toNat false)) := by
        unfold impl_vanishingB1.f
        rw [if_pos hx.1, if_pos hx.2]; rfl
      rw [drop_cons w i 0 hi, List.any_cons]
      by_cases c : (!(b.getD (w.getD i 0).toNat false)) = true
      · refine ⟨(i : Int), Ev_succ ?_, ?_⟩
        · simp only [slices_IndexFunc_int_int.l0, rd_cast, hB]
          exact Ev_pos (by omega) (Ev_pos (by omega) (Ev_pos (by omega) (Ev_call _ (Ev.now _) (Ev_pos c (Ev.now _)))))
        · rw [c, Bool.true_or]; simp
      · obtain ⟨r, h1, h2⟩ := ih (i + 1) (by omega)
        refine ⟨r, Ev_succ ?_, ?_⟩
        · simp only [slices_IndexFunc_int_int.l0, rd_cast, hB]
          rw [wsucc (n := i) (by omega)]
          exact Ev_pos (by omega) (Ev_pos (by omega) (Ev_pos (by omega) (Ev_call _ (Ev.now _) (Ev_neg c h1))))
        · rw [h2, Bool.eq_false_iff.mpr c, Bool.false_or]
  obtain ⟨r, h1, h2⟩ := loop w.length 0 (Nat.zero_add _)
  rw [List.drop_zero] at h2
  unfold slices_ContainsFunc_int_int.f slices_IndexFunc_int_int.f
  exact Ev_call _ h1 (Ev_some h2)
/-- What the bits say behind r rounds. -/
def BitsOk (r : Nat) (b : List Bool) : Prop := b.length = l.length ∧ (∀ i : Nat, i < l.length → b.getD i false = true → lives l l.length (i : Int) = false) ∧ (∀ i : Nat, i < l.length → lives l r (i : Int) = false → b.getD i false = true)
include hn ho h8 in
theorem IG_round (r : Nat) (hr : r ≤ 100) (R : List Bool) (hR : ∀ b, BitsOk l (r + 1) b → Ev (fun k => impl_vanishing.l0 k b (l.length : Int) ((r + 1 : Nat) : Int) l) R) (d : Nat) :
    ∀ (i : Nat) (b : List Bool), i + d = l.length → BitsOk l r b → (∀ j : Nat, j < i → lives l (r + 1) (j : Int) = false → b.getD j false = true) → Ev (fun k => impl_vanishing.l1 k b (l.length : Int) (r : Int) l (l.length : Int) (i : Int) l) R := by
  induction d with
  | zero =>
    intro i b h hb hi
    refine Ev_succ ?_
    simp only [impl_vanishing.l1]
    rw [wsucc (n := r) (by omega)]
    exact Ev_neg (by omega) (hR b ⟨hb.1, hb.2.1, fun j hj => hi j (by omega)⟩)
  | succ d ih =>
    intro i b h hb hi
    have hil : i < l.length := by omega
    have e0 : rd_L1 l (i : Int) = img l (i : Int) := rfl
    have h8' := h8 (i : Int)
    have hc := IG_contains (img l (i : Int)) b (fun x hx => by rw [hb.1]; exact ho _ x hx) (by omega)
    refine Ev_succ ?_
    simp only [impl_vanishing.l1, e0]
    rw [wsucc (n := i) (by omega)]
    refine Ev_pos (by omega) (Ev_pos (by omega) (Ev_pos (by omega) (Ev_call _ hc (Ev_ite (fun h1 => ?_) (fun h1 => Ev_pos (by have := hb.1; omega) ?_)))))
    · refine ih (i + 1) b (by omega) hb (fun j hj hl => ?_)
      by_cases c : j = i
      · subst c
        rw [List.any_eq_true] at h1
        obtain ⟨y, hy, e⟩ := h1
        have hy2 := ho _ y hy
        exfalso
        have : lives l r y = true := by
          cases q : lives l r y with
          | true => rfl
          | false =>
            have := hb.2.2 y.toNat (by omega) (by rwa [show ((y.toNat : Nat) : Int) = y by omega])
            rw [this] at e; cases e
        have h2 : lives l (r + 1) (j : Int) = true := by rw [lives, List.any_eq_true]; exact ⟨y, hy, this⟩
        rw [h2] at hl; cases hl
      · exact hi j (by omega) hl
    · have hall : ∀ y ∈ img l (i : Int), b.getD y.toNat false = true := fun y hy => by
        cases q : b.getD y.toNat false with
        | true => rfl
        | false => exact absurd (List.any_eq_true.2 ⟨y, hy, by rw [q]; rfl⟩) h1
      have hdead : lives l l.length (i : Int) = false := by
        rw [← still_n ho i hil, lives]
        rw [Bool.eq_false_iff]
        intro e
        rw [List.any_eq_true] at e
        obtain ⟨y, hy, e⟩ := e
        have hy2 := ho _ y hy
        have := hb.2.1 y.toNat (by omega) (hall y hy)
        rw [show ((y.toNat : Nat) : Int) = y by omega] at this
        rw [this] at e; cases e
      have hset : ∀ j : Nat, (b.set i true).getD j false = if j = i then true else b.getD j false := by
        intro j
        rw [List.getD_eq_getElem?_getD, List.getElem?_set, List.getD_eq_getElem?_getD]
        by_cases c : j = i
        · subst c; rw [if_pos rfl, if_pos rfl, if_pos (by have := hb.1; omega)]; rfl
        · rw [if_neg (fun e => c e.symm), if_neg c]
      rw [Int.toNat_natCast]
      refine ih (i + 1) _ (by omega) ⟨by rw [List.length_set]; exact hb.1, fun j hj e => ?_, fun j hj e => ?_⟩ (fun j hj e => ?_)
      · rw [hset] at e
        by_cases c : j = i
        · subst c; exact hdead
        · rw [if_neg c] at e; exact hb.2.1 j hj e
      · rw [hset]
        by_cases c : j = i
        · rw [if_pos c]
        · rw [if_neg c]; exact hb.2.2 j hj e
      · rw [hset]
        by_cases c : j = i
        · rw [if_pos c]
        · rw [if_neg c]; exact hi j (by omega) e
def bitsF : List Bool := (List.range l.length).map (fun i : Nat => !(lives l l.length (i : Int)))
theorem bitsF_get (i : Nat) (hi : i < l.length) : (bitsF l).getD i false = !(lives l l.length (i : Int)) := by
  unfold bitsF
  rw [List.getD_eq_getElem?_getD, List.getElem?_map, List.getElem?_range hi]; rfl
theorem bits_eq (b : List Bool) (hb : BitsOk l l.length b) : b = bitsF l := by
  refine List.ext_getElem (by unfold bitsF; rw [List.length_map, List.length_range]; exact hb.1) (fun i h1 h2 => ?_)
  have hi : i < l.length := by rw [← hb.1]; exact h1
  have e1 : b[i] = b.getD i false := by rw [getD_eq h1]
  have e2 : (bitsF l)[i] = (bitsF l).getD i false := by rw [getD_eq h2]
  rw [e1, e2, bitsF_get l i hi]
  cases q : lives l l.length (i : Int) with
  | true =>
    cases p : b.getD i false with
    | false => rfl
    | true => have := hb.2.1 i hi p; rw [q] at this; cases this
  | false => rw [hb.2.2 i hi q]; rfl
include hn ho h8 in
theorem IG_rounds (d : Nat) : ∀ (r : Nat) (b : List Bool), r + d = l.length → BitsOk l r b → Ev (fun k => impl_vanishing.l0 k b (l.length : Int) (r : Int) l) (bitsF l) := by
  induction d with
  | zero =>
    intro r b h hb
    have hr : r = l.length := by omega
    subst hr
    refine Ev_succ ?_
    simp only [impl_vanishing.l0]
    exact Ev_neg (by omega) (Ev_some (bits_eq l b hb))
  | succ d ih =>
    intro r b h hb
    refine Ev_succ ?_
    simp only [impl_vanishing.l0]
    refine Ev_pos (by omega) ?_
    exact IG_round l hn ho h8 r (by omega) _ (fun b' hb' => ih (r + 1) b' (by omega) hb') _ 0 b (Nat.zero_add _) hb (fun j hj => by omega)
include hn ho h8 in
theorem impl_vanishing_ev : Ev (fun k => impl_vanishing.f k l) (bitsF l) := by
  unfold impl_vanishing.f
  refine Ev_pos (by omega) (Ev_pos (by omega) ?_)
  rw [Int.toNat_natCast]
  have hrep : ∀ i : Nat, (List.replicate l.length false).getD i false = false := by
    intro i
    rw [List.getD_eq_getElem?_getD, List.getElem?_replicate]
    split <;> rfl
  refine IG_rounds l hn ho h8 _ 0 _ (Nat.zero_add _) ⟨by rw [List.length_replicate], fun i hi e => ?_, fun i hi e => ?_⟩
  · rw [hrep] at e; cases e
  · rw [lives] at e; cases e
end
def growR (l : List (List Int)) (a : Int) : Bool := decide (okMor l = true ∧ 0 ≤ a ∧ a < (l.length : Int) ∧ 2 ≤ (img l a).length ∧ (img l a).getD 0 0 = a) && ((img l a).drop 1).any (lives l l.length)
theorem okMor_facts {l : List (List Int)} (h : okMor l = true) : (1 ≤ l.length ∧ l.length ≤ 16) ∧ okL l ∧ ∀ x : Int, (img l x).length ≤ 8 := by
  unfold okMor at h
  rw [decide_eq_true_eq] at h
  have key : ∀ x : Int, (img l x).length ≤ 8 ∧ ∀ y ∈ img l x, 0 ≤ y ∧ y < (l.length : Int) := by
    intro x
    by_cases c : x.toNat < l.length
    · have hm : img l x ∈ l := by unfold img; rw [getD_eq c]; exact List.getElem_mem _
      exact h.2 _ hm
    · have : img l x = [] := by unfold img; rw [List.getD_eq_getElem?_getD, List.getElem?_eq_none (by omega)]; rfl
      rw [this]; exact ⟨by simp, by simp⟩
  exact ⟨h.1, fun x y hy => (key x).2 y hy, fun x => (key x).1⟩
theorem spec_IsGrowing_ev (l : List (List Int)) (a : Int) (hl : l.length ≤ 1048576) (hr : ∀ r ∈ l, r.length ≤ 1048576) : Ev (fun k => spec_IsGrowing.f k l a) (growR l a) := by
  have no : ¬ (okMor l = true ∧ 0 ≤ a ∧ a < (l.length : Int) ∧ 2 ≤ (img l a).length ∧ (img l a).getD 0 0 = a) → Ev (fun k => spec_IsGrowing.j0 k a true l) (growR l a) := by
    intro h
    refine Ev_succ ?_
    simp only [spec_IsGrowing.j0]
    refine Ev_pos (by simp) (Ev_some ?_)
    unfold growR
    rw [decide_eq_false h]; rfl
  have e0 : rd_L1 l a = img l a := rfl
  have e1 : rd (img l a) 0 = (img l a).getD 0 0 := rfl
  unfold spec_IsGrowing.f
  rw [e0, e1]
  refine Ev_call _ (spec_IsMorphism_ev l hl hr) (Ev_ite (fun h1 => Ev_ite (fun h => no (fun e => by omega)) (fun h2 => Ev_ite (fun h => no (fun e => by omega)) (fun h3 => Ev_pos (by omega) (Ev_pos (by omega) (Ev_ite (fun h => no (fun e => by omega)) (fun h4 => Ev_pos (by omega) ?_)))))) (fun h => no (fun e => h e.1)))
  by_cases c : (img l a).getD 0 0 = a
  · rw [show ((img l a).getD 0 0 != a) = false by rw [c]; simp]
    obtain ⟨f1, f2, f3⟩ := okMor_facts h1
    have f3a := f3 a
    refine Ev_succ ?_
    simp only [spec_IsGrowing.j0, e0]
    refine Ev_neg (by simp) (Ev_pos (by omega) (Ev_pos (by omega) (Ev_pos (by omega) ?_)))
    have hin : ∀ x ∈ (img l a).drop 1, 0 ≤ x ∧ x < (l.length : Int) := fun x hx => f2 a x (List.mem_of_mem_drop hx)
    refine Ev_eq (spec_IG_l0 l f1.2 f2 f3 (l.length + 1) 0 _ (Nat.zero_add _) hin (by rw [List.length_drop]; omega)) ?_
    unfold growR
    rw [decide_eq_true (p := okMor l = true ∧ _) ⟨h1, by omega, by omega, by omega, c⟩, Bool.true_and]
    refine any_congr _ (fun x hx => ?_)
    have hx := hin x hx
    have := still_n f2 x.toNat (by omega)
    rwa [show ((x.toNat : Nat) : Int) = x by omega] at this
  · rw [show ((img l a).getD 0 0 != a) = true by rw [bne_iff_ne]; exact c]
    exact no (fun e => c e.2.2.2.2)
theorem impl_IsGrowing_ev (l : List (List Int)) (a : Int) (hl : l.length ≤ 1048576) (hr : ∀ r ∈ l, r.length ≤ 1048576) : Ev (fun k => impl_IsGrowing.f k l a) (growR l a) := by
  have no0 : ¬ (okMor l = true ∧ 0 ≤ a ∧ a < (l.length : Int) ∧ 2 ≤ (img l a).length ∧ (img l a).getD 0 0 = a) → Ev (fun k => impl_IsGrowing.j0 k a true l) (growR l a) := by
    intro h
    refine Ev_succ ?_
    simp only [impl_IsGrowing.j0]
    refine Ev_pos (by simp) (Ev_some ?_)
    unfold growR
    rw [decide_eq_false h]; rfl
  have no1 : ¬ (okMor l = true ∧ 0 ≤ a ∧ a < (l.length : Int) ∧ 2 ≤ (img l a).length ∧ (img l a).getD 0 0 = a) → Ev (fun k => impl_IsGrowing.j1 k (img l a) true l) (growR l a) := by
    intro h
    refine Ev_succ ?_
    simp only [impl_IsGrowing.j1]
    refine Ev_pos (by simp) (Ev_some ?_)
    unfold growR
    rw [decide_eq_false h]; rfl
  have e0 : rd_L1 l a = img l a := rfl
  have e1 : rd (img l a) 0 = (img l a).getD 0 0 := rfl
  unfold impl_IsGrowing.f
  refine Ev_call _ (impl_IsMorphism_ev l hl hr) (Ev_ite (fun h1 => Ev_ite (fun h => no0 (fun e => by omega)) (fun h2 => ?_)) (fun h => no0 (fun e => h e.1)))
  by_cases h3 : a ≥ (l.length : Int)
  · rw [decide_eq_true h3]; exact no0 (fun e => by omega)
  · rw [decide_eq_false h3]
    refine Ev_succ ?_
    simp only [impl_IsGrowing.j0, e0, e1]
    refine Ev_neg (by simp) (Ev_pos (by omega) (Ev_pos (by omega) (Ev_ite (fun h => no1 (fun e => by omega)) (fun h4 => Ev_pos (by omega) ?_))))
    by_cases c : (img l a).getD 0 0 = a
    · rw [show ((img l a).getD 0 0 != a) = false by rw [c]; simp]
      obtain ⟨f1, f2, f3⟩ := okMor_facts h1
      have f3a := f3 a
      refine Ev_succ ?_
      simp only [impl_IsGrowing.j1]
      have hbl : (bitsF l).length = l.length := by unfold bitsF; rw [List.length_map, List.length_range]
      have hin : ∀ x ∈ (img l a).drop 1, 0 ≤ x ∧ x < (l.length : Int) := fun x hx => f2 a x (List.mem_of_mem_drop hx)
      refine Ev_neg (by simp) (Ev_call _ (impl_vanishing_ev l f1.2 f2 f3) (Ev_pos (by omega) (Ev_call _ (IG_contains ((img l a).drop 1) (bitsF l) (fun x hx => by rw [hbl]; exact hin x hx) (by rw [List.length_drop]; omega)) (Ev_some ?_))))
      unfold growR
      rw [decide_eq_true (p := okMor l = true ∧ _) ⟨h1, by omega, by omega, by omega, c⟩, Bool.true_and]
      refine any_congr _ (fun x hx => ?_)
      have hx := hin x hx
      rw [bitsF_get l x.toNat (by omega), show ((x.toNat : Nat) : Int) = x by omega, Bool.not_not]
    · rw [show ((img l a).getD 0 0 != a) = true by rw [bne_iff_ne]; exact c]
      exact no1 (fun e => c e.2.2.2.2)

theorem appM_append (l : List (List Int)) (u v : List Int) : appM l (u ++ v) = appM l u ++ appM l v := by unfold appM; rw [List.flatMap_append]
def itM (l : List (List Int)) : Nat → List Int → List Int
  | 0, w => w
  | m + 1, w => itM l m (appM l w)
theorem itM_append (l : List (List Int)) (m : Nat) : ∀ u v, itM l m (u ++ v) = itM l m u ++ itM l m v := by
  induction m with
  | zero => intro u v; rfl
  | succ m ih => intro u v; rw [itM, itM, itM, appM_append, ih]
theorem itM_lives (l : List (List Int)) (m : Nat) : ∀ y, lives l m y = true → 0 < (itM l m [y]).length := by
  induction m with
  | zero => intro y _; simp [itM]
  | succ m ih =>
    intro y h
    rw [lives, List.any_eq_true] at h
    obtain ⟨z, hz, e⟩ := h
    obtain ⟨p, q, hpq⟩ := List.append_of_mem hz
    have e1 : appM l [y] = p ++ ([z] ++ q) := by
      unfold appM; rw [List.flatMap_cons, List.flatMap_nil, List.append_nil]; exact hpq
    have := ih z e
    rw [itM, e1, itM_append, itM_append, List.length_append, List.length_append]
    omega
theorem itM_mem (l : List (List Int)) (m : Nat) {y : Int} {w : List Int} (hy : y ∈ w) (h : lives l m y = true) : 0 < (itM l m w).length := by
  obtain ⟨p, q, rfl⟩ := List.append_of_mem hy
  have e1 : p ++ y :: q = p ++ ([y] ++ q) := by simp
  have := itM_lives l m y h
  rw [e1, itM_append, itM_append, List.length_append, List.length_append]; omega
theorem itM_grow (l : List (List Int)) (a : Int) (rest : List Int) (ha : img l a = a :: rest) (hr : ∀ m, ∃ y ∈ rest, lives l m y = true) (m : Nat) : m + 1 ≤ (itM l m [a]).length := by
  induction m with
  | zero => simp [itM]
  | succ m ih =>
    have e1 : appM l [a] = [a] ++ rest := by
      unfold appM; rw [List.flatMap_cons, List.flatMap_nil, List.append_nil]; exact ha
    obtain ⟨y, hy, e⟩ := hr m
    have := itM_mem l m hy e
    rw [itM, e1, itM_append, List.length_append]; omega
theorem not_own (l : List (List Int)) (a : Int) (rest : List Int) (ha : img l a = a :: rest) (hr : ∀ m, ∃ y ∈ rest, lives l m y = true) (u : List Int) : appM l (a :: u) ≠ a :: u := by
  intro h
  have hfix : ∀ m, itM l m (a :: u) = a :: u := by
    intro m
    induction m with
    | zero => rfl
    | succ m ih => rw [itM, h, ih]
  have h1 := itM_grow l a rest ha hr (a :: u).length
  have h2 := hfix (a :: u).length
  have e1 : a :: u = [a] ++ u := rfl
  rw [e1, itM_append] at h2
  have := congrArg List.length h2
  rw [List.length_append] at this
  rw [e1] at h1
  omega
theorem FP_loop (l : List (List Int)) (hl : l.length ≤ 16) (ho : okL l) (h8 : ∀ x : Int, (img l x).length ≤ 8) (a : Int) (rest : List Int) (ha : img l a = a :: rest) (hr : ∀ m, ∃ y ∈ rest, lives l m y = true) (n : Nat) (hn : n ≤ 256) (d : Nat) :
    ∀ (i : Nat) (x u : List Int), n ≤ i + d → 1 ≤ i → i ≤ 300 → x = a :: u → i ≤ x.length → x.length ≤ 300 → (∀ y ∈ x, 0 ≤ y ∧ y < (l.length : Int)) → appM l (x.take i) = x →
      ∃ R : List Int, R.length ≤ 256 ∧ Ev (fun k => spec_FixedPrefix.l0 k (n : Int) x (i : Int) l) (R, true) ∧ Ev (fun k => impl_FixedPrefix.l0 k (n : Int) x (i : Int) l) (R, true) := by
  have done : ∀ (i : Nat) (x : List Int), n ≤ x.length → x.length ≤ 300 → ∃ R : List Int, R.length ≤ 256 ∧ Ev (fun k => spec_FixedPrefix.l0 k (n : Int) x (i : Int) l) (R, true) ∧ Ev (fun k => impl_FixedPrefix.l0 k (n : Int) x (i : Int) l) (R, true) := by
    intro i x h hx
    refine ⟨x.take n, by rw [List.length_take]; omega, Ev_succ ?_, Ev_succ ?_⟩
    · simp only [spec_FixedPrefix.l0, Int.toNat_natCast]
      exact Ev_ite (fun _ => Ev_neg (by omega) (Ev_pos (by omega) (Ev_pos (by omega) (Ev.now _)))) (fun _ => Ev_neg (by omega) (Ev_pos (by omega) (Ev_pos (by omega) (Ev.now _))))
    · simp only [impl_FixedPrefix.l0, Int.toNat_natCast, Option.bind_some, List.nil_append, List.length_nil]
      exact Ev_neg (by omega) (Ev_pos (by omega) (Ev_pos (by omega) (Ev_pos (by rw [List.length_take]; omega) (Ev.now _))))
  have lt : ∀ (i : Nat) (x u : List Int), x = a :: u → i ≤ x.length → appM l (x.take i) = x → i < x.length := by
    intro i x u hx hi hf
    by_cases c : i < x.length
    · exact c
    · rw [List.take_of_length_le (by omega), hx] at hf
      exact absurd hf (not_own l a rest ha hr u)
  induction d with
  | zero =>
    intro i x u h h1 hi3 hx hi hx3 hin hf
    have := lt i x u hx hi hf
    exact done i x (by omega) hx3
  | succ d ih =>
    intro i x u h h1 hi3 hx hi hx3 hin hf
    have hlt := lt i x u hx hi hf
    by_cases c : x.length < n
    · have hy := hin (x.getD i 0) (by rw [getD_eq hlt]; exact List.getElem_mem _)
      have h8' := h8 (x.getD i 0)
      have e0 : rd_L1 l (x.getD i 0) = img l (x.getD i 0) := rfl
      have hf' : appM l ((x ++ img l (x.getD i 0)).take (i + 1)) = x ++ img l (x.getD i 0) := by
        rw [List.take_append_of_le_length (by omega), appM_take x i hlt, hf]; rfl
      obtain ⟨R, r1, r2, r3⟩ := ih (i + 1) (x ++ img l (x.getD i 0)) (u ++ img l (x.getD i 0)) (by omega) (by omega) (by omega) (by rw [hx]; rfl) (by rw [List.length_append]; omega) (by rw [List.length_append]; omega) (fun y hy => by
        rcases List.mem_append.1 hy with hy | hy
        · exact hin y hy
        · exact ho _ y hy) hf'
      refine ⟨R, r1, Ev_succ ?_, Ev_succ ?_⟩
      · simp only [spec_FixedPrefix.l0, rd_cast, e0]
        rw [wsucc (n := i) (by omega)]
        exact Ev_pos (by omega) (Ev_pos (by omega) (Ev_pos (by omega) (Ev_pos (by omega) (Ev_pos (by omega) (Ev_pos (by omega) (Ev_pos (by omega) r2))))))
      · simp only [impl_FixedPrefix.l0, rd_cast, e0]
        rw [wsucc (n := i) (by omega)]
        exact Ev_pos (by omega) (Ev_pos (by omega) (Ev_pos (by omega) (Ev_pos (by omega) (Ev_pos (by omega) (Ev_pos (by omega) r3)))))
    · exact done i x (by omega) hx3
theorem FP_both (l : List (List Int)) (a n : Int) (hl : l.length ≤ 1048576) (hr : ∀ r ∈ l, r.length ≤ 1048576) : ∃ (R : List Int) (b : Bool), R.length ≤ 256 ∧ Ev (fun k => spec_FixedPrefix.f k l a n) (R, b) ∧ Ev (fun k => impl_FixedPrefix.f k l a n) (R, b) := by
  have no : Ev (fun k => spec_FixedPrefix.j0 k a n true l) ([], false) := by
    refine Ev_succ ?_
    simp only [spec_FixedPrefix.j0]
    exact Ev_pos (by simp) (Ev.now _)
  have no2 : Ev (fun k => impl_FixedPrefix.j0 k a n true l) ([], false) := by
    refine Ev_succ ?_
    simp only [impl_FixedPrefix.j0]
    exact Ev_pos (by simp) (Ev.now _)
  have hs := spec_IsGrowing_ev l a hl hr
  have hi := impl_IsGrowing_ev l a hl hr
  by_cases g : growR l a = true
  · by_cases c : 0 ≤ n ∧ n ≤ 256
    · have g' := g
      unfold growR at g'
      rw [Bool.and_eq_true, decide_eq_true_eq] at g'
      obtain ⟨⟨g1, g2, g3, g4, g5⟩, g6⟩ := g'
      obtain ⟨f1, f2, f3⟩ := okMor_facts g1
      have f3a := f3 a
      obtain ⟨n, rfl⟩ := Int.eq_ofNat_of_zero_le c.1
      obtain ⟨x0, rest, hx0⟩ : ∃ x0 rest, img l a = x0 :: rest := by
        cases q : img l a with
        | nil => rw [q] at g4; simp at g4
        | cons x0 rest => exact ⟨x0, rest, rfl⟩
      have hxa : x0 = a := by rw [hx0] at g5; simpa using g5
      subst hxa
      have hlive : ∀ m, ∃ y ∈ rest, lives l m y = true := by
        intro m
        rw [hx0, List.any_eq_true] at g6
        obtain ⟨y, hy, e⟩ := g6
        have hy' : y ∈ rest := by simpa using hy
        have hyi := f2 x0 y (by rw [hx0]; exact List.mem_cons_of_mem _ hy')
        refine ⟨y, hy', ?_⟩
        have up : ∀ d, lives l (l.length + d) y = true := by
          intro d
          induction d with
          | zero => exact e
          | succ d ih =>
            have := still_all f2 (still_n f2) d y.toNat (by omega)
            rw [show ((y.toNat : Nat) : Int) = y by omega] at this
            rw [show l.length + (d + 1) = l.length + d + 1 by omega, this]; exact ih
        have down : ∀ d m', lives l (m' + d) y = true → lives l m' y = true := by
          intro d
          induction d with
          | zero => intro m' h; exact h
          | succ d ih => intro m' h; exact ih m' (lives_down l _ y (by rwa [show m' + (d + 1) = m' + d + 1 by omega] at h))
        exact down l.length m (by rw [Nat.add_comm]; exact up m)
      obtain ⟨R, r1, r2, r3⟩ := FP_loop l f1.2 f2 f3 x0 rest hx0 hlive n (by omega) n 1 (img l x0) rest (by omega) (by omega) (by omega) hx0 (by omega) (by omega) (fun y hy => f2 x0 y hy) (by
        rw [hx0, List.take_succ_cons, List.take_zero]
        unfold appM; rw [List.flatMap_cons, List.flatMap_nil, List.append_nil]; exact hx0)
      have e0 : rd_L1 l x0 = img l x0 := rfl
      have hcl : slices_Clone_int_int.f (img l x0) = some (img l x0) := by
        unfold slices_Clone_int_int.f
        simp only [Option.bind_some, List.nil_append, List.length_nil]
        rw [if_pos (by omega)]
      refine ⟨R, true, r1, ?_, ?_⟩
      · unfold spec_FixedPrefix.f
        refine Ev_call _ hs (Ev_pos g (Ev_call _ (Ev_const (spec_l1In_eq _ _ _)) ?_))
        rw [decide_eq_true (by omega)]
        refine Ev_succ ?_
        simp only [spec_FixedPrefix.j0, e0, Option.bind_some, List.nil_append, List.length_nil]
        exact Ev_neg (by simp) (Ev_pos (by omega) (Ev_pos (by omega) (Ev_pos (by omega) r2)))
      · unfold impl_FixedPrefix.f
        refine Ev_call _ hi (Ev_pos g (Ev_neg (by omega) ?_))
        rw [decide_eq_false (by omega)]
        refine Ev_succ ?_
        simp only [impl_FixedPrefix.j0, e0]
        exact Ev_neg (by simp) (Ev_pos (by omega) (Ev_pos (by omega) (Ev_call _ (Ev_const hcl) r3)))
    · refine ⟨[], false, by simp, ?_, ?_⟩
      · unfold spec_FixedPrefix.f
        refine Ev_call _ hs (Ev_pos g (Ev_call _ (Ev_const (spec_l1In_eq _ _ _)) ?_))
        rw [decide_eq_false (by omega)]
        exact no
      · unfold impl_FixedPrefix.f
        refine Ev_call _ hi (Ev_pos g (Ev_ite (fun h => no2) (fun h => ?_)))
        rw [decide_eq_true (by omega)]
        exact no2
  · refine ⟨[], false, by simp, ?_, ?_⟩
    · unfold spec_FixedPrefix.f
      exact Ev_call _ hs (Ev_neg g no)
    · unfold impl_FixedPrefix.f
      exact Ev_call _ hi (Ev_neg g no2)
theorem FnExactFixedPrefix_all (l : List (List Int)) (a n : Int) (hl : l.length ≤ 1048576) (hr : ∀ r ∈ l, r.length ≤ 1048576) :
    ∃ (K : Nat) (R R' : List Int) (b : Bool) (mx mg : Int) (x1 : List (List Int)), ∀ k, K ≤ k → (0 ≤ mx ∧ 0 ≤ mg ∧ laws_toMorphism.f k l = some l ∧ spec_FixedPrefix.f k l a n = some (R, b) ∧ impl_FixedPrefix.f k l a n = some (R, b) ∧ laws_eqIntS.f k R R = some true ∧ laws_eqMorphism.f k l l = some true ∧ laws_markMorphism.f k l 1 = some (mx, x1) ∧ laws_markIntS.f k R 1 = some (mg, R') ∧ laws_heldIntS.f k R' 1 = some mg) := by
  have ht := total_small hl hr
  obtain ⟨R, b, hR, h1, h2⟩ := FP_both l a n hl hr
  have e4 : Ev (fun k => laws_eqIntS.f k R R) true := Ev_eq (laws_eqIntS_ev R R (by omega)) (by simp)
  obtain ⟨K1, k1⟩ := laws_toMorphism_ev l hl hr
  obtain ⟨K2, k2⟩ := h1
  obtain ⟨K3, k3⟩ := h2
  obtain ⟨K4, k4⟩ := e4
  obtain ⟨K5, k5⟩ := laws_eqMorphism_refl l hl hr
  obtain ⟨K6, k6⟩ := laws_markMorphism_ev l 1 (by omega) (by omega) (by omega)
  obtain ⟨K7, k7⟩ := laws_markIntS_ev R 1 (by omega) (by omega) (by omega)
  obtain ⟨K8, k8⟩ := laws_heldIntS_ev R.length 1 (by omega) (by omega) (by omega)
  exact ⟨K1 + K2 + K3 + K4 + K5 + K6 + K7 + K8, R, iota 1 R.length, b, 1 + total l, 1 + R.length, _, fun k hk => ⟨by omega, by omega, k1 k (by omega), k2 k (by omega), k3 k (by omega), k4 k (by omega), k5 k (by omega), k6 k (by omega), k7 k (by omega), k8 k (by omega)⟩⟩

end Go.Proofs.Ytolikggioekalaa.Pure
