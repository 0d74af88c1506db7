/- At every morphism and coding the parts of the law answer alike, and the marks hold. -/
import Derived.Test.YtolikggioekalaaVWalkFnExactSequenceOf
import Derived.Test.YtolikggioekalaaVG0
import Derived.Test.YtolikggioekalaaVGSized
import Derived.Test.YtolikggioekalaaVGArgs
import Derived.Test.YtolikggioekalaaVGMarks
import Derived.Test.YtolikggioekalaaVGSeq
import Derived.Test.YtolikggioekalaaVGMor
namespace Go.Proofs.Ytolikggioekalaa.Pure
open Go.RowKit Go.Proofs.Ytolikggioekalaa.PFnExactSequenceOf Go.Proofs.YtolikggioekalaaW.PrintWords Go.Proofs.YtolikggioekalaaW.PrintLast Go.Proofs.YtolikggioekalaaW.PrintMore Go.Proofs.Ytolikggioekalaa.G
set_option linter.unusedVariables false
set_option linter.unusedSimpArgs false

/-! ### laws_szIntSS -/
theorem laws_szIntS_eq (l : List Int) (a : Int) (h : 0 ≤ a) (h2 : a ≤ 1048576) (hl : l.length ≤ maxLen) :
    laws_szIntS.f l a = some (if a < l.length then -1 else a - l.length) := by
  unfold maxLen at hl
  unfold laws_szIntS.f
  rw [w64 (n := a - (l.length : Int)) (by omega) (by omega)]
  by_cases c : a < l.length
  · rw [if_pos (by omega), if_pos c]
  · rw [if_neg (by omega), if_neg c]

theorem laws_szIntSS_loop (l : List (List Int)) (hm : l.length ≤ 1048576) (hr : ∀ r ∈ l, r.length ≤ maxLen) (d : Nat) : ∀ (n : Nat) (a : Int), n + d = l.length → 0 ≤ a → a ≤ 1048576 →
    ∃ r : Int, Ev (fun k => laws_szIntSS.l0 k l a (n : Int)) r ∧ r ≤ 1048576 ∧ (r < 0 ∨ ∀ i, n ≤ i → i < l.length → (l.getD i []).length ≤ 1048576) := by
  induction d with
  | zero =>
    intro n a h h0 h1
    refine ⟨a, Ev_succ ?_, h1, Or.inr (fun i h2 h3 => by omega)⟩
    simp only [laws_szIntSS.l0]
    exact Ev_neg (by omega) (Ev.now _)
  | succ d ih =>
    intro n a h h0 h1
    have hrow := hr (l.getD n []) (by rw [getD_eq (by omega)]; exact List.getElem_mem _)
    have es := laws_szIntS_eq (l.getD n []) a h0 h1 hrow
    by_cases c : a < (l.getD n []).length
    · refine ⟨-1, Ev_succ ?_, by omega, Or.inl (by omega)⟩
      simp only [laws_szIntSS.l0, rd_L1, Int.toNat_natCast, es, Option.bind_some, if_pos c]
      exact Ev_pos (by omega) (Ev_pos (by omega) (Ev_pos (by omega) (Ev.now _)))
    · obtain ⟨r, g1, g2, g3⟩ := ih (n + 1) (a - (l.getD n []).length) (by omega) (by omega) (by omega)
      refine ⟨r, Ev_succ ?_, g2, ?_⟩
      · simp only [laws_szIntSS.l0, rd_L1, Int.toNat_natCast, es, Option.bind_some, if_neg c]
        rw [wsucc (n := n) (by omega)]
        exact Ev_pos (by omega) (Ev_pos (by omega) (Ev_neg (by omega) g1))
      · rcases g3 with g3 | g3
        · exact Or.inl g3
        · refine Or.inr (fun i h2 h3 => ?_)
          by_cases e : i = n
          · subst e; omega
          · exact g3 i (by omega) h3

theorem laws_szIntSS_ev (l : List (List Int)) (a : Int) (h0 : 0 ≤ a) (h1 : a ≤ 1048576) (hm : l.length ≤ maxLen) (hr : ∀ r ∈ l, r.length ≤ maxLen) :
    ∃ r : Int, Ev (fun k => laws_szIntSS.f k l a) r ∧ r ≤ 1048576 ∧ (r < 0 ∨ (l.length ≤ 1048576 ∧ ∀ x ∈ l, x.length ≤ 1048576)) := by
  have hm' := hm
  unfold maxLen at hm
  unfold laws_szIntSS.f
  rw [w64 (n := a - (l.length : Int)) (by omega) (by omega)]
  by_cases c : a - (l.length : Int) < 0
  · exact ⟨-1, Ev_pos c (Ev.now _), by omega, Or.inl (by omega)⟩
  · obtain ⟨r, g1, g2, g3⟩ := laws_szIntSS_loop l (by omega) hr _ 0 (a - l.length) (Nat.zero_add _) (by omega) (by omega)
    refine ⟨r, Ev_neg c g1, g2, ?_⟩
    rcases g3 with g3 | g3
    · exact Or.inl g3
    · refine Or.inr ⟨by omega, fun x hx => ?_⟩
      obtain ⟨i, hi, rfl⟩ := List.getElem_of_mem hx
      have := g3 i (by omega) hi
      rwa [getD_eq hi] at this

/-! ### laws_toIntS -/
theorem laws_toIntS_loop (l : List Int) (hb : l.length ≤ 17592186044416) (d : Nat) : ∀ (n : Nat) (acc : List Int), acc.length = l.length → n ≤ l.length → l.length - n = d → acc.take n = l.take n →
    Ev (fun k => laws_toIntS.l0 k l acc (n : Int)) l := by
  induction d with
  | zero =>
    intro n acc h0 h1 h2 h3
    refine Ev_succ ?_
    simp only [laws_toIntS.l0]
    refine Ev_neg (by omega) (Ev_some ?_)
    have : n = l.length := by omega
    subst this
    rw [List.take_length, ← h0, List.take_length] at h3
    exact h3
  | succ d ih =>
    intro n acc h0 h1 h2 h3
    refine Ev_succ ?_
    simp only [laws_toIntS.l0]
    refine Ev_pos (by omega) (Ev_pos (by omega) (Ev_pos (by omega) ?_))
    rw [rd_cast, wsucc (by omega), Int.toNat_natCast]
    refine ih (n + 1) _ (by simpa using h0) (by omega) (by omega) ?_
    rw [set_take_succ acc n _ (by omega), take_succ_getD l n 0 (by omega), h3]

theorem laws_toIntS_ev (l : List Int) (hb : l.length ≤ 17592186044416) : Ev (fun k => laws_toIntS.f k l) l := by
  unfold laws_toIntS.f
  refine Ev_pos (by omega) (Ev_pos (by omega) ?_)
  exact laws_toIntS_loop l hb _ 0 _ (by simp) (by omega) rfl (by simp)

/-! ### laws_toIntSS -/
theorem laws_toIntSS_loop (l : List (List Int)) (hm : l.length ≤ 1048576) (hr : ∀ x ∈ l, x.length ≤ 17592186044416) (d : Nat) : ∀ (n : Nat) (acc : List (List Int)), acc.length = l.length → n + d = l.length → acc.take n = l.take n →
    Ev (fun k => laws_toIntSS.l0 k l acc (n : Int)) l := by
  induction d with
  | zero =>
    intro n acc h0 h1 h2
    refine Ev_succ ?_
    simp only [laws_toIntSS.l0]
    refine Ev_neg (by omega) (Ev_some ?_)
    have : n = l.length := by omega
    subst this
    rw [List.take_length, ← h0, List.take_length] at h2
    exact h2
  | succ d ih =>
    intro n acc h0 h1 h2
    refine Ev_succ ?_
    simp only [laws_toIntSS.l0, rd_L1, Int.toNat_natCast]
    have hrow := hr (l.getD n []) (by rw [getD_eq (by omega)]; exact List.getElem_mem _)
    refine Ev_pos (by omega) (Ev_pos (by omega) (Ev_call _ (laws_toIntS_ev _ hrow) (Ev_pos (by omega) ?_)))
    rw [wsucc (n := n) (by omega)]
    refine ih (n + 1) _ (by simpa using h0) (by omega) ?_
    rw [set_take_succ acc n _ (by omega), take_succ_getD l n [] (by omega), h2]

theorem laws_toIntSS_ev (l : List (List Int)) (hm : l.length ≤ 1048576) (hr : ∀ x ∈ l, x.length ≤ 17592186044416) : Ev (fun k => laws_toIntSS.f k l) l := by
  unfold laws_toIntSS.f
  refine Ev_pos (by omega) (Ev_pos (by omega) ?_)
  exact laws_toIntSS_loop l hm hr _ 0 _ (by simp) (Nat.zero_add _) (by simp)

/-! ### laws_eqIntS -/
theorem laws_eqIntS_loop (a b : List Int) (hl : a.length = b.length) (hb : a.length ≤ 17592186044416) (d : Nat) : ∀ n : Nat, n ≤ a.length → a.length - n = d → a.take n = b.take n →
    Ev (fun k => laws_eqIntS.l0 k a b (n : Int)) (decide (a = b)) := by
  induction d with
  | zero =>
    intro n h1 h2 h3
    refine Ev_succ ?_
    simp only [laws_eqIntS.l0]
    refine Ev_neg (by omega) (Ev_some ?_)
    have : n = a.length := by omega
    subst this
    rw [List.take_length, hl, List.take_length] at h3
    simp [h3]
  | succ d ih =>
    intro n h1 h2 h3
    refine Ev_succ ?_
    simp only [laws_eqIntS.l0]
    refine Ev_pos (by omega) (Ev_pos (by omega) (Ev_pos (by omega) ?_))
    rw [rd_cast, rd_cast, wsucc (by omega)]
    refine Ev_ite (fun h => ?_) (fun h => Ev_some ?_)
    · refine ih (n + 1) (by omega) (by omega) ?_
      rw [take_succ_getD a n 0 (by omega), take_succ_getD b n 0 (by omega), h3, h]
    · symm
      rw [decide_eq_false_iff_not]
      intro e
      exact h (by rw [e])

theorem laws_eqIntS_ev (a b : List Int) (hb : a.length ≤ 17592186044416) : Ev (fun k => laws_eqIntS.f k a b) (decide (a = b)) := by
  unfold laws_eqIntS.f
  refine Ev_ite (fun h => ?_) (fun h => Ev_some ?_)
  · exact laws_eqIntS_loop a b (by omega) hb _ 0 (by omega) rfl (by simp)
  · symm
    rw [decide_eq_false_iff_not]
    intro e
    exact h (by rw [e])

/-! ### laws_eqIntSS -/
theorem laws_eqIntSS_loop (a b : List (List Int)) (hl : a.length = b.length) (hb : a.length ≤ 1048576) (hr : ∀ x ∈ a, x.length ≤ 17592186044416) (d : Nat) : ∀ n : Nat, n + d = a.length → a.take n = b.take n →
    Ev (fun k => laws_eqIntSS.l0 k a b (n : Int)) (decide (a = b)) := by
  induction d with
  | zero =>
    intro n h1 h2
    refine Ev_succ ?_
    simp only [laws_eqIntSS.l0]
    refine Ev_neg (by omega) (Ev_some ?_)
    have : n = a.length := by omega
    subst this
    rw [List.take_length, hl, List.take_length] at h2
    simp [h2]
  | succ d ih =>
    intro n h1 h2
    refine Ev_succ ?_
    simp only [laws_eqIntSS.l0, rd_L1, Int.toNat_natCast]
    have hrow := hr (a.getD n []) (by rw [getD_eq (by omega)]; exact List.getElem_mem _)
    refine Ev_pos (by omega) (Ev_pos (by omega) (Ev_pos (by omega) (Ev_call _ (laws_eqIntS_ev _ _ hrow) ?_)))
    rw [wsucc (n := n) (by omega)]
    refine Ev_ite (fun h => ?_) (fun h => Ev_some ?_)
    · rw [decide_eq_true_eq] at h
      refine ih (n + 1) (by omega) ?_
      rw [take_succ_getD a n [] (by omega), take_succ_getD b n [] (by omega), h2, h]
    · rw [decide_eq_true_eq] at h
      symm
      rw [decide_eq_false_iff_not]
      intro e
      exact h (by rw [e])

theorem laws_eqIntSS_ev (a b : List (List Int)) (hb : a.length ≤ 1048576) (hr : ∀ x ∈ a, x.length ≤ 17592186044416) : Ev (fun k => laws_eqIntSS.f k a b) (decide (a = b)) := by
  unfold laws_eqIntSS.f
  refine Ev_ite (fun h => ?_) (fun h => Ev_some ?_)
  · exact laws_eqIntSS_loop a b (by omega) hb hr _ 0 (Nat.zero_add _) (by simp)
  · symm
    rw [decide_eq_false_iff_not]
    intro e
    exact h (by rw [e])

/-! ### laws_markIntS -/
theorem laws_markIntS_loop (L : Nat) (m : Int) (hm : 0 ≤ m) (hm2 : m ≤ 17592186044416) (hb : L ≤ 17592186044416) (d : Nat) : ∀ (n : Nat) (acc : List Int), acc.length = L → n ≤ L → L - n = d → acc.take n = iota m n →
    Ev (fun k => laws_markIntS.l0 k acc (m + n) (n : Int)) (m + L, iota m L) := by
  induction d with
  | zero =>
    intro n acc h0 h1 h2 h3
    refine Ev_succ ?_
    simp only [laws_markIntS.l0]
    refine Ev_neg (by omega) (Ev_some ?_)
    have : n = L := by omega
    subst this
    rw [← h3, ← h0, List.take_length]
  | succ d ih =>
    intro n acc h0 h1 h2 h3
    refine Ev_succ ?_
    simp only [laws_markIntS.l0]
    refine Ev_pos (by omega) (Ev_pos (by omega) ?_)
    rw [wsucc (by omega), Int.toNat_natCast, w64 (n := m + (n : Int) + 1) (by omega) (by omega)]
    have e : m + (n : Int) + 1 = m + ((n + 1 : Nat) : Int) := by omega
    rw [e]
    refine ih (n + 1) _ (by simpa using h0) (by omega) (by omega) ?_
    rw [set_take_succ acc n _ (by omega), h3, iota_succ]

theorem laws_markIntS_ev (l : List Int) (m : Int) (hm : 0 ≤ m) (hm2 : m ≤ 17592186044416) (hb : l.length ≤ 17592186044416) : Ev (fun k => laws_markIntS.f k l m) (m + l.length, iota m l.length) := by
  unfold laws_markIntS.f
  have := laws_markIntS_loop l.length m hm hm2 hb _ 0 l rfl (by omega) rfl (by simp [iota])
  simpa using this

/-! ### laws_markIntSS -/
theorem laws_markIntSS_loop (rest : List (List Int)) : ∀ (pre : List (List Int)) (a : Int), 0 ≤ a → a + total rest ≤ 17592186044416 → (pre ++ rest).length ≤ 17592186044416 →
    Ev (fun k => laws_markIntSS.l0 k (pre ++ rest) a ((pre.length : Nat) : Int)) (a + total rest, pre ++ marks a rest) := by
  induction rest with
  | nil =>
    intro pre a h0 h1 h2
    refine Ev_succ ?_
    simp only [laws_markIntSS.l0]
    exact Ev_neg (by simp) (Ev_some (by simp [total, marks]))
  | cons r rs ih =>
    intro pre a h0 h1 h2
    simp only [total] at h1
    simp only [List.length_append, List.length_cons] at h2
    have hm := laws_markIntS_ev r a h0 (by omega) (by omega)
    refine Ev_succ ?_
    simp only [laws_markIntSS.l0, rd_L1, Int.toNat_natCast, getD_pre, set_pre]
    refine Ev_pos (by simp; omega) (Ev_pos (by omega) (Ev_call _ hm ?_))
    rw [wsucc (by omega)]
    have := ih (pre ++ [iota a r.length]) (a + r.length) (by omega) (by omega) (by simp; omega)
    simp only [List.length_append, List.length_cons, List.length_nil] at this
    refine Ev_eq this ?_
    simp only [total, marks, List.append_assoc, List.cons_append, List.nil_append, Int.natCast_add]
    congr 1
    omega

theorem laws_markIntSS_ev (l : List (List Int)) (a : Int) (h0 : 0 ≤ a) (h1 : a + total l ≤ 17592186044416) (h2 : l.length ≤ 17592186044416) : Ev (fun k => laws_markIntSS.f k l a) (a + total l, marks a l) := by
  unfold laws_markIntSS.f
  have := laws_markIntSS_loop l [] a h0 h1 (by simpa using h2)
  simpa using this

/-! ### laws_Morphism -/
theorem laws_szMorphism_ev (l : List (List Int)) (hm : l.length ≤ maxLen) (hr : ∀ r ∈ l, r.length ≤ maxLen) :
    ∃ r : Int, Ev (fun k => laws_szMorphism.f k l 1048576) r ∧ (r < 0 ∨ (l.length ≤ 1048576 ∧ (∀ x ∈ l, x.length ≤ 1048576))) := by
  obtain ⟨r, g1, g2, g3⟩ := laws_szIntSS_ev l 1048576 (by omega) (by omega) hm hr
  unfold laws_szMorphism.f
  by_cases c : r < 0
  · exact ⟨-1, Ev_call _ g1 (Ev_pos c (Ev.now _)), Or.inl (by omega)⟩
  · exact ⟨r, Ev_call _ g1 (Ev_neg c (Ev.now _)), Or.inr (g3.resolve_left c)⟩
theorem laws_toMorphism_ev (l : List (List Int)) (hm : l.length ≤ 1048576) (hr : ∀ x ∈ l, x.length ≤ 1048576) : Ev (fun k => laws_toMorphism.f k l) l := by
  unfold laws_toMorphism.f
  exact Ev_call _ (laws_toIntSS_ev l hm (fun x hx => Nat.le_trans (hr x hx) (by omega))) (Ev.now _)
theorem laws_eqMorphism_refl (l : List (List Int)) (hm : l.length ≤ 1048576) (hr : ∀ x ∈ l, x.length ≤ 1048576) : Ev (fun k => laws_eqMorphism.f k l l) true := by
  unfold laws_eqMorphism.f
  have := laws_eqIntSS_ev l l hm (fun x hx => Nat.le_trans (hr x hx) (by omega))
  refine Ev_call _ this (Ev_pos (by simp) (Ev.now _))
theorem laws_markMorphism_ev (l : List (List Int)) (a : Int) (h0 : 0 ≤ a) (h1 : a + total l ≤ 17592186044416) (h2 : l.length ≤ 17592186044416) : Ev (fun k => laws_markMorphism.f k l a) (a + total l, marks a l) := laws_markIntSS_ev l a h0 h1 h2

/-! ### laws_Sequence -/
theorem laws_eqSequence_refl (b : Int) (l : List (List Int)) (o : List Int) (hm : l.length ≤ 1048576) (hr : ∀ x ∈ l, x.length ≤ 1048576) (ho : o.length ≤ 1048576) : Ev (fun k => laws_eqSequence.f k b l o b l o) true := by
  unfold laws_eqSequence.f
  exact Ev_pos rfl (Ev_call _ (laws_eqIntSS_ev l l hm (fun x hx => Nat.le_trans (hr x hx) (by omega))) (Ev_pos (by simp) (Ev_call _ (laws_eqIntS_ev o o (by omega)) (Ev_pos (by simp) (Ev.now _)))))
theorem laws_markSequence_ev (b : Int) (l : List (List Int)) (o : List Int) (a : Int) (h0 : 0 ≤ a) (h1 : a + total l ≤ 17592186044416) (h2 : l.length ≤ 17592186044416) (ho : o.length ≤ 1048576) : Ev (fun k => laws_markSequence.f k b l o a) (a + total l + o.length, iota (a + total l) o.length) := by
  unfold laws_markSequence.f
  exact Ev_call _ (laws_markIntSS_ev l a h0 h1 h2) (Ev_call _ (laws_markIntS_ev o _ (by omega) h1 (by omega)) (Ev.now _))

/-! ### laws_heldIntS -/
theorem laws_heldIntS_loop (L : Nat) (m : Int) (hm : 0 ≤ m) (hm2 : m ≤ 17592186044416) (hb : L ≤ 17592186044416) (d : Nat) : ∀ (n : Nat), n ≤ L → L - n = d →
    Ev (fun k => laws_heldIntS.l0 k (iota m L) (m + n) (n : Int)) (m + L) := by
  induction d with
  | zero =>
    intro n h1 h2
    refine Ev_succ ?_
    simp only [laws_heldIntS.l0]
    refine Ev_neg (by rw [iota_length]; omega) (Ev_some ?_)
    omega
  | succ d ih =>
    intro n h1 h2
    refine Ev_succ ?_
    simp only [laws_heldIntS.l0]
    refine Ev_pos (by rw [iota_length]; omega) (Ev_pos (by omega) ?_)
    rw [rd_cast, iota_getD m L n (by omega)]
    refine Ev_pos rfl ?_
    rw [wsucc (by omega), w64 (n := m + (n : Int) + 1) (by omega) (by omega)]
    have e : m + (n : Int) + 1 = m + ((n + 1 : Nat) : Int) := by omega
    rw [e]
    exact ih (n + 1) (by omega) (by omega)

theorem laws_heldIntS_ev (L : Nat) (m : Int) (hm : 0 ≤ m) (hm2 : m ≤ 17592186044416) (hb : L ≤ 17592186044416) : Ev (fun k => laws_heldIntS.f k (iota m L) m) (m + L) := by
  unfold laws_heldIntS.f
  have := laws_heldIntS_loop L m hm hm2 hb _ 0 (by omega) rfl
  simpa using this

/-! ### laws_heldIntSS -/
theorem laws_heldIntSS_loop (rest : List (List Int)) : ∀ (pre : List (List Int)) (a : Int), 0 ≤ a → a + total rest ≤ 17592186044416 → (pre ++ rest).length ≤ 17592186044416 →
    Ev (fun k => laws_heldIntSS.l0 k (pre ++ marks a rest) a ((pre.length : Nat) : Int)) (a + total rest) := by
  induction rest with
  | nil =>
    intro pre a h0 h1 h2
    refine Ev_succ ?_
    simp only [laws_heldIntSS.l0]
    exact Ev_neg (by simp [marks]) (Ev_some (by simp [total]))
  | cons r rs ih =>
    intro pre a h0 h1 h2
    simp only [total] at h1
    simp only [List.length_append, List.length_cons] at h2
    have hm := laws_heldIntS_ev r.length a h0 (by omega) (by omega)
    refine Ev_succ ?_
    simp only [laws_heldIntSS.l0, rd_L1, Int.toNat_natCast, marks, getD_pre]
    refine Ev_pos (by simp; omega) (Ev_pos (by omega) (Ev_call _ hm (Ev_neg (by omega) ?_)))
    rw [wsucc (by omega)]
    have := ih (pre ++ [iota a r.length]) (a + r.length) (by omega) (by omega) (by simp; omega)
    simp only [List.length_append, List.length_cons, List.length_nil, List.append_assoc, List.cons_append, List.nil_append] at this
    refine Ev_eq this ?_
    simp only [total]
    omega

theorem laws_heldIntSS_ev (l : List (List Int)) (a : Int) (h0 : 0 ≤ a) (h1 : a + total l ≤ 17592186044416) (h2 : l.length ≤ 17592186044416) : Ev (fun k => laws_heldIntSS.f k (marks a l) a) (a + total l) := by
  unfold laws_heldIntSS.f
  have := laws_heldIntSS_loop l [] a h0 h1 (by simpa using h2)
  simpa using this

/-! ### spec_l1In -/
theorem spec_l1In_eq (x a b : Int) : spec_l1In.f x a b = some (decide (a ≤ x ∧ x ≤ b)) := by
  unfold spec_l1In.f
  by_cases h : x ≥ a
  · rw [if_pos h]; simp [h]
  · rw [if_neg h]; congr 1; symm; rw [decide_eq_false_iff_not]; omega

/-! ### spec_IsSequence -/
theorem spec_IsSequence_l2 (b : Int) (l : List (List Int)) (o : List Int) (ho : o.length ≤ 1048576) (d : Nat) : ∀ n : Nat, n + d = o.length →
    Ev (fun k => spec_IsSequence.l2 k (n : Int) b l o) (decide (OutIn (o.drop n) ∧ (2 ≤ b ∧ b ≤ 4) ∧ (1 ≤ l.length ∧ l.length ≤ 16) ∧ o.length = l.length)) := by
  induction d with
  | zero =>
    intro n h
    have hz : OutIn (o.drop n) := by rw [List.drop_of_length_le (by omega)]; intro v hv; cases hv
    refine Ev_succ ?_
    simp only [spec_IsSequence.l2]
    refine Ev_neg (by omega) (Ev_call _ (Ev_const (spec_l1In_eq _ _ _)) (Ev_ite (fun h1 => Ev_call _ (Ev_const (spec_l1In_eq _ _ _)) (Ev_ite (fun h2 => Ev_some ?_) (fun h2 => Ev_some ?_))) (fun h1 => Ev_some ?_)))
    · rw [decide_eq_true_eq] at h1 h2
      rw [Bool.eq_iff_iff, beq_iff_eq, decide_eq_true_eq]
      exact ⟨fun e => ⟨hz, h1, by omega, by omega⟩, fun e => by have := e.2.2.2; omega⟩
    · rw [decide_eq_true_eq] at h2
      symm; rw [decide_eq_false_iff_not]
      intro e; have := e.2.2.1; exact h2 (by omega)
    · rw [decide_eq_true_eq] at h1
      symm; rw [decide_eq_false_iff_not]
      intro e; exact h1 e.2.1
  | succ d ih =>
    intro n h
    have hn : n < o.length := by omega
    refine Ev_succ ?_
    simp only [spec_IsSequence.l2, rd_cast]
    rw [wsucc (n := n) (by omega), drop_cons o n 0 hn]
    refine Ev_pos (by omega) (Ev_pos (by omega) (Ev_call _ (Ev_const (spec_l1In_eq _ _ _)) (Ev_ite (fun h1 => Ev_eq (ih (n + 1) (by omega)) ?_) (fun h1 => Ev_some ?_))))
    · rw [decide_eq_true_eq] at h1
      rw [decide_eq_decide, outIn_cons]
      exact ⟨fun e => ⟨⟨h1, e.1⟩, e.2⟩, fun e => ⟨e.1.2, e.2⟩⟩
    · rw [decide_eq_true_eq] at h1
      symm; rw [decide_eq_false_iff_not, outIn_cons]
      intro e; exact h1 e.1.1
theorem spec_IsSequence_l1 (b : Int) (l : List (List Int)) (o : List Int) (hl : l.length ≤ 1048576) (hr : ∀ x ∈ l, x.length ≤ 1048576) (i : Nat) (hi : i < l.length) (R : Prop) [Decidable R] (hR : Ev (fun k => spec_IsSequence.l0 k ((i + 1 : Nat) : Int) b l o) (decide R)) (d : Nat) :
    ∀ n : Nat, n + d = (l.getD i []).length → Ev (fun k => spec_IsSequence.l1 k (i : Int) (n : Int) b l o) (decide (RowIn l.length ((l.getD i []).drop n) ∧ R)) := by
  have hrow := hr (l.getD i []) (by rw [getD_eq hi]; exact List.getElem_mem _)
  induction d with
  | zero =>
    intro n h
    refine Ev_succ ?_
    simp only [spec_IsSequence.l1, rd_L1, Int.toNat_natCast]
    rw [wsucc (n := i) (by omega)]
    refine Ev_pos (by omega) (Ev_pos (by omega) (Ev_neg (by omega) (Ev_eq hR ?_)))
    rw [List.drop_of_length_le (by omega), decide_eq_decide]
    exact ⟨fun e => ⟨(fun _ hx => by cases hx), e⟩, fun e => e.2⟩
  | succ d ih =>
    intro n h
    refine Ev_succ ?_
    simp only [spec_IsSequence.l1, rd_L1, Int.toNat_natCast, rd_cast]
    rw [wsucc (n := n) (by omega), drop_cons (l.getD i []) n 0 (by omega)]
    refine Ev_pos (by omega) (Ev_pos (by omega) (Ev_pos (by omega) (Ev_pos (by omega) ?_)))
    refine Ev_ite (fun h1 => Ev_some ?_) (fun h1 => Ev_ite (fun h2 => Ev_some ?_) (fun h2 => Ev_eq (ih (n + 1) (by omega)) ?_))
    · symm; rw [decide_eq_false_iff_not, rowIn_cons]; intro e; have := e.1.1.1; omega
    · symm; rw [decide_eq_false_iff_not, rowIn_cons]; intro e; have := e.1.1.2; omega
    · rw [decide_eq_decide, rowIn_cons]
      exact ⟨fun e => ⟨⟨⟨by omega, by omega⟩, e.1⟩, e.2⟩, fun e => ⟨e.1.2, e.2⟩⟩
theorem spec_IsSequence_l0 (b : Int) (l : List (List Int)) (o : List Int) (hl : l.length ≤ 1048576) (hr : ∀ x ∈ l, x.length ≤ 1048576) (ho : o.length ≤ 1048576) (d : Nat) :
    ∀ i : Nat, i + d = l.length → Ev (fun k => spec_IsSequence.l0 k (i : Int) b l o) (decide (SeqRows l.length b (l.drop i) ∧ OutIn o ∧ (2 ≤ b ∧ b ≤ 4) ∧ (1 ≤ l.length ∧ l.length ≤ 16) ∧ o.length = l.length)) := by
  induction d with
  | zero =>
    intro i h
    refine Ev_succ ?_
    simp only [spec_IsSequence.l0]
    refine Ev_neg (by omega) (Ev_eq (spec_IsSequence_l2 b l o ho _ 0 (Nat.zero_add _)) ?_)
    rw [List.drop_of_length_le (show l.length ≤ i by omega), List.drop_zero, decide_eq_decide]
    exact ⟨fun e => ⟨(fun _ hx => by cases hx), e⟩, fun e => e.2⟩
  | succ d ih =>
    intro i h
    have hi : i < l.length := by omega
    refine Ev_succ ?_
    simp only [spec_IsSequence.l0, rd_L1, Int.toNat_natCast]
    rw [drop_cons l i [] hi]
    refine Ev_pos (by omega) (Ev_pos (by omega) (Ev_ite (fun h1 => ?_) (fun h1 => Ev_some ?_)))
    · refine Ev_eq (spec_IsSequence_l1 b l o hl hr i hi _ (ih (i + 1) (by omega)) _ 0 (Nat.zero_add _)) ?_
      rw [List.drop_zero, decide_eq_decide, seqRows_cons]
      exact ⟨fun e => ⟨⟨⟨h1, e.1⟩, e.2.1⟩, e.2.2⟩, fun e => ⟨e.1.1.2, e.1.2, e.2⟩⟩
    · symm; rw [decide_eq_false_iff_not, seqRows_cons]; intro e; exact h1 e.1.1.1
theorem spec_IsSequence_ev (b : Int) (l : List (List Int)) (o : List Int) (hl : l.length ≤ 1048576) (hr : ∀ x ∈ l, x.length ≤ 1048576) (ho : o.length ≤ 1048576) : Ev (fun k => spec_IsSequence.f k b l o) (okSeq b l o) := by
  unfold spec_IsSequence.f okSeq
  refine Ev_eq (spec_IsSequence_l0 b l o hl hr ho _ 0 (Nat.zero_add _)) ?_
  rw [List.drop_zero, decide_eq_decide]
  exact ⟨fun e => ⟨e.2.2.1, e.2.2.2.1, e.2.2.2.2, e.1, e.2.1⟩, fun e => ⟨e.2.2.2.1, e.2.2.2.2, e.1, e.2.1, e.2.2.1⟩⟩

/-! ### impl_IsSequence -/
theorem impl_IsSequence_l1 (b : Int) (l : List (List Int)) (o : List Int) (hl : l.length ≤ 16) (i : Nat) (row : List Int) (hrow : row.length ≤ 1048576) (hi : i < l.length) (R : Prop) [Decidable R] (hR : Ev (fun k => impl_IsSequence.l0 k (l.length : Int) l (l.length : Int) ((i + 1 : Nat) : Int) b l o) (decide R)) (d : Nat) :
    ∀ n : Nat, n + d = row.length → Ev (fun k => impl_IsSequence.l1 k (l.length : Int) l (l.length : Int) (i : Int) row (row.length : Int) (n : Int) b l o) (decide (RowIn l.length (row.drop n) ∧ R)) := by
  induction d with
  | zero =>
    intro n h
    refine Ev_succ ?_
    simp only [impl_IsSequence.l1]
    rw [wsucc (n := i) (by omega)]
    refine Ev_neg (by omega) (Ev_eq hR ?_)
    rw [List.drop_of_length_le (by omega), decide_eq_decide]
    exact ⟨fun e => ⟨(fun _ hx => by cases hx), e⟩, fun e => e.2⟩
  | succ d ih =>
    intro n h
    refine Ev_succ ?_
    simp only [impl_IsSequence.l1, rd_cast]
    rw [wsucc (n := n) (by omega), drop_cons row n 0 (by omega)]
    refine Ev_pos (by omega) (Ev_pos (by omega) (Ev_pos (by omega) ?_))
    refine Ev_ite (fun h1 => Ev_some ?_) (fun h1 => Ev_ite (fun h2 => Ev_some ?_) (fun h2 => Ev_eq (ih (n + 1) (by omega)) ?_))
    · symm; rw [decide_eq_false_iff_not, rowIn_cons]; intro e; have := e.1.1.1; omega
    · symm; rw [decide_eq_false_iff_not, rowIn_cons]; intro e; have := e.1.1.2; omega
    · rw [decide_eq_decide, rowIn_cons]
      exact ⟨fun e => ⟨⟨⟨by omega, by omega⟩, e.1⟩, e.2⟩, fun e => ⟨e.1.2, e.2⟩⟩
theorem impl_IsSequence_l0 (b : Int) (l : List (List Int)) (o : List Int) (hl : l.length ≤ 16) (hr : ∀ x ∈ l, x.length ≤ 1048576) (ho : o.length = l.length) (d : Nat) :
    ∀ i : Nat, i + d = l.length → Ev (fun k => impl_IsSequence.l0 k (l.length : Int) l (l.length : Int) (i : Int) b l o) (decide (SeqRows l.length b (l.drop i) ∧ OutIn (o.drop i))) := by
  induction d with
  | zero =>
    intro i h
    refine Ev_succ ?_
    simp only [impl_IsSequence.l0]
    refine Ev_neg (by omega) (Ev_some ?_)
    rw [List.drop_of_length_le (show l.length ≤ i by omega), List.drop_of_length_le (show o.length ≤ i by omega)]
    symm; rw [decide_eq_true_eq]
    exact ⟨(fun _ hx => by cases hx), (fun _ hx => by cases hx)⟩
  | succ d ih =>
    intro i h
    have hi : i < l.length := by omega
    have hrow := hr (l.getD i []) (by rw [getD_eq hi]; exact List.getElem_mem _)
    have no : ¬ (((l.getD i []).length : Int) = b ∧ 0 ≤ o.getD i 0 ∧ o.getD i 0 ≤ 3) → Ev (fun k => impl_IsSequence.j2 k (l.length : Int) (l.getD i []) l (l.length : Int) (i : Int) true b l o) (decide (SeqRows l.length b (l.drop i) ∧ OutIn (o.drop i))) := by
      intro h
      refine Ev_succ ?_
      simp only [impl_IsSequence.j2]
      refine Ev_pos (by simp) (Ev_some ?_)
      symm; rw [decide_eq_false_iff_not, drop_cons l i [] hi, drop_cons o i 0 (by omega), seqRows_cons, outIn_cons]
      intro e; exact h ⟨e.1.1.1, e.2.1⟩
    refine Ev_succ ?_
    simp only [impl_IsSequence.l0, rd_L1, Int.toNat_natCast, rd_cast]
    refine Ev_pos (by omega) (Ev_pos (by omega) (Ev_pos (by omega) (Ev_ite (fun h1 => Ev_pos (by omega) (Ev_ite (fun h2 => no (by omega)) (fun h2 => ?_))) (fun h1 => no (fun e => h1 e.1)))))
    by_cases c : o.getD i 0 > 3
    · simp only [c, decide_true]; exact no (by omega)
    · simp only [c, decide_false]
      refine Ev_succ ?_
      simp only [impl_IsSequence.j2]
      refine Ev_neg (by simp) (Ev_eq (impl_IsSequence_l1 b l o hl i (l.getD i []) hrow hi _ (ih (i + 1) (by omega)) _ 0 (Nat.zero_add _)) ?_)
      rw [List.drop_zero, decide_eq_decide, drop_cons l i [] hi, drop_cons o i 0 (by omega), seqRows_cons, outIn_cons]
      exact ⟨fun e => ⟨⟨⟨h1, e.1⟩, e.2.1⟩, ⟨by omega, by omega⟩, e.2.2⟩, fun e => ⟨e.1.1.2, e.1.2, e.2.2⟩⟩
theorem impl_IsSequence_ev (b : Int) (l : List (List Int)) (o : List Int) (hl : l.length ≤ 1048576) (hr : ∀ x ∈ l, x.length ≤ 1048576) (ho : o.length ≤ 1048576) : Ev (fun k => impl_IsSequence.f k b l o) (okSeq b l o) := by
  have no : ¬ ((2 ≤ b ∧ b ≤ 4) ∧ (1 ≤ l.length ∧ l.length ≤ 16) ∧ o.length = l.length) → Ev (fun k => impl_IsSequence.j0 k (l.length : Int) true b l o) (okSeq b l o) := by
    intro h
    refine Ev_succ ?_
    simp only [impl_IsSequence.j0]
    refine Ev_pos (by simp) (Ev_some ?_)
    unfold okSeq
    symm; rw [decide_eq_false_iff_not]
    intro e; exact h ⟨e.1, e.2.1, e.2.2.1⟩
  have sb : impl_isBase.f b = some (decide (2 ≤ b ∧ b ≤ 4)) := by
    unfold impl_isBase.f
    by_cases c : b ≥ 2
    · rw [if_pos c]; congr 1; rw [decide_eq_decide]; omega
    · rw [if_neg c]; congr 1; symm; rw [decide_eq_false_iff_not]; omega
  unfold impl_IsSequence.f
  refine Ev_call _ (Ev_const sb) (Ev_ite (fun h1 => Ev_ite (fun h => no (by omega)) (fun h3 => Ev_ite (fun h => no (by omega)) (fun h4 => ?_))) (fun h => no (fun e => h (by simpa using e.1))))
  rw [decide_eq_true_eq] at h1
  by_cases c : o.length = l.length
  · refine Ev_succ ?_
    simp only [impl_IsSequence.j0]
    refine Ev_neg (by simp [c]) (Ev_eq (impl_IsSequence_l0 b l o (by omega) hr c _ 0 (Nat.zero_add _)) ?_)
    unfold okSeq
    rw [List.drop_zero, List.drop_zero, decide_eq_decide]
    exact ⟨fun e => ⟨h1, ⟨by omega, by omega⟩, c, e⟩, fun e => e.2.2.2⟩
  · rw [show (((o.length : Int)) != (l.length : Int)) = true by rw [bne_iff_ne]; omega]
    exact no (fun e => c e.2.2)

/-! ### spec_IsWord -/
theorem spec_IsWord_loop (w : List Int) (n : Nat) (hw : w.length ≤ 1048576) (hn : n ≤ 1048576) (d : Nat) : ∀ i : Nat, i + d = w.length →
    Ev (fun k => spec_IsWord.l0 k w (n : Int) (i : Int)) (decide (RowIn n (w.drop i) ∧ (1 ≤ n ∧ n ≤ 16) ∧ w.length ≤ 400)) := by
  induction d with
  | zero =>
    intro i h
    refine Ev_succ ?_
    simp only [spec_IsWord.l0]
    have e : w.drop i = [] := List.drop_of_length_le (by omega)
    rw [e]
    refine Ev_neg (by omega) ?_
    by_cases c : 1 ≤ n ∧ n ≤ 16
    · refine Ev_call true (Ev_const ?_) (Ev_pos rfl (Ev_some ?_))
      · unfold spec_l1In.f; rw [if_pos (by omega)]; congr 1; simp; omega
      · rw [decide_eq_decide]; constructor
        · exact fun h => ⟨by simp [RowIn], c, by omega⟩
        · exact fun h => by have := h.2.2; omega
    · refine Ev_call false (Ev_const ?_) (Ev_neg (by simp) (Ev_some ?_))
      · unfold spec_l1In.f
        by_cases c1 : (n : Int) ≥ 1
        · rw [if_pos c1]; congr 1; simp; omega
        · rw [if_neg c1]
      · symm; rw [decide_eq_false_iff_not]; exact fun h => c h.2.1
  | succ d ih =>
    intro i h
    refine Ev_succ ?_
    simp only [spec_IsWord.l0, rd_cast]
    rw [wsucc (n := i) (by omega), drop_cons w i 0 (by omega)]
    refine Ev_pos (by omega) (Ev_pos (by omega) ?_)
    refine Ev_ite (fun h1 => Ev_some ?_) (fun h1 => Ev_ite (fun h2 => Ev_some ?_) (fun h2 => Ev_eq (ih (i + 1) (by omega)) ?_))
    · symm; rw [decide_eq_false_iff_not]; intro e; have := e.1 _ List.mem_cons_self; omega
    · symm; rw [decide_eq_false_iff_not]; intro e; have := e.1 _ List.mem_cons_self; omega
    · rw [decide_eq_decide]
      constructor
      · rintro ⟨e, e2⟩
        refine ⟨fun v hv => ?_, e2⟩
        rcases List.mem_cons.1 hv with rfl | hv
        · exact ⟨by omega, by omega⟩
        · exact e v hv
      · exact fun ⟨e, e2⟩ => ⟨fun v hv => e v (List.mem_cons_of_mem _ hv), e2⟩

theorem spec_IsWord_ev (w : List Int) (n : Nat) (hw : w.length ≤ 1048576) (hn : n ≤ 1048576) : Ev (fun k => spec_IsWord.f k w (n : Int)) (okWord w n) := by
  unfold spec_IsWord.f okWord
  have := spec_IsWord_loop w n hw hn w.length 0 (by omega)
  rwa [List.drop_zero] at this

/-! ### spec_IsMorphism -/
theorem spec_IsMorphism_loop (l : List (List Int)) (hl : l.length ≤ 1048576) (hr : ∀ r ∈ l, r.length ≤ 1048576) (d : Nat) : ∀ i : Nat, i + d = l.length →
    Ev (fun k => spec_IsMorphism.l0 k (i : Int) l) (decide ((1 ≤ l.length ∧ l.length ≤ 16) ∧ ∀ r ∈ l.drop i, r.length ≤ 8 ∧ RowIn l.length r)) := by
  induction d with
  | zero =>
    intro i h
    refine Ev_succ ?_
    simp only [spec_IsMorphism.l0]
    have e : l.drop i = [] := List.drop_of_length_le (by omega)
    rw [e]
    refine Ev_neg (by omega) (Ev_call _ (Ev_const (r := decide (1 ≤ l.length ∧ l.length ≤ 16)) ?_) (Ev_some (by simp)))
    unfold spec_l1In.f
    by_cases c1 : (l.length : Int) ≥ 1
    · rw [if_pos c1]; congr 1; rw [decide_eq_decide]; omega
    · rw [if_neg c1]; congr 1; symm; rw [decide_eq_false_iff_not]; omega
  | succ d ih =>
    intro i h
    have hrow := hr (l.getD i []) (by rw [getD_eq (by omega)]; exact List.getElem_mem _)
    have hw := spec_IsWord_ev (l.getD i []) l.length hrow hl
    refine Ev_succ ?_
    simp only [spec_IsMorphism.l0, rd_L1, Int.toNat_natCast]
    rw [wsucc (n := i) (by omega), drop_cons l i [] (by omega)]
    refine Ev_pos (by omega) (Ev_pos (by omega) (Ev_call _ hw ?_))
    unfold okWord
    refine Ev_ite (fun h1 => Ev_ite (fun h2 => Ev_some ?_) (fun h2 => Ev_eq (ih (i + 1) (by omega)) ?_)) (fun h1 => Ev_some ?_)
    · symm; rw [decide_eq_false_iff_not]; intro e; have := (e.2 _ List.mem_cons_self).1; omega
    · rw [decide_eq_true_eq] at h1
      rw [decide_eq_decide]
      constructor
      · rintro ⟨e, e2⟩
        refine ⟨e, fun r hr => ?_⟩
        rcases List.mem_cons.1 hr with rfl | hr
        · exact ⟨by omega, h1.1⟩
        · exact e2 r hr
      · exact fun ⟨e, e2⟩ => ⟨e, fun r hr => e2 r (List.mem_cons_of_mem _ hr)⟩
    · rw [decide_eq_true_eq] at h1
      symm; rw [decide_eq_false_iff_not]
      intro e
      have := e.2 _ List.mem_cons_self
      exact h1 ⟨this.2, e.1, by omega⟩

theorem spec_IsMorphism_ev (l : List (List Int)) (hl : l.length ≤ 1048576) (hr : ∀ r ∈ l, r.length ≤ 1048576) : Ev (fun k => spec_IsMorphism.f k l) (okMor l) := by
  unfold spec_IsMorphism.f okMor
  have := spec_IsMorphism_loop l hl hr l.length 0 (by omega)
  rwa [List.drop_zero] at this

/-! ### impl_areLetters -/
theorem impl_areLetters_loop (w : List Int) (n : Nat) (hw : w.length ≤ 1048576) (d : Nat) : ∀ i : Nat, i + d = w.length →
    Ev (fun k => impl_areLetters.l0 k (n : Int) w (w.length : Int) (i : Int)) (decide (RowIn n (w.drop i))) := by
  induction d with
  | zero =>
    intro i h
    refine Ev_succ ?_
    simp only [impl_areLetters.l0]
    have e : w.drop i = [] := List.drop_of_length_le (by omega)
    rw [e]
    exact Ev_neg (by omega) (Ev_some (by simp [RowIn]))
  | succ d ih =>
    intro i h
    refine Ev_succ ?_
    simp only [impl_areLetters.l0, rd_cast]
    rw [wsucc (n := i) (by omega), drop_cons w i 0 (by omega)]
    refine Ev_pos (by omega) (Ev_pos (by omega) (Ev_pos (by omega) ?_))
    refine Ev_ite (fun h1 => Ev_some ?_) (fun h1 => Ev_ite (fun h2 => Ev_some ?_) (fun h2 => Ev_eq (ih (i + 1) (by omega)) ?_))
    · symm; rw [decide_eq_false_iff_not]; intro e; have := e _ List.mem_cons_self; omega
    · symm; rw [decide_eq_false_iff_not]; intro e; have := e _ List.mem_cons_self; omega
    · rw [decide_eq_decide]
      constructor
      · intro e v hv
        rcases List.mem_cons.1 hv with rfl | hv
        · exact ⟨by omega, by omega⟩
        · exact e v hv
      · exact fun e v hv => e v (List.mem_cons_of_mem _ hv)

theorem impl_areLetters_ev (w : List Int) (n : Nat) (hw : w.length ≤ 1048576) : Ev (fun k => impl_areLetters.f k w (n : Int)) (decide (RowIn n w)) := by
  unfold impl_areLetters.f
  have := impl_areLetters_loop w n hw w.length 0 (by omega)
  rwa [List.drop_zero] at this

/-! ### impl_IsMorphism -/
theorem impl_IsMorphism_loop (l : List (List Int)) (hl : l.length ≤ 1048576) (hr : ∀ r ∈ l, r.length ≤ 1048576) (d : Nat) : ∀ i : Nat, i + d = l.length →
    Ev (fun k => impl_IsMorphism.l0 k (l.length : Int) l (l.length : Int) (i : Int)) (decide (∀ r ∈ l.drop i, r.length ≤ 8 ∧ RowIn l.length r)) := by
  induction d with
  | zero =>
    intro i h
    refine Ev_succ ?_
    simp only [impl_IsMorphism.l0]
    have e : l.drop i = [] := List.drop_of_length_le (by omega)
    rw [e]
    exact Ev_neg (by omega) (Ev_some (by simp))
  | succ d ih =>
    intro i h
    have hrow := hr (l.getD i []) (by rw [getD_eq (by omega)]; exact List.getElem_mem _)
    have hw := impl_areLetters_ev (l.getD i []) l.length hrow
    refine Ev_succ ?_
    simp only [impl_IsMorphism.l0, rd_L1, Int.toNat_natCast]
    rw [wsucc (n := i) (by omega), drop_cons l i [] (by omega)]
    refine Ev_pos (by omega) (Ev_pos (by omega) (Ev_pos (by omega) ?_))
    refine Ev_ite (fun h1 => Ev_some ?_) (fun h1 => Ev_call _ hw (Ev_ite (fun h2 => Ev_eq (ih (i + 1) (by omega)) ?_) (fun h2 => Ev_some ?_)))
    · symm; rw [decide_eq_false_iff_not]; intro e; have := (e _ List.mem_cons_self).1; omega
    · rw [decide_eq_true_eq] at h2
      rw [decide_eq_decide]
      constructor
      · intro e2 r hr
        rcases List.mem_cons.1 hr with rfl | hr
        · exact ⟨by omega, h2⟩
        · exact e2 r hr
      · exact fun e2 r hr => e2 r (List.mem_cons_of_mem _ hr)
    · rw [decide_eq_true_eq] at h2
      symm; rw [decide_eq_false_iff_not]
      intro e
      exact h2 (e _ List.mem_cons_self).2

theorem impl_IsMorphism_ev (l : List (List Int)) (hl : l.length ≤ 1048576) (hr : ∀ r ∈ l, r.length ≤ 1048576) : Ev (fun k => impl_IsMorphism.f k l) (okMor l) := by
  have no : ¬ (1 ≤ l.length ∧ l.length ≤ 16) → okMor l = false := fun h => by unfold okMor; rw [decide_eq_false_iff_not]; exact fun e => h e.1
  unfold impl_IsMorphism.f
  refine Ev_ite (fun h => ?_) (fun h => ?_)
  · refine Ev_succ ?_
    simp only [impl_IsMorphism.j0]
    exact Ev_pos (by simp) (Ev_some (no (by omega)).symm)
  · refine Ev_succ ?_
    simp only [impl_IsMorphism.j0]
    by_cases c : l.length ≤ 16
    · refine Ev_neg (by simp; omega) ?_
      have := impl_IsMorphism_loop l hl hr l.length 0 (by omega)
      rw [List.drop_zero] at this
      refine Ev_eq this ?_
      unfold okMor
      rw [decide_eq_decide]
      exact ⟨fun e => ⟨by omega, e⟩, fun e => e.2⟩
    · exact Ev_pos (by simp; omega) (Ev_some (no (by omega)).symm)

/-! ### spec_IsUniform -/
abbrev Uni (a : Int) (l : List (List Int)) : Prop := ∀ r ∈ l, (r.length : Int) = a
theorem uni_cons {a : Int} {r : List Int} {l : List (List Int)} : Uni a (r :: l) ↔ (r.length : Int) = a ∧ Uni a l := List.forall_mem_cons
theorem spec_IsUniform_ev (l : List (List Int)) (a : Int) (hl : l.length ≤ 1048576) (hr : ∀ r ∈ l, r.length ≤ 1048576) (hm : okMor l = true) : Ev (fun k => spec_IsUniform.f k l a) (decide (Uni a l)) := by
  have loop : ∀ d i : Nat, i + d = l.length → Ev (fun k => spec_IsUniform.l0 k a (i : Int) l) (decide (Uni a (l.drop i))) := by
    intro d
    induction d with
    | zero =>
      intro i h
      refine Ev_succ ?_
      simp only [spec_IsUniform.l0]
      refine Ev_neg (by omega) (Ev_call _ (spec_IsMorphism_ev l hl hr) (Ev_some ?_))
      rw [hm, List.drop_of_length_le (by omega)]
      symm; rw [decide_eq_true_eq]; exact fun _ hx => by cases hx
    | succ d ih =>
      intro i h
      refine Ev_succ ?_
      simp only [spec_IsUniform.l0, rd_L1, Int.toNat_natCast]
      rw [wsucc (n := i) (by omega), drop_cons l i [] (by omega)]
      refine Ev_pos (by omega) (Ev_pos (by omega) (Ev_ite (fun h1 => Ev_eq (ih (i + 1) (by omega)) ?_) (fun h1 => Ev_some ?_)))
      · rw [decide_eq_decide, uni_cons]; exact ⟨fun e => ⟨h1, e⟩, fun e => e.2⟩
      · symm; rw [decide_eq_false_iff_not, uni_cons]; exact fun e => h1 e.1
  unfold spec_IsUniform.f
  have := loop l.length 0 (Nat.zero_add _)
  rwa [List.drop_zero] at this
theorem impl_IsUniform_ev (l : List (List Int)) (a : Int) (hl : l.length ≤ 1048576) (hr : ∀ r ∈ l, r.length ≤ 1048576) (hm : okMor l = true) : Ev (fun k => impl_IsUniform.f k l a) (decide (Uni a l)) := by
  have loop : ∀ d i : Nat, i + d = l.length → Ev (fun k => impl_IsUniform.l0 k a l (l.length : Int) (i : Int)) (decide (Uni a (l.drop i))) := by
    intro d
    induction d with
    | zero =>
      intro i h
      refine Ev_succ ?_
      simp only [impl_IsUniform.l0]
      refine Ev_neg (by omega) (Ev_some ?_)
      rw [List.drop_of_length_le (by omega)]
      symm; rw [decide_eq_true_eq]; exact fun _ hx => by cases hx
    | succ d ih =>
      intro i h
      refine Ev_succ ?_
      simp only [impl_IsUniform.l0, rd_L1, Int.toNat_natCast]
      rw [wsucc (n := i) (by omega), drop_cons l i [] (by omega)]
      refine Ev_pos (by omega) (Ev_pos (by omega) (Ev_pos (by omega) (Ev_ite (fun h1 => Ev_eq (ih (i + 1) (by omega)) ?_) (fun h1 => Ev_some ?_))))
      · rw [decide_eq_decide, uni_cons]; exact ⟨fun e => ⟨h1, e⟩, fun e => e.2⟩
      · symm; rw [decide_eq_false_iff_not, uni_cons]; exact fun e => h1 e.1
  unfold impl_IsUniform.f
  have := loop l.length 0 (Nat.zero_add _)
  rw [List.drop_zero] at this
  exact Ev_call _ (impl_IsMorphism_ev l hl hr) (Ev_pos hm this)

/-! ### impl_Sequence_own -/
theorem slices_Clone_eq (l : List Int) (hl : l.length ≤ 1048576) : slices_Clone_int_int.f l = some l := by
  unfold slices_Clone_int_int.f
  simp only [Option.bind_some, List.nil_append, List.length_nil]
  rw [if_pos (by omega)]
theorem impl_own_loop (b : Int) (l : List (List Int)) (o : List Int) (hl : l.length ≤ 1048576) (hr : ∀ x ∈ l, x.length ≤ 1048576) (d : Nat) : ∀ i : Nat, i + d = l.length → Ev (fun k => impl_Sequence_own.l0 k l (l.length : Int) (i : Int) b (l.take i) o) (b, l, o) := by
  induction d with
  | zero =>
    intro i h
    refine Ev_succ ?_
    simp only [impl_Sequence_own.l0]
    exact Ev_neg (by omega) (Ev_some (by rw [List.take_of_length_le (by omega)]))
  | succ d ih =>
    intro i h
    have hi : i < l.length := by omega
    have hrow := hr (l.getD i []) (by rw [getD_eq hi]; exact List.getElem_mem _)
    refine Ev_succ ?_
    simp only [impl_Sequence_own.l0, rd_L1, Int.toNat_natCast]
    rw [wsucc (n := i) (by omega), slices_Clone_eq _ hrow]
    have e : l.take i ++ [l.getD i []] = l.take (i + 1) := by rw [List.take_succ_eq_append_getElem hi, getD_eq hi]
    simp only [Option.bind_some]
    rw [e]
    exact Ev_pos (by omega) (Ev_pos (by omega) (Ev_pos (by omega) (Ev_pos (by rw [List.length_take]; omega) (ih (i + 1) (by omega)))))
theorem impl_own_ev (b : Int) (l : List (List Int)) (o : List Int) (hl : l.length ≤ 1048576) (hr : ∀ x ∈ l, x.length ≤ 1048576) (ho : o.length ≤ 1048576) : Ev (fun k => impl_Sequence_own.f k b l o) (b, l, o) := by
  unfold impl_Sequence_own.f
  exact Ev_call _ (Ev_const (slices_Clone_eq o ho)) (impl_own_loop b l o hl hr _ 0 (Nat.zero_add _))

def seqOf (l : List (List Int)) (c : List Int) : Int × List (List Int) × List Int × Bool :=
  if okMor l = true ∧ Uni ((l.getD 0 []).length : Int) l ∧ ((l.getD 0 []).length : Int) ≠ 0 ∧ (l.getD 0 []).getD 0 0 = 0 ∧ okSeq ((l.getD 0 []).length : Int) l c = true then (((l.getD 0 []).length : Int), l, c, true) else (0, [], [], false)
theorem spec_SequenceOf_loop (b : Int) (l : List (List Int)) (c : List Int) (hl : l.length ≤ 16) (hr : ∀ x ∈ l, x.length ≤ 1048576) (hc : c.length ≤ 1048576) (d : Nat) : ∀ i : Nat, i + d = l.length →
    Ev (fun k => spec_SequenceOf.l0 k (i : Int) l b (l.take i) c) (if okSeq b l c = true then (b, l, c, true) else (0, [], [], false)) := by
  induction d with
  | zero =>
    intro i h
    refine Ev_succ ?_
    simp only [spec_SequenceOf.l0]
    rw [List.take_of_length_le (by omega)]
    refine Ev_neg (by omega) (Ev_call _ (spec_IsSequence_ev b l c (by omega) hr hc) (Ev_ite (fun h => Ev_some ?_) (fun h => Ev_some ?_)))
    · rw [if_pos h]
    · rw [if_neg h]
  | succ d ih =>
    intro i h
    have hi : i < l.length := by omega
    have hrow := hr (l.getD i []) (by rw [getD_eq hi]; exact List.getElem_mem _)
    refine Ev_succ ?_
    simp only [spec_SequenceOf.l0, rd_L1, Int.toNat_natCast, Option.bind_some, List.nil_append, List.length_nil]
    rw [wsucc (n := i) (by omega)]
    have e : l.take i ++ [l.getD i []] = l.take (i + 1) := by rw [List.take_succ_eq_append_getElem hi, getD_eq hi]
    rw [e]
    exact Ev_pos (by omega) (Ev_pos (by omega) (Ev_pos (by omega) (Ev_pos (by rw [List.length_take]; omega) (ih (i + 1) (by omega)))))
theorem spec_SequenceOf_ev (l : List (List Int)) (c : List Int) (hl : l.length ≤ 1048576) (hr : ∀ x ∈ l, x.length ≤ 1048576) (hc : c.length ≤ 1048576) : Ev (fun k => spec_SequenceOf.f k l c) (seqOf l c) := by
  have no : ¬ (okMor l = true ∧ Uni ((l.getD 0 []).length : Int) l ∧ ((l.getD 0 []).length : Int) ≠ 0 ∧ (l.getD 0 []).getD 0 0 = 0 ∧ okSeq ((l.getD 0 []).length : Int) l c = true) → Ev (fun k => spec_SequenceOf.j0 k c true l) (seqOf l c) := by
    intro h
    refine Ev_succ ?_
    simp only [spec_SequenceOf.j0]
    refine Ev_pos (by simp) (Ev_some ?_)
    unfold seqOf
    rw [if_neg h]
  have e0 : rd_L1 l 0 = l.getD 0 [] := rfl
  have e1 : rd (l.getD 0 []) 0 = (l.getD 0 []).getD 0 0 := rfl
  unfold spec_SequenceOf.f
  refine Ev_call _ (spec_IsMorphism_ev l hl hr) (Ev_ite (fun h1 => ?_) (fun h => no (fun e => h e.1)))
  have hm : (1 ≤ l.length ∧ l.length ≤ 16) := by have := h1; unfold okMor at this; exact (of_decide_eq_true this).1
  rw [e0, e1]
  refine Ev_pos (by omega) (Ev_call _ (spec_IsUniform_ev l _ hl hr h1) (Ev_ite (fun h2 => ?_) (fun h => no (fun e => h (by rw [decide_eq_true_eq]; exact e.2.1)))))
  rw [decide_eq_true_eq] at h2
  refine Ev_ite (fun h3 => no (fun e => e.2.2.1 h3)) (fun h3 => Ev_pos (by omega) (Ev_ite (fun h4 => ?_) (fun h => no (fun e => h e.2.2.2.1))))
  by_cases c1 : c.length = l.length
  · refine Ev_succ ?_
    simp only [spec_SequenceOf.j0, Option.bind_some, List.nil_append, List.length_nil, e0]
    refine Ev_neg (by simp [c1]) (Ev_pos (by omega) (Ev_pos (by omega) ?_))
    refine Ev_eq (spec_SequenceOf_loop _ l c (by omega) hr hc _ 0 (Nat.zero_add _)) ?_
    unfold seqOf
    by_cases h5 : okSeq ((l.getD 0 []).length : Int) l c = true
    · rw [if_pos h5, if_pos ⟨h1, h2, h3, h4, h5⟩]
    · rw [if_neg h5, if_neg (fun e => h5 e.2.2.2.2)]
  · rw [show (((c.length : Int)) != (l.length : Int)) = true by rw [bne_iff_ne]; omega]
    exact no (fun e => c1 (okSeq_iff.1 e.2.2.2.2).2.2.1)
theorem impl_SequenceOf_ev (l : List (List Int)) (c : List Int) (hl : l.length ≤ 1048576) (hr : ∀ x ∈ l, x.length ≤ 1048576) (hc : c.length ≤ 1048576) : Ev (fun k => impl_SequenceOf.f k l c) (seqOf l c) := by
  have no : ¬ (okMor l = true ∧ Uni ((l.getD 0 []).length : Int) l ∧ ((l.getD 0 []).length : Int) ≠ 0 ∧ (l.getD 0 []).getD 0 0 = 0 ∧ okSeq ((l.getD 0 []).length : Int) l c = true) → Ev (fun k => impl_SequenceOf.j0 k c true l) (seqOf l c) := by
    intro h
    refine Ev_succ ?_
    simp only [impl_SequenceOf.j0]
    refine Ev_pos (by simp) (Ev_some ?_)
    unfold seqOf
    rw [if_neg h]
  have e0 : rd_L1 l 0 = l.getD 0 [] := rfl
  have e1 : rd (l.getD 0 []) 0 = (l.getD 0 []).getD 0 0 := rfl
  unfold impl_SequenceOf.f
  refine Ev_call _ (impl_IsMorphism_ev l hl hr) (Ev_ite (fun h1 => ?_) (fun h => no (fun e => h e.1)))
  have hm : (1 ≤ l.length ∧ l.length ≤ 16) := by have := h1; unfold okMor at this; exact (of_decide_eq_true this).1
  rw [e0, e1]
  refine Ev_pos (by omega) (Ev_call _ (impl_IsUniform_ev l _ hl hr h1) (Ev_ite (fun h2 => ?_) (fun h => no (fun e => h (by rw [decide_eq_true_eq]; exact e.2.1)))))
  rw [decide_eq_true_eq] at h2
  refine Ev_ite (fun h3 => no (fun e => e.2.2.1 h3)) (fun h3 => Ev_pos (by omega) ?_)
  by_cases h4 : (l.getD 0 []).getD 0 0 = 0
  · rw [show ((l.getD 0 []).getD 0 0 != 0) = false by rw [h4]; rfl]
    refine Ev_succ ?_
    simp only [impl_SequenceOf.j0, e0]
    refine Ev_neg (by simp) (Ev_pos (by omega) (Ev_call _ (impl_IsSequence_ev _ l c hl hr hc) ?_))
    unfold seqOf
    by_cases h5 : okSeq ((l.getD 0 []).length : Int) l c = true
    · rw [if_pos ⟨h1, h2, h3, h4, h5⟩]
      exact Ev_pos h5 (Ev_call _ (impl_own_ev _ l c hl hr hc) (Ev.now _))
    · rw [if_neg (fun e => h5 e.2.2.2.2)]
      exact Ev_neg h5 (Ev.now _)
  · rw [show ((l.getD 0 []).getD 0 0 != 0) = true by rw [bne_iff_ne]; exact h4]
    exact no (fun e => h4 e.2.2.2.1)
theorem seqOf_rows (l : List (List Int)) (c : List Int) (hl : l.length ≤ 1048576) (hr : ∀ x ∈ l, x.length ≤ 1048576) (hc : c.length ≤ 1048576) : (seqOf l c).2.1.length ≤ 1048576 ∧ (∀ x ∈ (seqOf l c).2.1, x.length ≤ 1048576) ∧ (seqOf l c).2.2.1.length ≤ 1048576 := by
  unfold seqOf
  split
  · exact ⟨hl, hr, hc⟩
  · exact ⟨by simp, by simp, by simp⟩
theorem FnExactSequenceOf_all (l1 : List (List Int)) (l2 : List Int) (hm1 : l1.length ≤ 1048576) (hr1 : ∀ r ∈ l1, r.length ≤ 1048576) (hm2 : l2.length ≤ 1048576) :
    ∃ (K : Nat) (rb : Int) (R1 R1' : List (List Int)) (R2 R2' : List Int) (b : Bool) (p1 p2 mh mg : Int) (x1 : List (List Int)) (x2 : List Int), ∀ k, K ≤ k → (0 ≤ p2 ∧ 0 ≤ mg ∧ laws_toMorphism.f k l1 = some l1 ∧ laws_toIntS.f k l2 = some l2 ∧ spec_SequenceOf.f k l1 l2 = some (rb, R1, R2, b) ∧ impl_SequenceOf.f k l1 l2 = some (rb, R1, R2, b) ∧ laws_eqSequence.f k rb R1 R2 rb R1 R2 = some true ∧ laws_eqMorphism.f k l1 l1 = some true ∧ laws_eqIntS.f k l2 l2 = some true ∧ laws_markMorphism.f k l1 1 = some (p1, x1) ∧ laws_markIntS.f k l2 p1 = some (p2, x2) ∧ laws_markIntSS.f k R1 1 = some (mh, R1') ∧ laws_markIntS.f k R2 mh = some (mg, R2') ∧ laws_heldSequence.f k rb R1' R2' 1 = some mg) := by
  have ht := total_small hm1 hr1
  have hR := seqOf_rows l1 l2 hm1 hr1 hm2
  have hs := total_small hR.1 hR.2.1
  have h1 := spec_SequenceOf_ev l1 l2 hm1 hr1 hm2
  have h2 := impl_SequenceOf_ev l1 l2 hm1 hr1 hm2
  generalize seqOf l1 l2 = x at h1 h2 hR hs
  obtain ⟨rb, R1, R2, b⟩ := x
  simp only at hR hs
  obtain ⟨hR1, hR2, hR3⟩ := hR
  have e3 : Ev (fun k => laws_heldSequence.f k rb (marks 1 R1) (iota (1 + total R1) R2.length) 1) (1 + total R1 + R2.length) := by
    unfold laws_heldSequence.f
    exact Ev_call _ (laws_heldIntSS_ev R1 1 (by omega) (by omega) (by omega)) (Ev_neg (by omega) (Ev_call _ (laws_heldIntS_ev R2.length _ (by omega) (by omega) (by omega)) (Ev_neg (by omega) (Ev.now _))))
  have e4 : Ev (fun k => laws_eqIntS.f k l2 l2) true := Ev_eq (laws_eqIntS_ev l2 l2 (by omega)) (by simp)
  obtain ⟨K1, k1⟩ := laws_toMorphism_ev l1 hm1 hr1
  obtain ⟨K2, k2⟩ := laws_toIntS_ev l2 (by omega)
  obtain ⟨K3, k3⟩ := h1
  obtain ⟨K4, k4⟩ := h2
  obtain ⟨K5, k5⟩ := laws_eqSequence_refl rb R1 R2 hR1 hR2 hR3
  obtain ⟨K6, k6⟩ := laws_eqMorphism_refl l1 hm1 hr1
  obtain ⟨K7, k7⟩ := e4
  obtain ⟨K8, k8⟩ := laws_markMorphism_ev l1 1 (by omega) (by omega) (by omega)
  obtain ⟨K9, k9⟩ := laws_markIntS_ev l2 (1 + total l1) (by omega) (by omega) (by omega)
  obtain ⟨K10, k10⟩ := laws_markIntSS_ev R1 1 (by omega) (by omega) (by omega)
  obtain ⟨K11, k11⟩ := laws_markIntS_ev R2 (1 + total R1) (by omega) (by omega) (by omega)
  obtain ⟨K12, k12⟩ := e3
  exact ⟨K1 + K2 + K3 + K4 + K5 + K6 + K7 + K8 + K9 + K10 + K11 + K12, rb, R1, marks 1 R1, R2, iota (1 + total R1) R2.length, b, _, _, 1 + total R1, 1 + total R1 + R2.length, _, _, fun k hk => ⟨by omega, by omega, k1 k (by omega), k2 k (by omega), k3 k (by omega), k4 k (by omega), k5 k (by omega), k6 k (by omega), k7 k (by omega), k8 k (by omega), k9 k (by omega), k10 k (by omega), k11 k (by omega), k12 k (by omega)⟩⟩

end Go.Proofs.Ytolikggioekalaa.Pure
