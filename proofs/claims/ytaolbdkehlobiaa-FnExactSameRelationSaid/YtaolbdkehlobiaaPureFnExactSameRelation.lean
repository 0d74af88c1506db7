/- The pure statement of FnExactSameRelation: at every two relations the law's answer is true. -/
import Derived.Test.YtaolbdkehlobiaaMFnExactSameRelationx5
import Derived.Test.YtaolbdkehlobiaaG0
import Derived.Test.YtaolbdkehlobiaaGSized
import Derived.Test.YtaolbdkehlobiaaGArgs
namespace Go.Proofs.Ytaolbdkehlobiaa.Pure
open Go.RowKit Go.Proofs.Ytaolbdkehlobiaa.PFnExactSameRelation Go.Proofs.YtaolbdkehlobiaaW.PrintWords Go.Proofs.YtaolbdkehlobiaaW.PrintLast Go.Proofs.YtaolbdkehlobiaaW.PrintMore Go.Proofs.Ytaolbdkehlobiaa.G
set_option linter.unusedVariables false
set_option linter.unusedSimpArgs false

/-! ### laws_szIntSS -/
theorem laws_szIntS_eq (l : List Int) (a : Int) (h : 0 ≤ a) (h2 : a ≤ 1048576) (hl : l.length ≤ maxLen) :
    laws_szIntS.f l a = some (if a < l.length then -1 else a - l.length) := by
  unfold maxLen at hl
  unfold laws_szIntS.f
  rw [w64 (n := a - (l.length : Int)) (by omega) (by omega)]
  by_cases c : a < l.length
  · rw [if_pos (by omega), if_pos c]
  · rw [if_neg (by omega), if_neg c]

theorem laws_szIntSS_loop (l : List (List Int)) (hm : l.length ≤ 1048576) (hr : ∀ r ∈ l, r.length ≤ maxLen) (d : Nat) : ∀ (n : Nat) (a : Int), n + d = l.length → 0 ≤ a → a ≤ 1048576 →
    ∃ r : Int, Ev (fun k => laws_szIntSS.l0 k l a (n : Int)) r ∧ r ≤ 1048576 ∧ (r < 0 ∨ ∀ i, n ≤ i → i < l.length → (l.getD i []).length ≤ 1048576) := by
  induction d with
  | zero =>
    intro n a h h0 h1
    refine ⟨a, Ev_succ ?_, h1, Or.inr (fun i h2 h3 => by omega)⟩
    simp only [laws_szIntSS.l0]
    exact Ev_neg (by omega) (Ev.now _)
  | succ d ih =>
    intro n a h h0 h1
    have hrow := hr (l.getD n []) (by rw [getD_eq (by omega)]; exact List.getElem_mem _)
    have es := laws_szIntS_eq (l.getD n []) a h0 h1 hrow
    by_cases c : a < (l.getD n []).length
    · refine ⟨-1, Ev_succ ?_, by omega, Or.inl (by omega)⟩
      simp only [laws_szIntSS.l0, rd_L1, Int.toNat_natCast, es, Option.bind_some, if_pos c]
      exact Ev_pos (by omega) (Ev_pos (by omega) (Ev_pos (by omega) (Ev.now _)))
    · obtain ⟨r, g1, g2, g3⟩ := ih (n + 1) (a - (l.getD n []).length) (by omega) (by omega) (by omega)
      refine ⟨r, Ev_succ ?_, g2, ?_⟩
      · simp only [laws_szIntSS.l0, rd_L1, Int.toNat_natCast, es, Option.bind_some, if_neg c]
        rw [wsucc (n := n) (by omega)]
        exact Ev_pos (by omega) (Ev_pos (by omega) (Ev_neg (by omega) g1))
      · rcases g3 with g3 | g3
        · exact Or.inl g3
        · refine Or.inr (fun i h2 h3 => ?_)
          by_cases e : i = n
          · subst e; omega
          · exact g3 i (by omega) h3

theorem laws_szIntSS_ev (l : List (List Int)) (a : Int) (h0 : 0 ≤ a) (h1 : a ≤ 1048576) (hm : l.length ≤ maxLen) (hr : ∀ r ∈ l, r.length ≤ maxLen) :
    ∃ r : Int, Ev (fun k => laws_szIntSS.f k l a) r ∧ r ≤ 1048576 ∧ (r < 0 ∨ (l.length ≤ 1048576 ∧ ∀ x ∈ l, x.length ≤ 1048576)) := by
  have hm' := hm
  unfold maxLen at hm
  unfold laws_szIntSS.f
  rw [w64 (n := a - (l.length : Int)) (by omega) (by omega)]
  by_cases c : a - (l.length : Int) < 0
  · exact ⟨-1, Ev_pos c (Ev.now _), by omega, Or.inl (by omega)⟩
  · obtain ⟨r, g1, g2, g3⟩ := laws_szIntSS_loop l (by omega) hr _ 0 (a - l.length) (Nat.zero_add _) (by omega) (by omega)
    refine ⟨r, Ev_neg c g1, g2, ?_⟩
    rcases g3 with g3 | g3
    · exact Or.inl g3
    · refine Or.inr ⟨by omega, fun x hx => ?_⟩
      obtain ⟨i, hi, rfl⟩ := List.getElem_of_mem hx
      have := g3 i (by omega) hi
      rwa [getD_eq hi] at this

/-! ### laws_szRelation -/
theorem laws_szBoolS_eq (l : List Bool) (a : Int) (h : 0 ≤ a) (h2 : a ≤ 1048576) (hl : l.length ≤ maxLen) :
    laws_szBoolS.f l a = some (if a < l.length then -1 else a - l.length) := by
  unfold maxLen at hl
  unfold laws_szBoolS.f
  rw [w64 (n := a - (l.length : Int)) (by omega) (by omega)]
  by_cases c : a < l.length
  · rw [if_pos (by omega), if_pos c]
  · rw [if_neg (by omega), if_neg c]

theorem laws_szRelation_at (b t : Int) (l : List (List Int)) (acc : List Bool) (a : Int) (h0 : 0 ≤ a) (h1 : a ≤ 1048576) (hm : l.length ≤ maxLen) (hr : ∀ r ∈ l, r.length ≤ maxLen) (ha : acc.length ≤ maxLen) :
    ∃ r : Int, Ev (fun k => laws_szRelation.f k b t l acc a) r ∧ r ≤ 1048576 ∧ (r < 0 ∨ (l.length ≤ 1048576 ∧ (∀ x ∈ l, x.length ≤ 1048576) ∧ acc.length ≤ 1048576)) := by
  obtain ⟨r, g1, g2, g3⟩ := laws_szIntSS_ev l a h0 h1 hm hr
  unfold laws_szRelation.f
  by_cases c : r < 0
  · exact ⟨-1, Ev_call _ g1 (Ev_pos c (Ev.now _)), by omega, Or.inl (by omega)⟩
  · have e := laws_szBoolS_eq acc r (by omega) g2 ha
    have g3' := g3.resolve_left c
    by_cases d : r < acc.length
    · refine ⟨-1, Ev_call _ g1 (Ev_neg c (Ev_const ?_)), by omega, Or.inl (by omega)⟩
      rw [e, if_pos d]
      rfl
    · refine ⟨r - acc.length, Ev_call _ g1 (Ev_neg c (Ev_const ?_)), by omega, Or.inr ⟨g3'.1, g3'.2, by omega⟩⟩
      rw [e, if_neg d, Option.bind_some, if_neg (by omega)]

theorem laws_szRelation_ev (b t : Int) (l : List (List Int)) (acc : List Bool) (hm : l.length ≤ maxLen) (hr : ∀ r ∈ l, r.length ≤ maxLen) (ha : acc.length ≤ maxLen) :
    ∃ r : Int, Ev (fun k => laws_szRelation.f k b t l acc 1048576) r ∧ (r < 0 ∨ (l.length ≤ 1048576 ∧ (∀ x ∈ l, x.length ≤ 1048576) ∧ acc.length ≤ 1048576)) := by
  obtain ⟨r, g1, _, g3⟩ := laws_szRelation_at b t l acc 1048576 (by omega) (by omega) hm hr ha
  exact ⟨r, g1, g3⟩

/-! ### laws_toIntS -/
theorem laws_toIntS_loop (l : List Int) (hb : l.length ≤ 17592186044416) (d : Nat) : ∀ (n : Nat) (acc : List Int), acc.length = l.length → n ≤ l.length → l.length - n = d → acc.take n = l.take n →
    Ev (fun k => laws_toIntS.l0 k l acc (n : Int)) l := by
  induction d with
  | zero =>
    intro n acc h0 h1 h2 h3
    refine Ev_succ ?_
    simp only [laws_toIntS.l0]
    refine Ev_neg (by omega) (Ev_some ?_)
    have : n = l.length := by omega
    subst this
    rw [List.take_length, ← h0, List.take_length] at h3
    exact h3
  | succ d ih =>
    intro n acc h0 h1 h2 h3
    refine Ev_succ ?_
    simp only [laws_toIntS.l0]
    refine Ev_pos (by omega) (Ev_pos (by omega) (Ev_pos (by omega) ?_))
    rw [rd_cast, wsucc (by omega), Int.toNat_natCast]
    refine ih (n + 1) _ (by simpa using h0) (by omega) (by omega) ?_
    rw [set_take_succ acc n _ (by omega), take_succ_getD l n 0 (by omega), h3]

theorem laws_toIntS_ev (l : List Int) (hb : l.length ≤ 17592186044416) : Ev (fun k => laws_toIntS.f k l) l := by
  unfold laws_toIntS.f
  refine Ev_pos (by omega) (Ev_pos (by omega) ?_)
  exact laws_toIntS_loop l hb _ 0 _ (by simp) (by omega) rfl (by simp)

/-! ### laws_toIntSS -/
theorem laws_toIntSS_loop (l : List (List Int)) (hm : l.length ≤ 1048576) (hr : ∀ x ∈ l, x.length ≤ 17592186044416) (d : Nat) : ∀ (n : Nat) (acc : List (List Int)), acc.length = l.length → n + d = l.length → acc.take n = l.take n →
    Ev (fun k => laws_toIntSS.l0 k l acc (n : Int)) l := by
  induction d with
  | zero =>
    intro n acc h0 h1 h2
    refine Ev_succ ?_
    simp only [laws_toIntSS.l0]
    refine Ev_neg (by omega) (Ev_some ?_)
    have : n = l.length := by omega
    subst this
    rw [List.take_length, ← h0, List.take_length] at h2
    exact h2
  | succ d ih =>
    intro n acc h0 h1 h2
    refine Ev_succ ?_
    simp only [laws_toIntSS.l0, rd_L1, Int.toNat_natCast]
    have hrow := hr (l.getD n []) (by rw [getD_eq (by omega)]; exact List.getElem_mem _)
    refine Ev_pos (by omega) (Ev_pos (by omega) (Ev_call _ (laws_toIntS_ev _ hrow) (Ev_pos (by omega) ?_)))
    rw [wsucc (n := n) (by omega)]
    refine ih (n + 1) _ (by simpa using h0) (by omega) ?_
    rw [set_take_succ acc n _ (by omega), take_succ_getD l n [] (by omega), h2]

theorem laws_toIntSS_ev (l : List (List Int)) (hm : l.length ≤ 1048576) (hr : ∀ x ∈ l, x.length ≤ 17592186044416) : Ev (fun k => laws_toIntSS.f k l) l := by
  unfold laws_toIntSS.f
  refine Ev_pos (by omega) (Ev_pos (by omega) ?_)
  exact laws_toIntSS_loop l hm hr _ 0 _ (by simp) (Nat.zero_add _) (by simp)

/-! ### laws_toBoolS -/
theorem laws_toBoolS_loop (l : List Bool) (hb : l.length ≤ 1048576) (d : Nat) : ∀ (n : Nat) (acc : List Bool), acc.length = l.length → n + d = l.length → acc.take n = l.take n →
    Ev (fun k => laws_toBoolS.l0 k l acc (n : Int)) l := by
  induction d with
  | zero =>
    intro n acc h0 h1 h2
    refine Ev_succ ?_
    simp only [laws_toBoolS.l0]
    refine Ev_neg (by omega) (Ev_some ?_)
    have : n = l.length := by omega
    subst this
    rw [List.take_length, ← h0, List.take_length] at h2
    exact h2
  | succ d ih =>
    intro n acc h0 h1 h2
    refine Ev_succ ?_
    simp only [laws_toBoolS.l0]
    refine Ev_pos (by omega) (Ev_pos (by omega) (Ev_pos (by omega) ?_))
    rw [rdOf_cast, wsucc (n := n) (by omega), Int.toNat_natCast]
    refine ih (n + 1) _ (by simpa using h0) (by omega) ?_
    rw [set_take_succ acc n _ (by omega), take_succ_getD l n false (by omega), h2]

theorem laws_toBoolS_ev (l : List Bool) (hb : l.length ≤ 1048576) : Ev (fun k => laws_toBoolS.f k l) l := by
  unfold laws_toBoolS.f
  refine Ev_pos (by omega) (Ev_pos (by omega) ?_)
  exact laws_toBoolS_loop l hb _ 0 _ (by simp) (Nat.zero_add _) (by simp)

/-! ### laws_toRelation -/
theorem laws_toRelation_ev (b t : Int) (l : List (List Int)) (acc : List Bool) (hm : l.length ≤ 1048576) (hr : ∀ x ∈ l, x.length ≤ 1048576) (ha : acc.length ≤ 1048576) :
    Ev (fun k => laws_toRelation.f k b t l acc) (b, t, l, acc) := by
  unfold laws_toRelation.f
  exact Ev_call _ (laws_toIntSS_ev l hm (fun x hx => Nat.le_trans (hr x hx) (by omega))) (Ev_call _ (laws_toBoolS_ev acc ha) (Ev.now _))

/-! ### laws_eqIntS -/
theorem laws_eqIntS_loop (a b : List Int) (hl : a.length = b.length) (hb : a.length ≤ 17592186044416) (d : Nat) : ∀ n : Nat, n ≤ a.length → a.length - n = d → a.take n = b.take n →
    Ev (fun k => laws_eqIntS.l0 k a b (n : Int)) (decide (a = b)) := by
  induction d with
  | zero =>
    intro n h1 h2 h3
    refine Ev_succ ?_
    simp only [laws_eqIntS.l0]
    refine Ev_neg (by omega) (Ev_some ?_)
    have : n = a.length := by omega
    subst this
    rw [List.take_length, hl, List.take_length] at h3
    simp [h3]
  | succ d ih =>
    intro n h1 h2 h3
    refine Ev_succ ?_
    simp only [laws_eqIntS.l0]
    refine Ev_pos (by omega) (Ev_pos (by omega) (Ev_pos (by omega) ?_))
    rw [rd_cast, rd_cast, wsucc (by omega)]
    refine Ev_ite (fun h => ?_) (fun h => Ev_some ?_)
    · refine ih (n + 1) (by omega) (by omega) ?_
      rw [take_succ_getD a n 0 (by omega), take_succ_getD b n 0 (by omega), h3, h]
    · symm
      rw [decide_eq_false_iff_not]
      intro e
      exact h (by rw [e])

theorem laws_eqIntS_ev (a b : List Int) (hb : a.length ≤ 17592186044416) : Ev (fun k => laws_eqIntS.f k a b) (decide (a = b)) := by
  unfold laws_eqIntS.f
  refine Ev_ite (fun h => ?_) (fun h => Ev_some ?_)
  · exact laws_eqIntS_loop a b (by omega) hb _ 0 (by omega) rfl (by simp)
  · symm
    rw [decide_eq_false_iff_not]
    intro e
    exact h (by rw [e])

/-! ### laws_eqIntSS -/
theorem laws_eqIntSS_loop (a b : List (List Int)) (hl : a.length = b.length) (hb : a.length ≤ 1048576) (hr : ∀ x ∈ a, x.length ≤ 17592186044416) (d : Nat) : ∀ n : Nat, n + d = a.length → a.take n = b.take n →
    Ev (fun k => laws_eqIntSS.l0 k a b (n : Int)) (decide (a = b)) := by
  induction d with
  | zero =>
    intro n h1 h2
    refine Ev_succ ?_
    simp only [laws_eqIntSS.l0]
    refine Ev_neg (by omega) (Ev_some ?_)
    have : n = a.length := by omega
    subst this
    rw [List.take_length, hl, List.take_length] at h2
    simp [h2]
  | succ d ih =>
    intro n h1 h2
    refine Ev_succ ?_
    simp only [laws_eqIntSS.l0, rd_L1, Int.toNat_natCast]
    have hrow := hr (a.getD n []) (by rw [getD_eq (by omega)]; exact List.getElem_mem _)
    refine Ev_pos (by omega) (Ev_pos (by omega) (Ev_pos (by omega) (Ev_call _ (laws_eqIntS_ev _ _ hrow) ?_)))
    rw [wsucc (n := n) (by omega)]
    refine Ev_ite (fun h => ?_) (fun h => Ev_some ?_)
    · rw [decide_eq_true_eq] at h
      refine ih (n + 1) (by omega) ?_
      rw [take_succ_getD a n [] (by omega), take_succ_getD b n [] (by omega), h2, h]
    · rw [decide_eq_true_eq] at h
      symm
      rw [decide_eq_false_iff_not]
      intro e
      exact h (by rw [e])

theorem laws_eqIntSS_ev (a b : List (List Int)) (hb : a.length ≤ 1048576) (hr : ∀ x ∈ a, x.length ≤ 17592186044416) : Ev (fun k => laws_eqIntSS.f k a b) (decide (a = b)) := by
  unfold laws_eqIntSS.f
  refine Ev_ite (fun h => ?_) (fun h => Ev_some ?_)
  · exact laws_eqIntSS_loop a b (by omega) hb hr _ 0 (Nat.zero_add _) (by simp)
  · symm
    rw [decide_eq_false_iff_not]
    intro e
    exact h (by rw [e])

/-! ### laws_eqBoolS -/
theorem laws_eqBoolS_loop (a b : List Bool) (hl : a.length = b.length) (hb : a.length ≤ 1048576) (d : Nat) : ∀ n : Nat, n + d = a.length → a.take n = b.take n →
    Ev (fun k => laws_eqBoolS.l0 k a b (n : Int)) (decide (a = b)) := by
  induction d with
  | zero =>
    intro n h1 h2
    refine Ev_succ ?_
    simp only [laws_eqBoolS.l0]
    refine Ev_neg (by omega) (Ev_some ?_)
    have : n = a.length := by omega
    subst this
    rw [List.take_length, hl, List.take_length] at h2
    simp [h2]
  | succ d ih =>
    intro n h1 h2
    refine Ev_succ ?_
    simp only [laws_eqBoolS.l0]
    refine Ev_pos (by omega) (Ev_pos (by omega) (Ev_pos (by omega) ?_))
    rw [rdOf_cast, rdOf_cast, wsucc (n := n) (by omega)]
    refine Ev_ite (fun h => Ev_some ?_) (fun h => ?_)
    · symm
      rw [decide_eq_false_iff_not]
      intro e
      rw [e] at h
      simp at h
    · have h' : a.getD n false = b.getD n false := by simpa using h
      refine ih (n + 1) (by omega) ?_
      rw [take_succ_getD a n false (by omega), take_succ_getD b n false (by omega), h2, h']

theorem laws_eqBoolS_ev (a b : List Bool) (hb : a.length ≤ 1048576) : Ev (fun k => laws_eqBoolS.f k a b) (decide (a = b)) := by
  unfold laws_eqBoolS.f
  refine Ev_ite (fun h => ?_) (fun h => Ev_some ?_)
  · exact laws_eqBoolS_loop a b (by omega) hb _ 0 (Nat.zero_add _) (by simp)
  · symm
    rw [decide_eq_false_iff_not]
    intro e
    exact h (by rw [e])

/-! ### laws_eqRelation -/
theorem laws_eqRelation_ev (b t : Int) (l : List (List Int)) (acc : List Bool) (b' t' : Int) (l' : List (List Int)) (acc' : List Bool) (hm : l.length ≤ 1048576) (hr : ∀ x ∈ l, x.length ≤ 1048576) (ha : acc.length ≤ 1048576) :
    Ev (fun k => laws_eqRelation.f k b t l acc b' t' l' acc') (decide (b = b' ∧ t = t' ∧ l = l' ∧ acc = acc')) := by
  have h1 := laws_eqIntSS_ev l l' hm (fun x hx => Nat.le_trans (hr x hx) (by omega))
  have h2 := laws_eqBoolS_ev acc acc' ha
  unfold laws_eqRelation.f
  refine Ev_ite (fun e1 => ?_) (fun e1 => Ev_some (by simp [e1]))
  refine Ev_ite (fun e2 => ?_) (fun e2 => Ev_some (by simp [e2]))
  refine Ev_call _ h1 ?_
  by_cases e3 : l = l'
  · refine Ev_pos (by simp [e3]) (Ev_call _ h2 ?_)
    by_cases e4 : acc = acc'
    · exact Ev_pos (by simp [e4]) (Ev_some (by simp [e1, e2, e3, e4]))
    · exact Ev_neg (by simp [e4]) (Ev_some (by simp [e4]))
  · exact Ev_neg (by simp [e3]) (Ev_some (by simp [e3]))

/-! ### spec_l3Same -/
theorem spec_l3Same_loop (a b : List Int) (hl : a.length = b.length) (hb : a.length ≤ 17592186044416) (d : Nat) : ∀ n : Nat, n ≤ a.length → a.length - n = d → a.take n = b.take n →
    Ev (fun k => spec_l3Same.l0 k a b (n : Int)) (decide (a = b)) := by
  induction d with
  | zero =>
    intro n h1 h2 h3
    refine Ev_succ ?_
    simp only [spec_l3Same.l0]
    refine Ev_neg (by omega) (Ev_some ?_)
    have : n = a.length := by omega
    subst this
    rw [List.take_length, hl, List.take_length] at h3
    simp [h3]
  | succ d ih =>
    intro n h1 h2 h3
    refine Ev_succ ?_
    simp only [spec_l3Same.l0]
    refine Ev_pos (by omega) (Ev_pos (by omega) (Ev_pos (by omega) ?_))
    rw [rd_cast, rd_cast, wsucc (by omega)]
    refine Ev_ite (fun h => ?_) (fun h => Ev_some ?_)
    · refine ih (n + 1) (by omega) (by omega) ?_
      rw [take_succ_getD a n 0 (by omega), take_succ_getD b n 0 (by omega), h3, h]
    · symm
      rw [decide_eq_false_iff_not]
      intro e
      exact h (by rw [e])

theorem spec_l3Same_ev (a b : List Int) (hb : a.length ≤ 17592186044416) : Ev (fun k => spec_l3Same.f k a b) (decide (a = b)) := by
  unfold spec_l3Same.f
  refine Ev_ite (fun h => ?_) (fun h => Ev_some ?_)
  · exact spec_l3Same_loop a b (by omega) hb _ 0 (by omega) rfl (by simp)
  · symm
    rw [decide_eq_false_iff_not]
    intro e
    exact h (by rw [e])

/-! ### spec_SameRelation -/
theorem spec_SameRelation_l1 (b t : Int) (l : List (List Int)) (acc : List Bool) (b' t' : Int) (l' : List (List Int)) (acc' : List Bool) (hl : acc.length = acc'.length) (ha : acc.length ≤ 1048576) (d : Nat) : ∀ n : Nat, n + d = acc.length → acc.take n = acc'.take n →
    Ev (fun k => spec_SameRelation.l1 k (n : Int) b t l acc b' t' l' acc') (decide (acc = acc')) := by
  induction d with
  | zero =>
    intro n h1 h2
    refine Ev_succ ?_
    simp only [spec_SameRelation.l1]
    refine Ev_neg (by omega) (Ev_some ?_)
    have : n = acc.length := by omega
    subst this
    rw [List.take_length, hl, List.take_length] at h2
    simp [h2]
  | succ d ih =>
    intro n h1 h2
    refine Ev_succ ?_
    simp only [spec_SameRelation.l1]
    refine Ev_pos (by omega) (Ev_pos (by omega) (Ev_pos (by omega) ?_))
    rw [rdOf_cast, rdOf_cast, wsucc (n := n) (by omega)]
    refine Ev_ite (fun h => Ev_some ?_) (fun h => ?_)
    · symm
      rw [decide_eq_false_iff_not]
      intro e
      rw [e] at h
      simp at h
    · have h' : acc.getD n false = acc'.getD n false := by simpa using h
      refine ih (n + 1) (by omega) ?_
      rw [take_succ_getD acc n false (by omega), take_succ_getD acc' n false (by omega), h2, h']

theorem spec_SameRelation_l0 (b t : Int) (l : List (List Int)) (acc : List Bool) (b' t' : Int) (l' : List (List Int)) (acc' : List Bool) (hl : acc.length = acc'.length) (hl2 : l.length = l'.length) (ha : acc.length ≤ 1048576) (hm : l.length ≤ 1048576) (hr : ∀ x ∈ l, x.length ≤ 1048576) (d : Nat) : ∀ n : Nat, n + d = l.length → l.take n = l'.take n →
    Ev (fun k => spec_SameRelation.l0 k (n : Int) b t l acc b' t' l' acc') (decide (l = l' ∧ acc = acc')) := by
  induction d with
  | zero =>
    intro n h1 h2
    refine Ev_succ ?_
    simp only [spec_SameRelation.l0]
    have : n = l.length := by omega
    subst this
    rw [List.take_length, hl2, List.take_length] at h2
    refine Ev_neg (by omega) (Ev_eq (spec_SameRelation_l1 b t l acc b' t' l' acc' hl ha _ 0 (Nat.zero_add _) (by simp)) ?_)
    simp [h2]
  | succ d ih =>
    intro n h1 h2
    have hrow := hr (l.getD n []) (by rw [getD_eq (by omega)]; exact List.getElem_mem _)
    refine Ev_succ ?_
    simp only [spec_SameRelation.l0, rd_L1, Int.toNat_natCast]
    refine Ev_pos (by omega) (Ev_pos (by omega) (Ev_pos (by omega) (Ev_call _ (spec_l3Same_ev _ _ (by omega)) ?_)))
    rw [wsucc (n := n) (by omega)]
    refine Ev_ite (fun h => ?_) (fun h => Ev_some ?_)
    · rw [decide_eq_true_eq] at h
      refine ih (n + 1) (by omega) ?_
      rw [take_succ_getD l n [] (by omega), take_succ_getD l' n [] (by omega), h2, h]
    · rw [decide_eq_true_eq] at h
      symm
      rw [decide_eq_false_iff_not]
      intro e
      exact h (by rw [e.1])

theorem spec_SameRelation_ev (b t : Int) (l : List (List Int)) (acc : List Bool) (b' t' : Int) (l' : List (List Int)) (acc' : List Bool) (ha : acc.length ≤ 1048576) (hm : l.length ≤ 1048576) (hr : ∀ x ∈ l, x.length ≤ 1048576) :
    Ev (fun k => spec_SameRelation.f k b t l acc b' t' l' acc') (decide (b = b' ∧ t = t' ∧ l = l' ∧ acc = acc')) := by
  have no : ¬ (b = b' ∧ t = t' ∧ l = l' ∧ acc = acc') → Ev (fun k => spec_SameRelation.j0 k true b t l acc b' t' l' acc') (decide (b = b' ∧ t = t' ∧ l = l' ∧ acc = acc')) := by
    intro h
    refine Ev_succ ?_
    simp only [spec_SameRelation.j0]
    exact Ev_pos (by simp) (Ev_some (decide_eq_false h).symm)
  unfold spec_SameRelation.f
  refine Ev_ite (fun e1 => Ev_ite (fun e2 => Ev_ite (fun e3 => ?_) (fun h => no (fun e => h (by rw [e.2.2.1])))) (fun h => no (fun e => h e.2.1))) (fun h => no (fun e => h e.1))
  by_cases c : acc.length = acc'.length
  · refine Ev_succ ?_
    simp only [spec_SameRelation.j0]
    refine Ev_neg (by simp [c]) (Ev_eq (spec_SameRelation_l0 b t l acc b' t' l' acc' c (by omega) ha hm hr _ 0 (Nat.zero_add _) (by simp)) ?_)
    simp [e1, e2]
  · rw [show (((acc.length : Int)) != (acc'.length : Int)) = true by rw [bne_iff_ne]; omega]
    exact no (fun e => c (by rw [e.2.2.2]))

/-! ### slices_Equal_int_int -/
theorem slices_Equal_int_int_loop (a b : List Int) (hl : a.length = b.length) (hb : a.length ≤ 17592186044416) (d : Nat) : ∀ n : Nat, n ≤ a.length → a.length - n = d → a.take n = b.take n →
    Ev (fun k => slices_Equal_int_int.l0 k a b (a.length : Int) (n : Int)) (decide (a = b)) := by
  induction d with
  | zero =>
    intro n h1 h2 h3
    refine Ev_succ ?_
    simp only [slices_Equal_int_int.l0]
    refine Ev_neg (by omega) (Ev_some ?_)
    have : n = a.length := by omega
    subst this
    rw [List.take_length, hl, List.take_length] at h3
    simp [h3]
  | succ d ih =>
    intro n h1 h2 h3
    refine Ev_succ ?_
    simp only [slices_Equal_int_int.l0]
    refine Ev_pos (by omega) (Ev_pos (by omega) (Ev_pos (by omega) (Ev_pos (by omega) ?_)))
    rw [rd_cast, rd_cast, wsucc (by omega)]
    refine Ev_ite (fun h => ?_) (fun h => Ev_some ?_)
    · refine ih (n + 1) (by omega) (by omega) ?_
      rw [take_succ_getD a n 0 (by omega), take_succ_getD b n 0 (by omega), h3, h]
    · symm
      rw [decide_eq_false_iff_not]
      intro e
      exact h (by rw [e])

theorem slices_Equal_int_int_ev (a b : List Int) (hb : a.length ≤ 17592186044416) : Ev (fun k => slices_Equal_int_int.f k a b) (decide (a = b)) := by
  unfold slices_Equal_int_int.f
  refine Ev_ite (fun h => ?_) (fun h => Ev_some ?_)
  · exact slices_Equal_int_int_loop a b (by omega) hb _ 0 (by omega) rfl (by simp)
  · symm
    rw [decide_eq_false_iff_not]
    intro e
    exact h (by rw [e])

/-! ### slices_EqualFunc -/
theorem slices_EqualFunc_loop (a b : List (List Int)) (hl : a.length = b.length) (ha : a.length ≤ 1048576) (hr : ∀ x ∈ a, x.length ≤ 1048576) (d : Nat) : ∀ n : Nat, n + d = a.length → a.take n = b.take n →
    Ev (fun k => slices_EqualFunc_int_int_int_int.l0 k b a (a.length : Int) (n : Int)) (decide (a = b)) := by
  induction d with
  | zero =>
    intro n h1 h2
    refine Ev_succ ?_
    simp only [slices_EqualFunc_int_int_int_int.l0]
    refine Ev_neg (by omega) (Ev_some ?_)
    have : n = a.length := by omega
    subst this
    rw [List.take_length, hl, List.take_length] at h2
    simp [h2]
  | succ d ih =>
    intro n h1 h2
    have hrow := hr (a.getD n []) (by rw [getD_eq (by omega)]; exact List.getElem_mem _)
    refine Ev_succ ?_
    simp only [slices_EqualFunc_int_int_int_int.l0, rd_L1, Int.toNat_natCast]
    refine Ev_pos (by omega) (Ev_pos (by omega) (Ev_pos (by omega) (Ev_pos (by omega) (Ev_call _ (slices_Equal_int_int_ev _ _ (by omega)) ?_))))
    rw [wsucc (n := n) (by omega)]
    refine Ev_ite (fun h => ?_) (fun h => Ev_some ?_)
    · rw [decide_eq_true_eq] at h
      refine ih (n + 1) (by omega) ?_
      rw [take_succ_getD a n [] (by omega), take_succ_getD b n [] (by omega), h2, h]
    · rw [decide_eq_true_eq] at h
      symm
      rw [decide_eq_false_iff_not]
      intro e
      exact h (by rw [e])
theorem slices_EqualFunc_ev (a b : List (List Int)) (ha : a.length ≤ 1048576) (hr : ∀ x ∈ a, x.length ≤ 1048576) : Ev (fun k => slices_EqualFunc_int_int_int_int.f k a b) (decide (a = b)) := by
  unfold slices_EqualFunc_int_int_int_int.f
  refine Ev_ite (fun h => ?_) (fun h => Ev_some ?_)
  · exact slices_EqualFunc_loop a b (by omega) ha hr _ 0 (Nat.zero_add _) (by simp)
  · symm
    rw [decide_eq_false_iff_not]
    intro e
    exact h (by rw [e])

/-! ### slices_Equal_bool -/
theorem slices_Equal_bool_loop (a b : List Bool) (hl : a.length = b.length) (hb : a.length ≤ 1048576) (d : Nat) : ∀ n : Nat, n + d = a.length → a.take n = b.take n →
    Ev (fun k => slices_Equal_bool_bool.l0 k a b (a.length : Int) (n : Int)) (decide (a = b)) := by
  induction d with
  | zero =>
    intro n h1 h2
    refine Ev_succ ?_
    simp only [slices_Equal_bool_bool.l0]
    refine Ev_neg (by omega) (Ev_some ?_)
    have : n = a.length := by omega
    subst this
    rw [List.take_length, hl, List.take_length] at h2
    simp [h2]
  | succ d ih =>
    intro n h1 h2
    refine Ev_succ ?_
    simp only [slices_Equal_bool_bool.l0]
    refine Ev_pos (by omega) (Ev_pos (by omega) (Ev_pos (by omega) (Ev_pos (by omega) ?_)))
    rw [rdOf_cast, rdOf_cast, wsucc (n := n) (by omega)]
    refine Ev_ite (fun h => Ev_some ?_) (fun h => ?_)
    · symm
      rw [decide_eq_false_iff_not]
      intro e
      rw [e] at h
      simp at h
    · have h' : a.getD n false = b.getD n false := by simpa using h
      refine ih (n + 1) (by omega) ?_
      rw [take_succ_getD a n false (by omega), take_succ_getD b n false (by omega), h2, h']
theorem slices_Equal_bool_ev (a b : List Bool) (hb : a.length ≤ 1048576) : Ev (fun k => slices_Equal_bool_bool.f k a b) (decide (a = b)) := by
  unfold slices_Equal_bool_bool.f
  refine Ev_ite (fun h => ?_) (fun h => Ev_some ?_)
  · exact slices_Equal_bool_loop a b (by omega) hb _ 0 (Nat.zero_add _) (by simp)
  · symm
    rw [decide_eq_false_iff_not]
    intro e
    exact h (by rw [e])

/-! ### impl_SameRelation -/
theorem impl_SameRelation_ev (b t : Int) (l : List (List Int)) (acc : List Bool) (b' t' : Int) (l' : List (List Int)) (acc' : List Bool) (ha : acc.length ≤ 1048576) (hm : l.length ≤ 1048576) (hr : ∀ x ∈ l, x.length ≤ 1048576) :
    Ev (fun k => impl_SameRelation.f k b t l acc b' t' l' acc') (decide (b = b' ∧ t = t' ∧ l = l' ∧ acc = acc')) := by
  unfold impl_SameRelation.f
  refine Ev_ite (fun e1 => Ev_ite (fun e2 => Ev_call _ (slices_EqualFunc_ev l l' hm hr) (Ev_ite (fun e3 => Ev_call _ (slices_Equal_bool_ev acc acc' ha) (Ev_some ?_)) (fun h => Ev_some ?_))) (fun h => Ev_some ?_)) (fun h => Ev_some ?_)
  · rw [decide_eq_true_eq] at e3
    simp [e1, e2, e3]
  · rw [decide_eq_true_eq] at h
    simp [h]
  · simp [h]
  · simp [h]

theorem FnExactSameRelation (b t : Int) (l : List (List Int)) (acc : List Bool) (b' t' : Int) (l' : List (List Int)) (acc' : List Bool) (hm : l.length ≤ maxLen) (hr : ∀ r ∈ l, r.length ≤ maxLen) (ha : acc.length ≤ maxLen) (hm' : l'.length ≤ maxLen) (hr' : ∀ r ∈ l', r.length ≤ maxLen) (ha' : acc'.length ≤ maxLen) :
    ∃ k, laws_FnExactSameRelation.f k b t l acc b' t' l' acc' = some true := by
  refine Ev.rounds ?_
  unfold laws_FnExactSameRelation.f
  obtain ⟨r, s1, s0, s2⟩ := laws_szRelation_at b t l acc 1048576 (by omega) (by omega) hm hr ha
  refine Ev_call _ s1 (Ev_ite (fun _ => Ev.now _) (fun h => ?_))
  obtain ⟨m1, m2, m3⟩ := s2.resolve_left h
  obtain ⟨r', s1', s0', s2'⟩ := laws_szRelation_at b' t' l' acc' r (by omega) s0 hm' hr' ha'
  refine Ev_call _ s1' (Ev_ite (fun _ => Ev.now _) (fun h => ?_))
  obtain ⟨m1', m2', m3'⟩ := s2'.resolve_left h
  have t1 := laws_toRelation_ev b t l acc m1 m2 m3
  have t2 := laws_toRelation_ev b' t' l' acc' m1' m2' m3'
  have h1 := spec_SameRelation_ev b t l acc b' t' l' acc' m3 m1 m2
  have h2 := impl_SameRelation_ev b t l acc b' t' l' acc' m3 m1 m2
  have h3 := laws_eqRelation_ev b t l acc b t l acc m1 m2 m3
  have h4 := laws_eqRelation_ev b' t' l' acc' b' t' l' acc' m1' m2' m3'
  refine Ev_call _ t1 (Ev_call _ t2 ?_)
  dsimp only
  refine Ev_call _ h1 (Ev_call _ t1 (Ev_call _ t2 ?_))
  dsimp only
  refine Ev_call _ h2 (Ev_neg (by simp) (Ev_call _ t1 ?_))
  dsimp only
  refine Ev_call _ h3 (Ev_pos (by simp) (Ev_call _ t2 ?_))
  dsimp only
  exact Ev_call _ h4 (Ev_pos (by simp) (Ev.now _))

end Go.Proofs.Ytaolbdkehlobiaa.Pure
