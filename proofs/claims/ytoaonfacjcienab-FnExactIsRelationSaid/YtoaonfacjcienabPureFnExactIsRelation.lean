/- The pure statement of FnExactIsRelation: at every relation the law's answer is true. -/
import Derived.Test.YtoaonfacjcienabMFnExactIsRelationx6
import Derived.Test.YtoaonfacjcienabG0
import Derived.Test.YtoaonfacjcienabGSized
import Derived.Test.YtoaonfacjcienabGRel
import Derived.Test.YtoaonfacjcienabG10
namespace Go.Proofs.Ytoaonfacjcienab.Pure
open Go.RowKit Go.Proofs.Ytoaonfacjcienab.PFnExactIsRelation Go.Proofs.YtoaonfacjcienabW.PrintWords Go.Proofs.YtoaonfacjcienabW.PrintLast Go.Proofs.YtoaonfacjcienabW.PrintMore Go.Proofs.Ytoaonfacjcienab.G
set_option linter.unusedVariables false
set_option linter.unusedSimpArgs false

/-! ### laws_szIntSS -/
theorem laws_szIntS_eq (l : List Int) (a : Int) (h : 0 ≤ a) (h2 : a ≤ 1048576) (hl : l.length ≤ maxLen) :
    laws_szIntS.f l a = some (if a < l.length then -1 else a - l.length) := by
  unfold maxLen at hl
  unfold laws_szIntS.f
  rw [w64 (n := a - (l.length : Int)) (by omega) (by omega)]
  by_cases c : a < l.length
  · rw [if_pos (by omega), if_pos c]
  · rw [if_neg (by omega), if_neg c]

theorem laws_szIntSS_loop (l : List (List Int)) (hm : l.length ≤ 1048576) (hr : ∀ r ∈ l, r.length ≤ maxLen) (d : Nat) : ∀ (n : Nat) (a : Int), n + d = l.length → 0 ≤ a → a ≤ 1048576 →
    ∃ r : Int, Ev (fun k => laws_szIntSS.l0 k l a (n : Int)) r ∧ r ≤ 1048576 ∧ (r < 0 ∨ ∀ i, n ≤ i → i < l.length → (l.getD i []).length ≤ 1048576) := by
  induction d with
  | zero =>
    intro n a h h0 h1
    refine ⟨a, Ev_succ ?_, h1, Or.inr (fun i h2 h3 => by omega)⟩
    simp only [laws_szIntSS.l0]
    exact Ev_neg (by omega) (Ev.now _)
  | succ d ih =>
    intro n a h h0 h1
    have hrow := hr (l.getD n []) (by rw [getD_eq (by omega)]; exact List.getElem_mem _)
    have es := laws_szIntS_eq (l.getD n []) a h0 h1 hrow
    by_cases c : a < (l.getD n []).length
    · refine ⟨-1, Ev_succ ?_, by omega, Or.inl (by omega)⟩
      simp only [laws_szIntSS.l0, rd_L1, Int.toNat_natCast, es, Option.bind_some, if_pos c]
      exact Ev_pos (by omega) (Ev_pos (by omega) (Ev_pos (by omega) (Ev.now _)))
    · obtain ⟨r, g1, g2, g3⟩ := ih (n + 1) (a - (l.getD n []).length) (by omega) (by omega) (by omega)
      refine ⟨r, Ev_succ ?_, g2, ?_⟩
      · simp only [laws_szIntSS.l0, rd_L1, Int.toNat_natCast, es, Option.bind_some, if_neg c]
        rw [wsucc (n := n) (by omega)]
        exact Ev_pos (by omega) (Ev_pos (by omega) (Ev_neg (by omega) g1))
      · rcases g3 with g3 | g3
        · exact Or.inl g3
        · refine Or.inr (fun i h2 h3 => ?_)
          by_cases e : i = n
          · subst e; omega
          · exact g3 i (by omega) h3

theorem laws_szIntSS_ev (l : List (List Int)) (a : Int) (h0 : 0 ≤ a) (h1 : a ≤ 1048576) (hm : l.length ≤ maxLen) (hr : ∀ r ∈ l, r.length ≤ maxLen) :
    ∃ r : Int, Ev (fun k => laws_szIntSS.f k l a) r ∧ r ≤ 1048576 ∧ (r < 0 ∨ (l.length ≤ 1048576 ∧ ∀ x ∈ l, x.length ≤ 1048576)) := by
  have hm' := hm
  unfold maxLen at hm
  unfold laws_szIntSS.f
  rw [w64 (n := a - (l.length : Int)) (by omega) (by omega)]
  by_cases c : a - (l.length : Int) < 0
  · exact ⟨-1, Ev_pos c (Ev.now _), by omega, Or.inl (by omega)⟩
  · obtain ⟨r, g1, g2, g3⟩ := laws_szIntSS_loop l (by omega) hr _ 0 (a - l.length) (Nat.zero_add _) (by omega) (by omega)
    refine ⟨r, Ev_neg c g1, g2, ?_⟩
    rcases g3 with g3 | g3
    · exact Or.inl g3
    · refine Or.inr ⟨by omega, fun x hx => ?_⟩
      obtain ⟨i, hi, rfl⟩ := List.getElem_of_mem hx
      have := g3 i (by omega) hi
      rwa [getD_eq hi] at this

/-! ### laws_szRelation -/
theorem laws_szBoolS_eq (l : List Bool) (a : Int) (h : 0 ≤ a) (h2 : a ≤ 1048576) (hl : l.length ≤ maxLen) :
    laws_szBoolS.f l a = some (if a < l.length then -1 else a - l.length) := by
  unfold maxLen at hl
  unfold laws_szBoolS.f
  rw [w64 (n := a - (l.length : Int)) (by omega) (by omega)]
  by_cases c : a < l.length
  · rw [if_pos (by omega), if_pos c]
  · rw [if_neg (by omega), if_neg c]

theorem laws_szRelation_ev (b t : Int) (l : List (List Int)) (acc : List Bool) (hm : l.length ≤ maxLen) (hr : ∀ r ∈ l, r.length ≤ maxLen) (ha : acc.length ≤ maxLen) :
    ∃ r : Int, Ev (fun k => laws_szRelation.f k b t l acc 1048576) r ∧ (r < 0 ∨ (l.length ≤ 1048576 ∧ (∀ x ∈ l, x.length ≤ 1048576) ∧ acc.length ≤ 1048576)) := by
  obtain ⟨r, g1, g2, g3⟩ := laws_szIntSS_ev l 1048576 (by omega) (by omega) hm hr
  unfold laws_szRelation.f
  by_cases c : r < 0
  · exact ⟨-1, Ev_call _ g1 (Ev_pos c (Ev.now _)), Or.inl (by omega)⟩
  · have e := laws_szBoolS_eq acc r (by omega) g2 ha
    have g3' := g3.resolve_left c
    by_cases d : r < acc.length
    · refine ⟨-1, Ev_call _ g1 (Ev_neg c (Ev_const ?_)), Or.inl (by omega)⟩
      rw [e, if_pos d]
      rfl
    · refine ⟨r - acc.length, Ev_call _ g1 (Ev_neg c (Ev_const ?_)), Or.inr ⟨g3'.1, g3'.2, by omega⟩⟩
      rw [e, if_neg d, Option.bind_some, if_neg (by omega)]

/-! ### laws_toIntS -/
theorem laws_toIntS_loop (l : List Int) (hb : l.length ≤ 17592186044416) (d : Nat) : ∀ (n : Nat) (acc : List Int), acc.length = l.length → n ≤ l.length → l.length - n = d → acc.take n = l.take n →
    Ev (fun k => laws_toIntS.l0 k l acc (n : Int)) l := by
  induction d with
  | zero =>
    intro n acc h0 h1 h2 h3
    refine Ev_succ ?_
    simp only [laws_toIntS.l0]
    refine Ev_neg (by omega) (Ev_some ?_)
    have : n = l.length := by omega
    subst this
    rw [List.take_length, ← h0, List.take_length] at h3
    exact h3
  | succ d ih =>
    intro n acc h0 h1 h2 h3
    refine Ev_succ ?_
    simp only [laws_toIntS.l0]
    refine Ev_pos (by omega) (Ev_pos (by omega) (Ev_pos (by omega) ?_))
    rw [rd_cast, wsucc (by omega), Int.toNat_natCast]
    refine ih (n + 1) _ (by simpa using h0) (by omega) (by omega) ?_
    rw [set_take_succ acc n _ (by omega), take_succ_getD l n 0 (by omega), h3]

theorem laws_toIntS_ev (l : List Int) (hb : l.length ≤ 17592186044416) : Ev (fun k => laws_toIntS.f k l) l := by
  unfold laws_toIntS.f
  refine Ev_pos (by omega) (Ev_pos (by omega) ?_)
  exact laws_toIntS_loop l hb _ 0 _ (by simp) (by omega) rfl (by simp)

/-! ### laws_toIntSS -/
theorem laws_toIntSS_loop (l : List (List Int)) (hm : l.length ≤ 1048576) (hr : ∀ x ∈ l, x.length ≤ 17592186044416) (d : Nat) : ∀ (n : Nat) (acc : List (List Int)), acc.length = l.length → n + d = l.length → acc.take n = l.take n →
    Ev (fun k => laws_toIntSS.l0 k l acc (n : Int)) l := by
  induction d with
  | zero =>
    intro n acc h0 h1 h2
    refine Ev_succ ?_
    simp only [laws_toIntSS.l0]
    refine Ev_neg (by omega) (Ev_some ?_)
    have : n = l.length := by omega
    subst this
    rw [List.take_length, ← h0, List.take_length] at h2
    exact h2
  | succ d ih =>
    intro n acc h0 h1 h2
    refine Ev_succ ?_
    simp only [laws_toIntSS.l0, rd_L1, Int.toNat_natCast]
    have hrow := hr (l.getD n []) (by rw [getD_eq (by omega)]; exact List.getElem_mem _)
    refine Ev_pos (by omega) (Ev_pos (by omega) (Ev_call _ (laws_toIntS_ev _ hrow) (Ev_pos (by omega) ?_)))
    rw [wsucc (n := n) (by omega)]
    refine ih (n + 1) _ (by simpa using h0) (by omega) ?_
    rw [set_take_succ acc n _ (by omega), take_succ_getD l n [] (by omega), h2]

theorem laws_toIntSS_ev (l : List (List Int)) (hm : l.length ≤ 1048576) (hr : ∀ x ∈ l, x.length ≤ 17592186044416) : Ev (fun k => laws_toIntSS.f k l) l := by
  unfold laws_toIntSS.f
  refine Ev_pos (by omega) (Ev_pos (by omega) ?_)
  exact laws_toIntSS_loop l hm hr _ 0 _ (by simp) (Nat.zero_add _) (by simp)

/-! ### laws_toBoolS -/
theorem laws_toBoolS_loop (l : List Bool) (hb : l.length ≤ 1048576) (d : Nat) : ∀ (n : Nat) (acc : List Bool), acc.length = l.length → n + d = l.length → acc.take n = l.take n →
    Ev (fun k => laws_toBoolS.l0 k l acc (n : Int)) l := by
  induction d with
  | zero =>
    intro n acc h0 h1 h2
    refine Ev_succ ?_
    simp only [laws_toBoolS.l0]
    refine Ev_neg (by omega) (Ev_some ?_)
    have : n = l.length := by omega
    subst this
    rw [List.take_length, ← h0, List.take_length] at h2
    exact h2
  | succ d ih =>
    intro n acc h0 h1 h2
    refine Ev_succ ?_
    simp only [laws_toBoolS.l0]
    refine Ev_pos (by omega) (Ev_pos (by omega) (Ev_pos (by omega) ?_))
    rw [rdOf_cast, wsucc (n := n) (by omega), Int.toNat_natCast]
    refine ih (n + 1) _ (by simpa using h0) (by omega) ?_
    rw [set_take_succ acc n _ (by omega), take_succ_getD l n false (by omega), h2]

theorem laws_toBoolS_ev (l : List Bool) (hb : l.length ≤ 1048576) : Ev (fun k => laws_toBoolS.f k l) l := by
  unfold laws_toBoolS.f
  refine Ev_pos (by omega) (Ev_pos (by omega) ?_)
  exact laws_toBoolS_loop l hb _ 0 _ (by simp) (Nat.zero_add _) (by simp)

/-! ### laws_toRelation -/
theorem laws_toRelation_ev (b t : Int) (l : List (List Int)) (acc : List Bool) (hm : l.length ≤ 1048576) (hr : ∀ x ∈ l, x.length ≤ 1048576) (ha : acc.length ≤ 1048576) :
    Ev (fun k => laws_toRelation.f k b t l acc) (b, t, l, acc) := by
  unfold laws_toRelation.f
  exact Ev_call _ (laws_toIntSS_ev l hm (fun x hx => Nat.le_trans (hr x hx) (by omega))) (Ev_call _ (laws_toBoolS_ev acc ha) (Ev.now _))

/-! ### laws_eqIntS -/
theorem laws_eqIntS_loop (a b : List Int) (hl : a.length = b.length) (hb : a.length ≤ 17592186044416) (d : Nat) : ∀ n : Nat, n ≤ a.length → a.length - n = d → a.take n = b.take n →
    Ev (fun k => laws_eqIntS.l0 k a b (n : Int)) (decide (a = b)) := by
  induction d with
  | zero =>
    intro n h1 h2 h3
    refine Ev_succ ?_
    simp only [laws_eqIntS.l0]
    refine Ev_neg (by omega) (Ev_some ?_)
    have : n = a.length := by omega
    subst this
    rw [List.take_length, hl, List.take_length] at h3
    simp [h3]
  | succ d ih =>
    intro n h1 h2 h3
    refine Ev_succ ?_
    simp only [laws_eqIntS.l0]
    refine Ev_pos (by omega) (Ev_pos (by omega) (Ev_pos (by omega) ?_))
    rw [rd_cast, rd_cast, wsucc (by omega)]
    refine Ev_ite (fun h => ?_) (fun h => Ev_some ?_)
    · refine ih (n + 1) (by omega) (by omega) ?_
      rw [take_succ_getD a n 0 (by omega), take_succ_getD b n 0 (by omega), h3, h]
    · symm
      rw [decide_eq_false_iff_not]
      intro e
      exact h (by rw [e])

theorem laws_eqIntS_ev (a b : List Int) (hb : a.length ≤ 17592186044416) : Ev (fun k => laws_eqIntS.f k a b) (decide (a = b)) := by
  unfold laws_eqIntS.f
  refine Ev_ite (fun h => ?_) (fun h => Ev_some ?_)
  · exact laws_eqIntS_loop a b (by omega) hb _ 0 (by omega) rfl (by simp)
  · symm
    rw [decide_eq_false_iff_not]
    intro e
    exact h (by rw [e])

/-! ### laws_eqIntSS -/
theorem laws_eqIntSS_loop (a b : List (List Int)) (hl : a.length = b.length) (hb : a.length ≤ 1048576) (hr : ∀ x ∈ a, x.length ≤ 17592186044416) (d : Nat) : ∀ n : Nat, n + d = a.length → a.take n = b.take n →
    Ev (fun k => laws_eqIntSS.l0 k a b (n : Int)) (decide (a = b)) := by
  induction d with
  | zero =>
    intro n h1 h2
    refine Ev_succ ?_
    simp only [laws_eqIntSS.l0]
    refine Ev_neg (by omega) (Ev_some ?_)
    have : n = a.length := by omega
    subst this
    rw [List.take_length, hl, List.take_length] at h2
    simp [h2]
  | succ d ih =>
    intro n h1 h2
    refine Ev_succ ?_
    simp only [laws_eqIntSS.l0, rd_L1, Int.toNat_natCast]
    have hrow := hr (a.getD n []) (by rw [getD_eq (by omega)]; exact List.getElem_mem _)
    refine Ev_pos (by omega) (Ev_pos (by omega) (Ev_pos (by omega) (Ev_call _ (laws_eqIntS_ev _ _ hrow) ?_)))
    rw [wsucc (n := n) (by omega)]
    refine Ev_ite (fun h => ?_) (fun h => Ev_some ?_)
    · rw [decide_eq_true_eq] at h
      refine ih (n + 1) (by omega) ?_
      rw [take_succ_getD a n [] (by omega), take_succ_getD b n [] (by omega), h2, h]
    · rw [decide_eq_true_eq] at h
      symm
      rw [decide_eq_false_iff_not]
      intro e
      exact h (by rw [e])

theorem laws_eqIntSS_ev (a b : List (List Int)) (hb : a.length ≤ 1048576) (hr : ∀ x ∈ a, x.length ≤ 17592186044416) : Ev (fun k => laws_eqIntSS.f k a b) (decide (a = b)) := by
  unfold laws_eqIntSS.f
  refine Ev_ite (fun h => ?_) (fun h => Ev_some ?_)
  · exact laws_eqIntSS_loop a b (by omega) hb hr _ 0 (Nat.zero_add _) (by simp)
  · symm
    rw [decide_eq_false_iff_not]
    intro e
    exact h (by rw [e])

/-! ### laws_eqBoolS -/
theorem laws_eqBoolS_loop (a b : List Bool) (hl : a.length = b.length) (hb : a.length ≤ 1048576) (d : Nat) : ∀ n : Nat, n + d = a.length → a.take n = b.take n →
    Ev (fun k => laws_eqBoolS.l0 k a b (n : Int)) (decide (a = b)) := by
  induction d with
  | zero =>
    intro n h1 h2
    refine Ev_succ ?_
    simp only [laws_eqBoolS.l0]
    refine Ev_neg (by omega) (Ev_some ?_)
    have : n = a.length := by omega
    subst this
    rw [List.take_length, hl, List.take_length] at h2
    simp [h2]
  | succ d ih =>
    intro n h1 h2
    refine Ev_succ ?_
    simp only [laws_eqBoolS.l0]
    refine Ev_pos (by omega) (Ev_pos (by omega) (Ev_pos (by omega) ?_))
    rw [rdOf_cast, rdOf_cast, wsucc (n := n) (by omega)]
    refine Ev_ite (fun h => Ev_some ?_) (fun h => ?_)
    · symm
      rw [decide_eq_false_iff_not]
      intro e
      rw [e] at h
      simp at h
    · have h' : a.getD n false = b.getD n false := by simpa using h
      refine ih (n + 1) (by omega) ?_
      rw [take_succ_getD a n false (by omega), take_succ_getD b n false (by omega), h2, h']

theorem laws_eqBoolS_ev (a b : List Bool) (hb : a.length ≤ 1048576) : Ev (fun k => laws_eqBoolS.f k a b) (decide (a = b)) := by
  unfold laws_eqBoolS.f
  refine Ev_ite (fun h => ?_) (fun h => Ev_some ?_)
  · exact laws_eqBoolS_loop a b (by omega) hb _ 0 (Nat.zero_add _) (by simp)
  · symm
    rw [decide_eq_false_iff_not]
    intro e
    exact h (by rw [e])

/-! ### laws_eqRelation -/
theorem laws_eqRelation_ev (b t : Int) (l : List (List Int)) (acc : List Bool) (b' t' : Int) (l' : List (List Int)) (acc' : List Bool) (hm : l.length ≤ 1048576) (hr : ∀ x ∈ l, x.length ≤ 1048576) (ha : acc.length ≤ 1048576) :
    Ev (fun k => laws_eqRelation.f k b t l acc b' t' l' acc') (decide (b = b' ∧ t = t' ∧ l = l' ∧ acc = acc')) := by
  have h1 := laws_eqIntSS_ev l l' hm (fun x hx => Nat.le_trans (hr x hx) (by omega))
  have h2 := laws_eqBoolS_ev acc acc' ha
  unfold laws_eqRelation.f
  refine Ev_ite (fun e1 => ?_) (fun e1 => Ev_some (by simp [e1]))
  refine Ev_ite (fun e2 => ?_) (fun e2 => Ev_some (by simp [e2]))
  refine Ev_call _ h1 ?_
  by_cases e3 : l = l'
  · refine Ev_pos (by simp [e3]) (Ev_call _ h2 ?_)
    by_cases e4 : acc = acc'
    · exact Ev_pos (by simp [e4]) (Ev_some (by simp [e1, e2, e3, e4]))
    · exact Ev_neg (by simp [e4]) (Ev_some (by simp [e4]))
  · exact Ev_neg (by simp [e3]) (Ev_some (by simp [e3]))

/-! ### spec_l11Power -/
theorem spec_l11Power_loop (b n : Nat) (hb : b ≤ 4) (hn : n ≤ 20) (d : Nat) : ∀ i : Nat, i + d = n → Ev (fun k => spec_l11Power.l0 k (b : Int) (n : Int) ((b ^ i : Nat) : Int) (i : Int)) ((b ^ n : Nat) : Int) := by
  induction d with
  | zero =>
    intro i h
    have : i = n := by omega
    subst this
    refine Ev_succ ?_
    simp only [spec_l11Power.l0]
    exact Ev_neg (by omega) (Ev.now _)
  | succ d ih =>
    intro i h
    refine Ev_succ ?_
    simp only [spec_l11Power.l0]
    rw [pow_step b i hb (by omega), wsucc (n := i) (by omega)]
    exact Ev_pos (by omega) (ih (i + 1) (by omega))

theorem spec_l11Power_ev (b n : Nat) (hb : b ≤ 4) (hn : n ≤ 20) : Ev (fun k => spec_l11Power.f k (b : Int) (n : Int)) ((b ^ n : Nat) : Int) := by
  unfold spec_l11Power.f
  have := spec_l11Power_loop b n hb hn n 0 (Nat.zero_add _)
  simpa using this

/-! ### spec_IsRelation -/
theorem spec_IsRelation_l1 (b t : Int) (l : List (List Int)) (acc : List Bool) (hl : l.length ≤ 48) (hr : ∀ x ∈ l, x.length ≤ 1048576) (i : Nat) (hi : i < l.length) (R : Bool) (hR : Ev (fun k => spec_IsRelation.l0 k ((i + 1 : Nat) : Int) b t l acc) R) (d : Nat) :
    ∀ n : Nat, n + d = (l.getD i []).length → Ev (fun k => spec_IsRelation.l1 k (i : Int) (n : Int) b t l acc) (decide (RowIn l.length ((l.getD i []).drop n)) && R) := by
  have hrow := hr (l.getD i []) (by rw [getD_eq hi]; exact List.getElem_mem _)
  induction d with
  | zero =>
    intro n h
    refine Ev_succ ?_
    simp only [spec_IsRelation.l1, rd_L1, Int.toNat_natCast]
    rw [wsucc (n := i) (by omega)]
    refine Ev_pos (by omega) (Ev_pos (by omega) (Ev_neg (by omega) (Ev_eq hR ?_)))
    rw [List.drop_of_length_le (by omega)]
    simp [RowIn]
  | succ d ih =>
    intro n h
    refine Ev_succ ?_
    simp only [spec_IsRelation.l1, rd_L1, Int.toNat_natCast, rd_cast]
    rw [wsucc (n := n) (by omega), drop_cons (l.getD i []) n 0 (by omega)]
    refine Ev_pos (by omega) (Ev_pos (by omega) (Ev_pos (by omega) (Ev_pos (by omega) ?_)))
    refine Ev_ite (fun h1 => Ev_some ?_) (fun h1 => Ev_ite (fun h2 => Ev_some ?_) (fun h2 => Ev_eq (ih (n + 1) (by omega)) ?_))
    · rw [decide_eq_false (fun e => by have := e _ List.mem_cons_self; omega)]; rfl
    · rw [decide_eq_false (fun e => by have := e _ List.mem_cons_self; omega)]; rfl
    · congr 1
      rw [decide_eq_decide]
      constructor
      · intro e v hv
        rcases List.mem_cons.1 hv with rfl | hv
        · exact ⟨by omega, by omega⟩
        · exact e v hv
      · exact fun e v hv => e v (List.mem_cons_of_mem _ hv)

theorem spec_IsRelation_l0 (b t : Int) (hb : b = 2 ∨ b = 3) (ht : 0 ≤ t ∧ t ≤ 3) (l : List (List Int)) (acc : List Bool) (hn : 1 ≤ l.length) (hl : l.length ≤ 48) (hr : ∀ x ∈ l, x.length ≤ 1048576) (d : Nat) :
    ∀ i : Nat, i + d = l.length → (0 < i → (l.getD 0 []).length = b.toNat ^ t.toNat) → Ev (fun k => spec_IsRelation.l0 k (i : Int) b t l acc) (decide (RelRows l.length (b.toNat ^ t.toNat) (l.drop i)) && ((l.getD 0 []).getD 0 0 == 0)) := by
  have hp := base_pow_pos b t hb
  have he := spec_l11Power_ev b.toNat t.toNat (by omega) (by omega)
  rw [show ((b.toNat : Nat) : Int) = b by omega, show ((t.toNat : Nat) : Int) = t by omega] at he
  induction d with
  | zero =>
    intro i h h0
    have := h0 (by omega)
    refine Ev_succ ?_
    simp only [spec_IsRelation.l0, rd_L1, Int.toNat_zero]
    refine Ev_neg (by omega) (Ev_pos (by omega) (Ev_pos (by omega) (Ev_some ?_)))
    rw [List.drop_of_length_le (by omega)]
    simp [RelRows, rd]
  | succ d ih =>
    intro i h h0
    refine Ev_succ ?_
    simp only [spec_IsRelation.l0, rd_L1, Int.toNat_natCast, spec_l13Letters.f]
    rw [drop_cons l i [] (by omega)]
    refine Ev_pos (by omega) (Ev_pos (by omega) (Ev_call _ (Ev_call _ he (Ev.now _)) ?_))
    refine Ev_ite (fun h1 => ?_) (fun h1 => Ev_some ?_)
    · have hi := ih (i + 1) (by omega) (fun _ => ?_)
      · have := spec_IsRelation_l1 b t l acc hl hr i (by omega) _ hi _ 0 (Nat.zero_add _)
        refine Ev_eq this ?_
        rw [← Bool.and_assoc, List.drop_zero]
        congr 1
        rw [← Bool.decide_and, decide_eq_decide]
        constructor
        · rintro ⟨e1, e2⟩ r hr
          rcases List.mem_cons.1 hr with rfl | hr
          · exact ⟨by omega, e1⟩
          · exact e2 r hr
        · exact fun e => ⟨(e _ List.mem_cons_self).2, fun r hr => e r (List.mem_cons_of_mem _ hr)⟩
      · by_cases c : i = 0
        · subst c; omega
        · exact h0 (by omega)
    · rw [decide_eq_false (fun e => by have := (e _ List.mem_cons_self).1; omega)]; rfl

theorem spec_IsRelation_ev (b t : Int) (l : List (List Int)) (acc : List Bool) (hl : l.length ≤ 1048576) (hr : ∀ x ∈ l, x.length ≤ 1048576) (ha : acc.length ≤ 1048576) :
    Ev (fun k => spec_IsRelation.f k b t l acc) (relIn b t l acc) := by
  have no : ¬ ((b = 2 ∨ b = 3) ∧ (0 ≤ t ∧ t ≤ 3) ∧ (1 ≤ l.length ∧ l.length ≤ 48) ∧ acc.length = l.length) → Ev (fun k => spec_IsRelation.j0 k true b t l acc) (relIn b t l acc) := by
    intro h
    refine Ev_succ ?_
    simp only [spec_IsRelation.j0]
    refine Ev_pos (by simp) (Ev_some ?_)
    unfold relIn
    rw [decide_eq_false h]; rfl
  have l1 : ∀ a x y : Int, spec_l1In.f a x y = some (decide (x ≤ a ∧ a ≤ y)) := by
    intro a x y
    unfold spec_l1In.f
    by_cases c : a ≥ x
    · rw [if_pos c]; congr 1; rw [decide_eq_decide]; omega
    · rw [if_neg c]; congr 1; symm; rw [decide_eq_false_iff_not]; omega
  unfold spec_IsRelation.f
  rw [l1, l1, l1]
  simp only [Option.bind_some]
  refine Ev_ite (fun h1 => Ev_ite (fun h2 => Ev_ite (fun h3 => ?_) (fun h => no ?_)) (fun h => no ?_)) (fun h => no ?_)
  · rw [decide_eq_true_eq] at h1 h2 h3
    by_cases c : acc.length = l.length
    · refine Ev_succ ?_
      simp only [spec_IsRelation.j0]
      refine Ev_neg (by simp [c]) ?_
      refine Ev_eq (spec_IsRelation_l0 b t (by omega) h2 l acc (by omega) (by omega) hr _ 0 (Nat.zero_add _) (fun h => by omega)) ?_
      unfold relIn
      rw [decide_eq_true (p := (b = 2 ∨ b = 3) ∧ _) ⟨by omega, h2, by omega, c⟩, List.drop_zero]
      rfl
    · rw [show (((acc.length : Int)) != (l.length : Int)) = true by rw [bne_iff_ne]; omega]
      exact no (fun e => c e.2.2.2)
  · rw [decide_eq_true_eq] at h; omega
  · rw [decide_eq_true_eq] at h; omega
  · rw [decide_eq_true_eq] at h; omega

/-! ### impl_power -/
theorem impl_power_loop (b n : Nat) (hb : b ≤ 4) (hn : n ≤ 20) (d : Nat) : ∀ i : Nat, i + d = n → Ev (fun k => impl_power.l0 k (b : Int) ((b ^ i : Nat) : Int) (n : Int) (i : Int)) ((b ^ n : Nat) : Int) := by
  induction d with
  | zero =>
    intro i h
    have : i = n := by omega
    subst this
    refine Ev_succ ?_
    simp only [impl_power.l0]
    exact Ev_neg (by omega) (Ev.now _)
  | succ d ih =>
    intro i h
    refine Ev_succ ?_
    simp only [impl_power.l0]
    rw [pow_step b i hb (by omega), wsucc (n := i) (by omega)]
    exact Ev_pos (by omega) (ih (i + 1) (by omega))

theorem impl_power_ev (b n : Nat) (hb : b ≤ 4) (hn : n ≤ 20) : Ev (fun k => impl_power.f k (b : Int) (n : Int)) ((b ^ n : Nat) : Int) := by
  unfold impl_power.f
  have := impl_power_loop b n hb hn n 0 (Nat.zero_add _)
  simpa using this

/-! ### impl_IsRelation -/
theorem impl_IsRelation_l1 (b t : Int) (l : List (List Int)) (acc : List Bool) (hl : l.length ≤ 48) (i : Nat) (row : List Int) (hrow : row.length ≤ 1048576) (hi : i < l.length) (R : Bool) (hR : Ev (fun k => impl_IsRelation.l0 k (l.length : Int) l (l.length : Int) ((i + 1 : Nat) : Int) b t l acc) R) (d : Nat) :
    ∀ n : Nat, n + d = row.length → Ev (fun k => impl_IsRelation.l1 k (l.length : Int) l (l.length : Int) (i : Int) row (row.length : Int) (n : Int) b t l acc) (decide (RowIn l.length (row.drop n)) && R) := by
  induction d with
  | zero =>
    intro n h
    refine Ev_succ ?_
    simp only [impl_IsRelation.l1]
    rw [wsucc (n := i) (by omega)]
    refine Ev_neg (by omega) (Ev_eq hR ?_)
    rw [List.drop_of_length_le (by omega)]
    simp [RowIn]
  | succ d ih =>
    intro n h
    refine Ev_succ ?_
    simp only [impl_IsRelation.l1, rd_cast]
    rw [wsucc (n := n) (by omega), drop_cons row n 0 (by omega)]
    refine Ev_pos (by omega) (Ev_pos (by omega) (Ev_pos (by omega) ?_))
    refine Ev_ite (fun h1 => Ev_some ?_) (fun h1 => Ev_ite (fun h2 => Ev_some ?_) (fun h2 => Ev_eq (ih (n + 1) (by omega)) ?_))
    · rw [decide_eq_false (fun e => by have := e _ List.mem_cons_self; omega)]; rfl
    · rw [decide_eq_false (fun e => by have := e _ List.mem_cons_self; omega)]; rfl
    · congr 1
      rw [decide_eq_decide]
      constructor
      · intro e v hv
        rcases List.mem_cons.1 hv with rfl | hv
        · exact ⟨by omega, by omega⟩
        · exact e v hv
      · exact fun e v hv => e v (List.mem_cons_of_mem _ hv)

theorem impl_IsRelation_l0 (b t : Int) (hb : b = 2 ∨ b = 3) (ht : 0 ≤ t ∧ t ≤ 3) (l : List (List Int)) (acc : List Bool) (hn : 1 ≤ l.length) (hl : l.length ≤ 48) (hr : ∀ x ∈ l, x.length ≤ 1048576) (d : Nat) :
    ∀ i : Nat, i + d = l.length → (0 < i → (l.getD 0 []).length = b.toNat ^ t.toNat) → Ev (fun k => impl_IsRelation.l0 k (l.length : Int) l (l.length : Int) (i : Int) b t l acc) (decide (RelRows l.length (b.toNat ^ t.toNat) (l.drop i)) && ((l.getD 0 []).getD 0 0 == 0)) := by
  have hp := base_pow_pos b t hb
  have he := impl_power_ev b.toNat t.toNat (by omega) (by omega)
  rw [show ((b.toNat : Nat) : Int) = b by omega, show ((t.toNat : Nat) : Int) = t by omega] at he
  induction d with
  | zero =>
    intro i h h0
    have := h0 (by omega)
    refine Ev_succ ?_
    simp only [impl_IsRelation.l0, rd_L1, Int.toNat_zero]
    refine Ev_neg (by omega) (Ev_pos (by omega) (Ev_pos (by omega) (Ev_some ?_)))
    rw [List.drop_of_length_le (by omega)]
    simp [RelRows, rd]
  | succ d ih =>
    intro i h h0
    have hrow := hr (l.getD i []) (by rw [getD_eq (by omega)]; exact List.getElem_mem _)
    refine Ev_succ ?_
    simp only [impl_IsRelation.l0, rd_L1, Int.toNat_natCast]
    rw [drop_cons l i [] (by omega)]
    refine Ev_pos (by omega) (Ev_pos (by omega) (Ev_pos (by omega) (Ev_call _ he ?_)))
    refine Ev_ite (fun h1 => ?_) (fun h1 => Ev_some ?_)
    · have hi := ih (i + 1) (by omega) (fun _ => ?_)
      · have := impl_IsRelation_l1 b t l acc hl i (l.getD i []) hrow (by omega) _ hi _ 0 (Nat.zero_add _)
        refine Ev_eq this ?_
        rw [← Bool.and_assoc, List.drop_zero]
        congr 1
        rw [← Bool.decide_and, decide_eq_decide]
        constructor
        · rintro ⟨e1, e2⟩ r hr
          rcases List.mem_cons.1 hr with rfl | hr
          · exact ⟨by omega, e1⟩
          · exact e2 r hr
        · exact fun e => ⟨(e _ List.mem_cons_self).2, fun r hr => e r (List.mem_cons_of_mem _ hr)⟩
      · by_cases c : i = 0
        · subst c; omega
        · exact h0 (by omega)
    · rw [decide_eq_false (fun e => by have := (e _ List.mem_cons_self).1; omega)]; rfl

theorem impl_IsRelation_ev (b t : Int) (l : List (List Int)) (acc : List Bool) (hl : l.length ≤ 1048576) (hr : ∀ x ∈ l, x.length ≤ 1048576) (ha : acc.length ≤ 1048576) :
    Ev (fun k => impl_IsRelation.f k b t l acc) (relIn b t l acc) := by
  have no : ¬ ((b = 2 ∨ b = 3) ∧ (0 ≤ t ∧ t ≤ 3) ∧ (1 ≤ l.length ∧ l.length ≤ 48) ∧ acc.length = l.length) → Ev (fun k => impl_IsRelation.j0 k (l.length : Int) true b t l acc) (relIn b t l acc) := by
    intro h
    refine Ev_succ ?_
    simp only [impl_IsRelation.j0]
    refine Ev_pos (by simp) (Ev_some ?_)
    unfold relIn
    rw [decide_eq_false h]; rfl
  have sb : impl_isSmallBase.f b = some (decide (b = 2 ∨ b = 3)) := by
    unfold impl_isSmallBase.f
    by_cases c : b = 2
    · rw [if_pos c]; simp [c]
    · rw [if_neg c]; congr 1; simp [c]; by_cases d : b = 3 <;> simp [d]
  unfold impl_IsRelation.f
  rw [sb]
  simp only [Option.bind_some]
  refine Ev_ite (fun h1 => Ev_ite (fun h => no (by omega)) (fun h2 => Ev_ite (fun h => no (by omega)) (fun h3 => Ev_ite (fun h => no (by omega)) (fun h4 => Ev_ite (fun h => no (by omega)) (fun h5 => ?_))))) (fun h => no (fun e => h (by simpa using e.1)))
  rw [decide_eq_true_eq] at h1
  by_cases c : acc.length = l.length
  · refine Ev_succ ?_
    simp only [impl_IsRelation.j0]
    refine Ev_neg (by simp [c]) ?_
    refine Ev_eq (impl_IsRelation_l0 b t h1 (by omega) l acc (by omega) (by omega) hr _ 0 (Nat.zero_add _) (fun h => by omega)) ?_
    unfold relIn
    rw [decide_eq_true (p := (b = 2 ∨ b = 3) ∧ _) ⟨h1, by omega, by omega, c⟩, List.drop_zero]
    rfl
  · rw [show (((acc.length : Int)) != (l.length : Int)) = true by rw [bne_iff_ne]; omega]
    exact no (fun e => c e.2.2.2)

theorem FnExactIsRelation (b t : Int) (l : List (List Int)) (acc : List Bool) (hm : l.length ≤ maxLen) (hr : ∀ r ∈ l, r.length ≤ maxLen) (ha : acc.length ≤ maxLen) :
    ∃ k, laws_FnExactIsRelation.f k b t l acc = some true := by
  refine Ev.rounds ?_
  unfold laws_FnExactIsRelation.f
  obtain ⟨r, s1, s2⟩ := laws_szRelation_ev b t l acc hm hr ha
  refine Ev_call _ s1 (Ev_ite (fun _ => Ev.now _) (fun h => ?_))
  obtain ⟨m1, m2, m3⟩ := s2.resolve_left h
  have t1 := laws_toRelation_ev b t l acc m1 m2 m3
  have h1 := spec_IsRelation_ev b t l acc m1 m2 m3
  have h2 := impl_IsRelation_ev b t l acc m1 m2 m3
  have h3 := laws_eqRelation_ev b t l acc b t l acc m1 m2 m3
  refine Ev_call _ t1 ?_
  dsimp only
  refine Ev_call _ h1 (Ev_call _ t1 ?_)
  dsimp only
  refine Ev_call _ h2 (Ev_neg (by simp) (Ev_call _ t1 ?_))
  dsimp only
  exact Ev_call _ h3 (Ev_pos (by simp) (Ev.now _))

end Go.Proofs.Ytoaonfacjcienab.Pure
