/- What the law FnExactFactorsOf is told of its functions: both answer one list of rows. -/
import Derived.Test.YtolikggioekalabWalkFnExactFactorsOf
import Derived.Test.YtolikggioekalabG0
import Derived.Test.YtolikggioekalabGSized
import Derived.Test.YtolikggioekalabGMarks
import Derived.Test.YtolikggioekalabGShort
import Derived.Test.YtolikggioekalabGMor
import Derived.Test.YtolikggioekalabGSort
import Derived.Test.YtolikggioekalabG5
namespace Go.Proofs.Ytolikggioekalab.Pure
open Go.RowKit Go.Proofs.Ytolikggioekalab.PFnExactFactorsOf Go.Proofs.YtolikggioekalabW.PrintWords Go.Proofs.YtolikggioekalabW.PrintLast Go.Proofs.YtolikggioekalabW.PrintMore Go.Proofs.Ytolikggioekalab.G
set_option linter.unusedVariables false
set_option linter.unusedSimpArgs false

/-! ### laws_toIntS -/
theorem laws_toIntS_loop (l : List Int) (hb : l.length ≤ 17592186044416) (d : Nat) : ∀ (n : Nat) (acc : List Int), acc.length = l.length → n ≤ l.length → l.length - n = d → acc.take n = l.take n →
    Ev (fun k => laws_toIntS.l0 k l acc (n : Int)) l := by
  induction d with
  | zero =>
    intro n acc h0 h1 h2 h3
    refine Ev_succ ?_
    simp only [laws_toIntS.l0]
    refine Ev_neg (by omega) (Ev_some ?_)
    have : n = l.length := by omega
    subst this
    rw [List.take_length, ← h0, List.take_length] at h3
    exact h3
  | succ d ih =>
    intro n acc h0 h1 h2 h3
    refine Ev_succ ?_
    simp only [laws_toIntS.l0]
    refine Ev_pos (by omega) (Ev_pos (by omega) (Ev_pos (by omega) ?_))
    rw [rd_cast, wsucc (by omega), Int.toNat_natCast]
    refine ih (n + 1) _ (by simpa using h0) (by omega) (by omega) ?_
    rw [set_take_succ acc n _ (by omega), take_succ_getD l n 0 (by omega), h3]

theorem laws_toIntS_ev (l : List Int) (hb : l.length ≤ 17592186044416) : Ev (fun k => laws_toIntS.f k l) l := by
  unfold laws_toIntS.f
  refine Ev_pos (by omega) (Ev_pos (by omega) ?_)
  exact laws_toIntS_loop l hb _ 0 _ (by simp) (by omega) rfl (by simp)

/-! ### laws_eqIntS -/
theorem laws_eqIntS_loop (a b : List Int) (hl : a.length = b.length) (hb : a.length ≤ 17592186044416) (d : Nat) : ∀ n : Nat, n ≤ a.length → a.length - n = d → a.take n = b.take n →
    Ev (fun k => laws_eqIntS.l0 k a b (n : Int)) (decide (a = b)) := by
  induction d with
  | zero =>
    intro n h1 h2 h3
    refine Ev_succ ?_
    simp only [laws_eqIntS.l0]
    refine Ev_neg (by omega) (Ev_some ?_)
    have : n = a.length := by omega
    subst this
    rw [List.take_length, hl, List.take_length] at h3
    simp [h3]
  | succ d ih =>
    intro n h1 h2 h3
    refine Ev_succ ?_
    simp only [laws_eqIntS.l0]
    refine Ev_pos (by omega) (Ev_pos (by omega) (Ev_pos (by omega) ?_))
    rw [rd_cast, rd_cast, wsucc (by omega)]
    refine Ev_ite (fun h => ?_) (fun h => Ev_some ?_)
    · refine ih (n + 1) (by omega) (by omega) ?_
      rw [take_succ_getD a n 0 (by omega), take_succ_getD b n 0 (by omega), h3, h]
    · symm
      rw [decide_eq_false_iff_not]
      intro e
      exact h (by rw [e])

theorem laws_eqIntS_ev (a b : List Int) (hb : a.length ≤ 17592186044416) : Ev (fun k => laws_eqIntS.f k a b) (decide (a = b)) := by
  unfold laws_eqIntS.f
  refine Ev_ite (fun h => ?_) (fun h => Ev_some ?_)
  · exact laws_eqIntS_loop a b (by omega) hb _ 0 (by omega) rfl (by simp)
  · symm
    rw [decide_eq_false_iff_not]
    intro e
    exact h (by rw [e])

/-! ### laws_eqIntSS -/
theorem laws_eqIntSS_loop (a b : List (List Int)) (hl : a.length = b.length) (hb : a.length ≤ 1048576) (hr : ∀ x ∈ a, x.length ≤ 17592186044416) (d : Nat) : ∀ n : Nat, n + d = a.length → a.take n = b.take n →
    Ev (fun k => laws_eqIntSS.l0 k a b (n : Int)) (decide (a = b)) := by
  induction d with
  | zero =>
    intro n h1 h2
    refine Ev_succ ?_
    simp only [laws_eqIntSS.l0]
    refine Ev_neg (by omega) (Ev_some ?_)
    have : n = a.length := by omega
    subst this
    rw [List.take_length, hl, List.take_length] at h2
    simp [h2]
  | succ d ih =>
    intro n h1 h2
    refine Ev_succ ?_
    simp only [laws_eqIntSS.l0, rd_L1, Int.toNat_natCast]
    have hrow := hr (a.getD n []) (by rw [getD_eq (by omega)]; exact List.getElem_mem _)
    refine Ev_pos (by omega) (Ev_pos (by omega) (Ev_pos (by omega) (Ev_call _ (laws_eqIntS_ev _ _ hrow) ?_)))
    rw [wsucc (n := n) (by omega)]
    refine Ev_ite (fun h => ?_) (fun h => Ev_some ?_)
    · rw [decide_eq_true_eq] at h
      refine ih (n + 1) (by omega) ?_
      rw [take_succ_getD a n [] (by omega), take_succ_getD b n [] (by omega), h2, h]
    · rw [decide_eq_true_eq] at h
      symm
      rw [decide_eq_false_iff_not]
      intro e
      exact h (by rw [e])

theorem laws_eqIntSS_ev (a b : List (List Int)) (hb : a.length ≤ 1048576) (hr : ∀ x ∈ a, x.length ≤ 17592186044416) : Ev (fun k => laws_eqIntSS.f k a b) (decide (a = b)) := by
  unfold laws_eqIntSS.f
  refine Ev_ite (fun h => ?_) (fun h => Ev_some ?_)
  · exact laws_eqIntSS_loop a b (by omega) hb hr _ 0 (Nat.zero_add _) (by simp)
  · symm
    rw [decide_eq_false_iff_not]
    intro e
    exact h (by rw [e])

/-! ### laws_markIntS -/
theorem laws_markIntS_loop (L : Nat) (m : Int) (hm : 0 ≤ m) (hm2 : m ≤ 17592186044416) (hb : L ≤ 17592186044416) (d : Nat) : ∀ (n : Nat) (acc : List Int), acc.length = L → n ≤ L → L - n = d → acc.take n = iota m n →
    Ev (fun k => laws_markIntS.l0 k acc (m + n) (n : Int)) (m + L, iota m L) := by
  induction d with
  | zero =>
    intro n acc h0 h1 h2 h3
    refine Ev_succ ?_
    simp only [laws_markIntS.l0]
    refine Ev_neg (by omega) (Ev_some ?_)
    have : n = L := by omega
    subst this
    rw [← h3, ← h0, List.take_length]
  | succ d ih =>
    intro n acc h0 h1 h2 h3
    refine Ev_succ ?_
    simp only [laws_markIntS.l0]
    refine Ev_pos (by omega) (Ev_pos (by omega) ?_)
    rw [wsucc (by omega), Int.toNat_natCast, w64 (n := m + (n : Int) + 1) (by omega) (by omega)]
    have e : m + (n : Int) + 1 = m + ((n + 1 : Nat) : Int) := by omega
    rw [e]
    refine ih (n + 1) _ (by simpa using h0) (by omega) (by omega) ?_
    rw [set_take_succ acc n _ (by omega), h3, iota_succ]

theorem laws_markIntS_ev (l : List Int) (m : Int) (hm : 0 ≤ m) (hm2 : m ≤ 17592186044416) (hb : l.length ≤ 17592186044416) : Ev (fun k => laws_markIntS.f k l m) (m + l.length, iota m l.length) := by
  unfold laws_markIntS.f
  have := laws_markIntS_loop l.length m hm hm2 hb _ 0 l rfl (by omega) rfl (by simp [iota])
  simpa using this

/-! ### laws_markIntSS -/
theorem laws_markIntSS_loop (rest : List (List Int)) : ∀ (pre : List (List Int)) (a : Int), 0 ≤ a → a + total rest ≤ 17592186044416 → (pre ++ rest).length ≤ 17592186044416 →
    Ev (fun k => laws_markIntSS.l0 k (pre ++ rest) a ((pre.length : Nat) : Int)) (a + total rest, pre ++ marks a rest) := by
  induction rest with
  | nil =>
    intro pre a h0 h1 h2
    refine Ev_succ ?_
    simp only [laws_markIntSS.l0]
    exact Ev_neg (by simp) (Ev_some (by simp [total, marks]))
  | cons r rs ih =>
    intro pre a h0 h1 h2
    simp only [total] at h1
    simp only [List.length_append, List.length_cons] at h2
    have hm := laws_markIntS_ev r a h0 (by omega) (by omega)
    refine Ev_succ ?_
    simp only [laws_markIntSS.l0, rd_L1, Int.toNat_natCast, getD_pre, set_pre]
    refine Ev_pos (by simp; omega) (Ev_pos (by omega) (Ev_call _ hm ?_))
    rw [wsucc (by omega)]
    have := ih (pre ++ [iota a r.length]) (a + r.length) (by omega) (by omega) (by simp; omega)
    simp only [List.length_append, List.length_cons, List.length_nil] at this
    refine Ev_eq this ?_
    simp only [total, marks, List.append_assoc, List.cons_append, List.nil_append, Int.natCast_add]
    congr 1
    omega

theorem laws_markIntSS_ev (l : List (List Int)) (a : Int) (h0 : 0 ≤ a) (h1 : a + total l ≤ 17592186044416) (h2 : l.length ≤ 17592186044416) : Ev (fun k => laws_markIntSS.f k l a) (a + total l, marks a l) := by
  unfold laws_markIntSS.f
  have := laws_markIntSS_loop l [] a h0 h1 (by simpa using h2)
  simpa using this

/-! ### laws_heldIntS -/
theorem laws_heldIntS_loop (L : Nat) (m : Int) (hm : 0 ≤ m) (hm2 : m ≤ 17592186044416) (hb : L ≤ 17592186044416) (d : Nat) : ∀ (n : Nat), n ≤ L → L - n = d →
    Ev (fun k => laws_heldIntS.l0 k (iota m L) (m + n) (n : Int)) (m + L) := by
  induction d with
  | zero =>
    intro n h1 h2
    refine Ev_succ ?_
    simp only [laws_heldIntS.l0]
    refine Ev_neg (by rw [iota_length]; omega) (Ev_some ?_)
    omega
  | succ d ih =>
    intro n h1 h2
    refine Ev_succ ?_
    simp only [laws_heldIntS.l0]
    refine Ev_pos (by rw [iota_length]; omega) (Ev_pos (by omega) ?_)
    rw [rd_cast, iota_getD m L n (by omega)]
    refine Ev_pos rfl ?_
    rw [wsucc (by omega), w64 (n := m + (n : Int) + 1) (by omega) (by omega)]
    have e : m + (n : Int) + 1 = m + ((n + 1 : Nat) : Int) := by omega
    rw [e]
    exact ih (n + 1) (by omega) (by omega)

theorem laws_heldIntS_ev (L : Nat) (m : Int) (hm : 0 ≤ m) (hm2 : m ≤ 17592186044416) (hb : L ≤ 17592186044416) : Ev (fun k => laws_heldIntS.f k (iota m L) m) (m + L) := by
  unfold laws_heldIntS.f
  have := laws_heldIntS_loop L m hm hm2 hb _ 0 (by omega) rfl
  simpa using this

/-! ### laws_heldIntSS -/
theorem laws_heldIntSS_loop (rest : List (List Int)) : ∀ (pre : List (List Int)) (a : Int), 0 ≤ a → a + total rest ≤ 17592186044416 → (pre ++ rest).length ≤ 17592186044416 →
    Ev (fun k => laws_heldIntSS.l0 k (pre ++ marks a rest) a ((pre.length : Nat) : Int)) (a + total rest) := by
  induction rest with
  | nil =>
    intro pre a h0 h1 h2
    refine Ev_succ ?_
    simp only [laws_heldIntSS.l0]
    exact Ev_neg (by simp [marks]) (Ev_some (by simp [total]))
  | cons r rs ih =>
    intro pre a h0 h1 h2
    simp only [total] at h1
    simp only [List.length_append, List.length_cons] at h2
    have hm := laws_heldIntS_ev r.length a h0 (by omega) (by omega)
    refine Ev_succ ?_
    simp only [laws_heldIntSS.l0, rd_L1, Int.toNat_natCast, marks, getD_pre]
    refine Ev_pos (by simp; omega) (Ev_pos (by omega) (Ev_call _ hm (Ev_neg (by omega) ?_)))
    rw [wsucc (by omega)]
    have := ih (pre ++ [iota a r.length]) (a + r.length) (by omega) (by omega) (by simp; omega)
    simp only [List.length_append, List.length_cons, List.length_nil, List.append_assoc, List.cons_append, List.nil_append] at this
    refine Ev_eq this ?_
    simp only [total]
    omega

theorem laws_heldIntSS_ev (l : List (List Int)) (a : Int) (h0 : 0 ≤ a) (h1 : a + total l ≤ 17592186044416) (h2 : l.length ≤ 17592186044416) : Ev (fun k => laws_heldIntSS.f k (marks a l) a) (a + total l) := by
  unfold laws_heldIntSS.f
  have := laws_heldIntSS_loop l [] a h0 h1 (by simpa using h2)
  simpa using this

/-! ### spec_l1In -/
theorem spec_l1In_eq (x a b : Int) : spec_l1In.f x a b = some (decide (a ≤ x ∧ x ≤ b)) := by
  unfold spec_l1In.f
  by_cases h : x ≥ a
  · rw [if_pos h]; simp [h]
  · rw [if_neg h]; congr 1; symm; rw [decide_eq_false_iff_not]; omega

/-! ### spec_IsWord -/
theorem spec_IsWord_loop (w : List Int) (n : Nat) (hw : w.length ≤ 1048576) (hn : n ≤ 1048576) (d : Nat) : ∀ i : Nat, i + d = w.length →
    Ev (fun k => spec_IsWord.l0 k w (n : Int) (i : Int)) (decide (RowIn n (w.drop i) ∧ (1 ≤ n ∧ n ≤ 16) ∧ w.length ≤ 400)) := by
  induction d with
  | zero =>
    intro i h
    refine Ev_succ ?_
    simp only [spec_IsWord.l0]
    have e : w.drop i = [] := List.drop_of_length_le (by omega)
    rw [e]
    refine Ev_neg (by omega) ?_
    by_cases c : 1 ≤ n ∧ n ≤ 16
    · refine Ev_call true (Ev_const ?_) (Ev_pos rfl (Ev_some ?_))
      · unfold spec_l1In.f; rw [if_pos (by omega)]; congr 1; simp; omega
      · rw [decide_eq_decide]; constructor
        · exact fun h => ⟨by simp [RowIn], c, by omega⟩
        · exact fun h => by have := h.2.2; omega
    · refine Ev_call false (Ev_const ?_) (Ev_neg (by simp) (Ev_some ?_))
      · unfold spec_l1In.f
        by_cases c1 : (n : Int) ≥ 1
        · rw [if_pos c1]; congr 1; simp; omega
        · rw [if_neg c1]
      · symm; rw [decide_eq_false_iff_not]; exact fun h => c h.2.1
  | succ d ih =>
    intro i h
    refine Ev_succ ?_
    simp only [spec_IsWord.l0, rd_cast]
    rw [wsucc (n := i) (by omega), drop_cons w i 0 (by omega)]
    refine Ev_pos (by omega) (Ev_pos (by omega) ?_)
    refine Ev_ite (fun h1 => Ev_some ?_) (fun h1 => Ev_ite (fun h2 => Ev_some ?_) (fun h2 => Ev_eq (ih (i + 1) (by omega)) ?_))
    · symm; rw [decide_eq_false_iff_not]; intro e; have := e.1 _ List.mem_cons_self; omega
    · symm; rw [decide_eq_false_iff_not]; intro e; have := e.1 _ List.mem_cons_self; omega
    · rw [decide_eq_decide]
      constructor
      · rintro ⟨e, e2⟩
        refine ⟨fun v hv => ?_, e2⟩
        rcases List.mem_cons.1 hv with rfl | hv
        · exact ⟨by omega, by omega⟩
        · exact e v hv
      · exact fun ⟨e, e2⟩ => ⟨fun v hv => e v (List.mem_cons_of_mem _ hv), e2⟩

theorem spec_IsWord_ev (w : List Int) (n : Nat) (hw : w.length ≤ 1048576) (hn : n ≤ 1048576) : Ev (fun k => spec_IsWord.f k w (n : Int)) (okWord w n) := by
  unfold spec_IsWord.f okWord
  have := spec_IsWord_loop w n hw hn w.length 0 (by omega)
  rwa [List.drop_zero] at this

/-! ### spec_CompareWords -/
theorem spec_CompareWords_loop (u v : List Int) (hu : u.length ≤ 1048576) (d : Nat) : ∀ n : Nat, n + d = u.length → n ≤ v.length →
    Ev (fun k => spec_CompareWords.l0 k u v (n : Int)) (cmpW (u.drop n) (v.drop n)) := by
  induction d with
  | zero =>
    intro n h h2
    have hn : n = u.length := by omega
    subst hn
    refine Ev_succ ?_
    simp only [spec_CompareWords.l0]
    refine Ev_neg (by omega) (Ev_succ ?_)
    simp only [spec_CompareWords.j1]
    refine Ev_neg (by simp) ?_
    rw [List.drop_length, cmpW_nil_left]
    by_cases c : u.length < v.length
    · refine Ev_pos (by omega) (Ev_some ?_)
      rw [if_neg (by simp; omega)]
    · refine Ev_neg (by omega) (Ev_neg (by omega) (Ev_some ?_))
      rw [if_pos (by simp; omega)]
  | succ d ih =>
    intro n h h2
    refine Ev_succ ?_
    simp only [spec_CompareWords.l0]
    refine Ev_pos (by omega) (Ev_succ ?_)
    simp only [spec_CompareWords.j1]
    by_cases c : n < v.length
    · refine Ev_pos (by simp; omega) (Ev_pos (by omega) (Ev_pos (by omega) (Ev_pos (by omega) ?_)))
      rw [rd_cast, rd_cast, drop_cons u n 0 (by omega), drop_cons v n 0 c, cmpW_cons, wsucc (by omega)]
      refine Ev_ite (fun g => Ev_some ?_) (fun g => ?_)
      · rw [if_pos g]
      · rw [if_neg g]
        refine Ev_ite (fun g2 => Ev_some ?_) (fun g2 => ?_)
        · rw [if_pos g2]
        · rw [if_neg g2]
          exact ih (n + 1) (by omega) (by omega)
    · refine Ev_neg (by simp; omega) (Ev_neg (by omega) (Ev_pos (by omega) (Ev_some ?_)))
      rw [List.drop_eq_nil_of_le (show v.length ≤ n by omega), cmpW_nil_right, if_neg (by simp; omega)]

theorem spec_CompareWords_ev (u v : List Int) (hu : u.length ≤ 1048576) : Ev (fun k => spec_CompareWords.f k u v) (cmpW u v) := by
  unfold spec_CompareWords.f
  exact spec_CompareWords_loop u v hu _ 0 (Nat.zero_add _) (by omega)

/-! ### spec_l8Put -/
theorem spec_l8Put_loop (l : List (List Int)) (w : List Int) (hw : w.length ≤ 1048576) (hl : l.length ≤ 1048576) (d : Nat) : ∀ (n : Nat) (out : List (List Int)) (pl : Bool), n + d = l.length → out.length ≤ n + (if pl = true then 1 else 0) →
    Ev (fun k => spec_l8Put.l0 k l w out pl (n : Int)) (out ++ if pl = true then l.drop n else putW w (l.drop n)) := by
  induction d with
  | zero =>
    intro n out pl h1 h2
    have hn : n = l.length := by omega
    have h2' : out.length ≤ n + 1 := by split at h2 <;> omega
    refine Ev_succ ?_
    simp only [spec_l8Put.l0]
    refine Ev_neg (by omega) ?_
    rw [hn, List.drop_length]
    cases pl with
    | true => exact Ev_pos rfl (Ev_some (by simp))
    | false =>
      refine Ev_neg (by simp) ?_
      simp only [Option.bind_some]
      exact Ev_pos (by simp; omega) (Ev_pos (by omega) (Ev_some (by simp [putW])))
  | succ d ih =>
    intro n out pl h1 h2
    have h2' : out.length ≤ n + 1 := by split at h2 <;> omega
    refine Ev_succ ?_
    simp only [spec_l8Put.l0]
    refine Ev_pos (by omega) (Ev_pos (by omega) ?_)
    have hx : rd_L1 l (n : Int) = l.getD n [] := rfl
    rw [hx, drop_cons l n [] (by omega)]
    refine Ev_call _ (spec_CompareWords_ev w (l.getD n []) hw) ?_
    have step : ∀ (pl' : Bool) (out' : List (List Int)), out'.length ≤ n + 1 + (if pl' = true then 1 else 0) → Ev (fun k => spec_l8Put.l0 k l w out' pl' (wrap64 ((n : Int) + 1))) (out' ++ if pl' = true then l.drop (n + 1) else putW w (l.drop (n + 1))) := by
      intro pl' out' h
      rw [wsucc (by omega)]
      exact ih (n + 1) out' pl' (by omega) (by omega)
    by_cases c0 : cmpW w (l.getD n []) = 0
    · refine Ev_pos c0 (Ev_neg (by omega) (Ev_pos (by omega) (Ev_eq (step true _ (by simp; omega)) ?_)))
      rw [if_pos rfl, List.append_assoc]
      congr 1
      cases pl with
      | true => rfl
      | false => rw [if_neg (by simp), putW, if_neg (by omega), if_pos c0]; rfl
    · refine Ev_neg c0 ?_
      by_cases c1 : cmpW w (l.getD n []) < 0
      · refine Ev_pos c1 ?_
        cases pl with
        | true =>
          refine Ev_pos rfl (Ev_pos (by omega) (Ev_eq (step true _ (by simp; omega)) ?_))
          rw [if_pos rfl, if_pos rfl, List.append_assoc]
          rfl
        | false =>
          refine Ev_neg (by simp) ?_
          simp only [Option.bind_some]
          refine Ev_pos (by simp; omega) (Ev_pos (by omega) (Ev_pos (by simp; omega) (Ev_eq (step true _ (by simp at h2 ⊢; omega)) ?_)))
          rw [if_pos rfl, if_neg (by simp), putW, if_pos c1]
          simp
      · refine Ev_neg c1 (Ev_pos (by omega) (Ev_eq (step pl _ (by rw [List.length_append, List.length_singleton]; omega)) ?_))
        rw [List.append_assoc]
        congr 1
        cases pl with
        | true => rfl
        | false => rw [if_neg (by simp), if_neg (by simp), putW, if_neg c1, if_neg c0]; rfl

theorem spec_l8Put_ev (l : List (List Int)) (w : List Int) (hw : w.length ≤ 1048576) (hl : l.length ≤ 1048576) : Ev (fun k => spec_l8Put.f k l w) (putW w l) := by
  unfold spec_l8Put.f
  exact Ev_eq (spec_l8Put_loop l w hw hl l.length 0 [] false (by omega) (by simp)) (by simp)

/-! ### spec_FactorsOf -/
theorem spec_FactorsOf_loop (w : List Int) (hw : w.length ≤ 128) (n : Nat) (hn : n ≤ 40) (d : Nat) : ∀ i : Nat, i + d = w.length + 1 - n →
    Ev (fun k => spec_FactorsOf.l0 k w (n : Int) (canon (facsTo w n i)) (i : Int)) (facs w n, true) := by
  induction d with
  | zero =>
    intro i h
    refine Ev_succ ?_
    simp only [spec_FactorsOf.l0]
    rw [wnat (x := (i : Int) + (n : Int)) (i + n) (by omega) (by omega)]
    refine Ev_neg (by omega) (Ev_some ?_)
    rw [show i = w.length + 1 - n by omega]
    rfl
  | succ d ih =>
    intro i h
    refine Ev_succ ?_
    simp only [spec_FactorsOf.l0]
    rw [wnat (x := (i : Int) + (n : Int)) (i + n) (by omega) (by omega)]
    refine Ev_pos (by omega) (Ev_pos (by omega) (Ev_pos (by omega) ?_))
    rw [Int.toNat_natCast, Int.toNat_natCast, win_cut]
    have h1 := win_length (w := w) (n := n) (i := i) (by omega)
    have h2 := canon_length (facsTo w n i)
    rw [facsTo_length] at h2
    refine Ev_call _ (spec_l8Put_ev _ _ (by omega) (by omega)) ?_
    rw [← canon_snoc, ← facsTo_succ, wsucc (by omega)]
    exact ih (i + 1) (by omega)

theorem spec_FactorsOf_ev (w : List Int) (n : Int) (hb : w.length ≤ 1048576) : Ev (fun k => spec_FactorsOf.f k w n) (factR w n) := by
  unfold spec_FactorsOf.f
  simp only [Option.bind_some]
  refine Ev_call _ (spec_IsWord_ev w 16 hb (by omega)) ?_
  have no : ¬ factOk w n = true → Ev (fun k => spec_FactorsOf.j0 k w n [] true) (factR w n) := fun h => by
    refine Ev_succ ?_
    simp only [spec_FactorsOf.j0]
    exact Ev_pos (by simp) (Ev_some (by unfold factR; rw [if_neg h]))
  refine Ev_ite (fun h1 => Ev_ite (fun h2 => no (fun h => ?_)) (fun h2 => ?_)) (fun h1 => no (fun h => ?_))
  · have := shortW_le (factOk_iff.1 h).1; omega
  · simp only [spec_l1In_eq, Option.bind_some]
    by_cases c : 0 ≤ n ∧ n ≤ 40
    · rw [show (!decide (0 ≤ n ∧ n ≤ 40)) = false by simp [c]]
      refine Ev_succ ?_
      simp only [spec_FactorsOf.j0]
      obtain ⟨m, rfl⟩ : ∃ m : Nat, n = (m : Int) := ⟨n.toNat, by omega⟩
      have hok : factOk w (m : Int) = true := factOk_iff.2 ⟨by unfold shortW; rw [h1]; simp; omega, c⟩
      refine Ev_neg (by simp) (Ev_eq (spec_FactorsOf_loop w (by omega) m (by omega) (w.length + 1 - m) 0 (by omega)) ?_)
      unfold factR
      rw [if_pos hok]
      rfl
    · rw [show (!decide (0 ≤ n ∧ n ≤ 40)) = true by simp; omega]
      exact no (fun h => c (factOk_iff.1 h).2)
  · unfold factOk shortW at h
    simp only [Bool.and_eq_true] at h
    exact h1 h.1.1

/-! ### impl_areLetters -/
theorem impl_areLetters_loop (w : List Int) (n : Nat) (hw : w.length ≤ 1048576) (d : Nat) : ∀ i : Nat, i + d = w.length →
    Ev (fun k => impl_areLetters.l0 k (n : Int) w (w.length : Int) (i : Int)) (decide (RowIn n (w.drop i))) := by
  induction d with
  | zero =>
    intro i h
    refine Ev_succ ?_
    simp only [impl_areLetters.l0]
    have e : w.drop i = [] := List.drop_of_length_le (by omega)
    rw [e]
    exact Ev_neg (by omega) (Ev_some (by simp [RowIn]))
  | succ d ih =>
    intro i h
    refine Ev_succ ?_
    simp only [impl_areLetters.l0, rd_cast]
    rw [wsucc (n := i) (by omega), drop_cons w i 0 (by omega)]
    refine Ev_pos (by omega) (Ev_pos (by omega) (Ev_pos (by omega) ?_))
    refine Ev_ite (fun h1 => Ev_some ?_) (fun h1 => Ev_ite (fun h2 => Ev_some ?_) (fun h2 => Ev_eq (ih (i + 1) (by omega)) ?_))
    · symm; rw [decide_eq_false_iff_not]; intro e; have := e _ List.mem_cons_self; omega
    · symm; rw [decide_eq_false_iff_not]; intro e; have := e _ List.mem_cons_self; omega
    · rw [decide_eq_decide]
      constructor
      · intro e v hv
        rcases List.mem_cons.1 hv with rfl | hv
        · exact ⟨by omega, by omega⟩
        · exact e v hv
      · exact fun e v hv => e v (List.mem_cons_of_mem _ hv)

theorem impl_areLetters_ev (w : List Int) (n : Nat) (hw : w.length ≤ 1048576) : Ev (fun k => impl_areLetters.f k w (n : Int)) (decide (RowIn n w)) := by
  unfold impl_areLetters.f
  have := impl_areLetters_loop w n hw w.length 0 (by omega)
  rwa [List.drop_zero] at this

/-! ### impl_IsWord -/
theorem impl_IsWord_ev (w : List Int) (n : Nat) (hw : w.length ≤ 1048576) : Ev (fun k => impl_IsWord.f k w (n : Int)) (okWord w n) := by
  unfold impl_IsWord.f okWord
  have no : ¬ ((1 ≤ n ∧ n ≤ 16) ∧ w.length ≤ 400) → Ev (fun _ => some false) (decide (RowIn n w ∧ (1 ≤ n ∧ n ≤ 16) ∧ w.length ≤ 400)) := fun h => Ev_some (by symm; rw [decide_eq_false_iff_not]; exact fun e => h e.2)
  refine Ev_ite (fun h1 => Ev_ite (fun h2 => Ev_ite (fun h3 => ?_) (fun h => no (by omega))) (fun h => no (by omega))) (fun h => no (by omega))
  refine Ev_call _ (impl_areLetters_ev w n hw) (Ev_some ?_)
  rw [decide_eq_decide]
  exact ⟨fun e => ⟨e, by omega, by omega⟩, fun e => e.1⟩

/-! ### impl_isShort -/
theorem impl_isShort_ev (w : List Int) (m : Nat) (hb : w.length ≤ 1048576) : Ev (fun k => impl_isShort.f k w (m : Int)) (okWord w 16 && decide (w.length ≤ m)) := by
  unfold impl_isShort.f
  refine Ev_ite (fun h => Ev_call _ (impl_IsWord_ev w 16 hb) (Ev_some ?_)) (fun h => Ev_some ?_)
  · simp; omega
  · simp; omega

/-! ### impl_parts -/
theorem impl_different_ev' (l : List (List Int)) (h : l.length < 4611686018427387904) : Ev (fun k => impl_different.f k l) (canon l) := by
  unfold impl_different.f
  exact Ev_pos h (Ev.now _)

theorem impl_parts_loop (w : List Int) (hw : w.length ≤ 1048576) (n : Nat) (hn : n ≤ 40) (d : Nat) : ∀ i : Nat, i + d = w.length + 1 - n →
    Ev (fun k => impl_parts.l0 k w (n : Int) (facsTo w n i) (i : Int)) (facs w n) := by
  induction d with
  | zero =>
    intro i h
    refine Ev_succ ?_
    simp only [impl_parts.l0]
    rw [wnat (x := (i : Int) + (n : Int)) (i + n) (by omega) (by omega)]
    refine Ev_neg (by omega) (Ev_call _ (impl_different_ev' _ (by rw [facsTo_length]; omega)) (Ev_some ?_))
    rw [show i = w.length + 1 - n by omega]
    rfl
  | succ d ih =>
    intro i h
    refine Ev_succ ?_
    simp only [impl_parts.l0]
    rw [wnat (x := (i : Int) + (n : Int)) (i + n) (by omega) (by omega)]
    have h1 := win_length (w := w) (n := n) (i := i) (by omega)
    simp only [Option.bind_some]
    rw [Int.toNat_natCast, Int.toNat_natCast, win_cut]
    refine Ev_pos (by omega) (Ev_pos (by omega) (Ev_pos (by omega) (Ev_pos (by rw [List.length_nil]; omega) (Ev_pos (by rw [facsTo_length]; omega) ?_))))
    rw [List.nil_append, ← facsTo_succ, wsucc (by omega)]
    exact ih (i + 1) (by omega)

theorem impl_parts_ev (w : List Int) (n : Nat) (hw : w.length ≤ 1048576) (hn : n ≤ 40) : Ev (fun k => impl_parts.f k w (n : Int)) (facs w n) := by
  unfold impl_parts.f
  exact impl_parts_loop w hw n hn (w.length + 1 - n) 0 (by omega)

/-! ### impl_FactorsOf -/
theorem impl_FactorsOf_ev (w : List Int) (n : Int) (hb : w.length ≤ 1048576) : Ev (fun k => impl_FactorsOf.f k w n) (factR w n) := by
  unfold impl_FactorsOf.f
  refine Ev_call _ (impl_isShort_ev w 128 hb) ?_
  have no : ¬ factOk w n = true → (([] : List (List Int)), false) = factR w n := fun h => by unfold factR; rw [if_neg h]
  refine Ev_ite (fun h1 => Ev_ite (fun h2 => Ev_some (no fun h => ?_)) (fun h2 => Ev_ite (fun h3 => Ev_some (no fun h => ?_)) (fun h3 => ?_))) (fun h1 => Ev_some (no fun h => ?_))
  · have := (factOk_iff.1 h).2; omega
  · have := (factOk_iff.1 h).2; omega
  · obtain ⟨m, rfl⟩ : ∃ m : Nat, n = (m : Int) := ⟨n.toNat, by omega⟩
    refine Ev_call _ (impl_parts_ev w m hb (by omega)) (Ev_some ?_)
    unfold factR
    rw [if_pos (factOk_iff.2 ⟨h1, by omega⟩)]
    rfl
  · exact h1 (factOk_iff.1 h).1

theorem FnExactFactorsOf (l0 : List Int) (a1 : Int) (hb : l0.length ≤ 1048576) (hw : (Lit.int .i64 a1).wf = true) : ∃ R b, Ev (fun k => spec_FactorsOf.f k l0 a1) (R, b) ∧ Ev (fun k => impl_FactorsOf.f k l0 a1) (R, b) ∧ R.length ≤ 1048576 ∧ ∀ x ∈ R, x.length ≤ 1048576 := by
  refine ⟨(factR l0 a1).1, (factR l0 a1).2, spec_FactorsOf_ev l0 a1 hb, impl_FactorsOf_ev l0 a1 hb, ?_, fun x hx => ?_⟩
  · unfold factR
    split
    · rename_i h
      have h1 := facs_length l0 a1.toNat
      have h2 := shortW_le (factOk_iff.1 h).1
      simp only []
      omega
    · simp
  · unfold factR at hx
    split at hx
    · rename_i h
      have h1 := Fac.length (mem_facs.1 hx)
      have h2 := (factOk_iff.1 h).2
      omega
    · simp at hx

theorem FnExactFactorsOf_all (l0 : List Int) (a1 : Int) (hb0 : l0.length ≤ 1048576) (hw1 : (Lit.int .i64 a1).wf = true) :
    ∃ (k : Nat) (R R' : List (List Int)) (b : Bool) (mg : Int) (m0 : Int) (x0 : List Int), spec_FactorsOf.f k l0 a1 = some (R, b) ∧ impl_FactorsOf.f k l0 a1 = some (R, b) ∧ laws_eqIntSS.f k R R = some true ∧ laws_markIntSS.f k R 1 = some (mg, R') ∧ 0 ≤ mg ∧ laws_heldIntSS.f k R' 1 = some mg ∧ laws_toIntS.f k l0 = some l0 ∧ laws_eqIntS.f k l0 l0 = some true ∧ laws_markIntS.f k l0 1 = some (m0, x0) ∧ 0 ≤ m0 := by
  obtain ⟨R, b, h1, h2, hl, hx⟩ := FnExactFactorsOf l0 a1 hb0 hw1
  have ht := total_small hl hx
  have e1 := laws_eqIntSS_ev R R (by omega) (fun x hm => Nat.le_trans (hx x hm) (by omega))
  have e2 := laws_markIntSS_ev R 1 (by omega) (by omega) (by omega)
  have e3 := laws_heldIntSS_ev R 1 (by omega) (by omega) (by omega)
  clear hx
  have t0 := laws_toIntS_ev l0 (by omega)
  have q0 := laws_eqIntS_ev l0 l0 (by omega)
  have p0 := laws_markIntS_ev l0 (1) (by omega) (by omega) (by omega)
  obtain ⟨Kh1, h1⟩ := h1
  obtain ⟨Kh2, h2⟩ := h2
  obtain ⟨Ke1, e1⟩ := e1
  obtain ⟨Ke2, e2⟩ := e2
  obtain ⟨Ke3, e3⟩ := e3
  obtain ⟨Kt0, t0⟩ := t0
  obtain ⟨Kq0, q0⟩ := q0
  obtain ⟨Kp0, p0⟩ := p0
  exact ⟨Kh1 + Kh2 + Ke1 + Ke2 + Ke3 + Kt0 + Kq0 + Kp0, R, marks 1 R, b, 1 + total R, _, _, h1 _ (by omega), h2 _ (by omega), (e1 _ (by omega)).trans (by simp), e2 _ (by omega), by omega, e3 _ (by omega), t0 _ (by omega), (q0 _ (by omega)).trans (by simp), p0 _ (by omega), by omega⟩

end Go.Proofs.Ytolikggioekalab.Pure
