/- At every word and length both answer one list of rows. -/
import Derived.Test.YtolikggioekalabWalkFnExactRightSpecial
import Derived.Test.YtolikggioekalabG0
import Derived.Test.YtolikggioekalabGSized
import Derived.Test.YtolikggioekalabGMarks
import Derived.Test.YtolikggioekalabGShort
import Derived.Test.YtolikggioekalabG1
import Derived.Test.YtolikggioekalabGMor
import Derived.Test.YtolikggioekalabGSort
import Derived.Test.YtolikggioekalabG5
namespace Go.Proofs.Ytolikggioekalab.Pure
open Go.RowKit Go.Proofs.Ytolikggioekalab.PFnExactRightSpecial Go.Proofs.YtolikggioekalabW.PrintWords Go.Proofs.YtolikggioekalabW.PrintLast Go.Proofs.YtolikggioekalabW.PrintMore Go.Proofs.Ytolikggioekalab.G
set_option linter.unusedVariables false
set_option linter.unusedSimpArgs false

/-! ### laws_toIntS -/
theorem laws_toIntS_loop (l : List Int) (hb : l.length ≤ 17592186044416) (d : Nat) : ∀ (n : Nat) (acc : List Int), acc.length = l.length → n ≤ l.length → l.length - n = d → acc.take n = l.take n →
    Ev (fun k => laws_toIntS.l0 k l acc (n : Int)) l := by
  induction d with
  | zero =>
    intro n acc h0 h1 h2 h3
    refine Ev_succ ?_
    simp only [laws_toIntS.l0]
    refine Ev_neg (by omega) (Ev_some ?_)
    have : n = l.length := by omega
    subst this
    rw [List.take_length, ← h0, List.take_length] at h3
    exact h3
  | succ d ih =>
    intro n acc h0 h1 h2 h3
    refine Ev_succ ?_
    simp only [laws_toIntS.l0]
    refine Ev_pos (by omega) (Ev_pos (by omega) (Ev_pos (by omega) ?_))
    rw [rd_cast, wsucc (by omega), Int.toNat_natCast]
    refine ih (n + 1) _ (by simpa using h0) (by omega) (by omega) ?_
    rw [set_take_succ acc n _ (by omega), take_succ_getD l n 0 (by omega), h3]

theorem laws_toIntS_ev (l : List Int) (hb : l.length ≤ 17592186044416) : Ev (fun k => laws_toIntS.f k l) l := by
  unfold laws_toIntS.f
  refine Ev_pos (by omega) (Ev_pos (by omega) ?_)
  exact laws_toIntS_loop l hb _ 0 _ (by simp) (by omega) rfl (by simp)

/-! ### laws_eqIntS -/
theorem laws_eqIntS_loop (a b : List Int) (hl : a.length = b.length) (hb : a.length ≤ 17592186044416) (d : Nat) : ∀ n : Nat, n ≤ a.length → a.length - n = d → a.take n = b.take n →
    Ev (fun k => laws_eqIntS.l0 k a b (n : Int)) (decide (a = b)) := by
  induction d with
  | zero =>
    intro n h1 h2 h3
    refine Ev_succ ?_
    simp only [laws_eqIntS.l0]
    refine Ev_neg (by omega) (Ev_some ?_)
    have : n = a.length := by omega
    subst this
    rw [List.take_length, hl, List.take_length] at h3
    simp [h3]
  | succ d ih =>
    intro n h1 h2 h3
    refine Ev_succ ?_
    simp only [laws_eqIntS.l0]
    refine Ev_pos (by omega) (Ev_pos (by omega) (Ev_pos (by omega) ?_))
    rw [rd_cast, rd_cast, wsucc (by omega)]
    refine Ev_ite (fun h => ?_) (fun h => Ev_some ?_)
    · refine ih (n + 1) (by omega) (by omega) ?_
      rw [take_succ_getD a n 0 (by omega), take_succ_getD b n 0 (by omega), h3, h]
    · symm
      rw [decide_eq_false_iff_not]
      intro e
      exact h (by rw [e])

theorem laws_eqIntS_ev (a b : List Int) (hb : a.length ≤ 17592186044416) : Ev (fun k => laws_eqIntS.f k a b) (decide (a = b)) := by
  unfold laws_eqIntS.f
  refine Ev_ite (fun h => ?_) (fun h => Ev_some ?_)
  · exact laws_eqIntS_loop a b (by omega) hb _ 0 (by omega) rfl (by simp)
  · symm
    rw [decide_eq_false_iff_not]
    intro e
    exact h (by rw [e])

/-! ### laws_eqIntSS -/
theorem laws_eqIntSS_loop (a b : List (List Int)) (hl : a.length = b.length) (hb : a.length ≤ 1048576) (hr : ∀ x ∈ a, x.length ≤ 17592186044416) (d : Nat) : ∀ n : Nat, n + d = a.length → a.take n = b.take n →
    Ev (fun k => laws_eqIntSS.l0 k a b (n : Int)) (decide (a = b)) := by
  induction d with
  | zero =>
    intro n h1 h2
    refine Ev_succ ?_
    simp only [laws_eqIntSS.l0]
    refine Ev_neg (by omega) (Ev_some ?_)
    have : n = a.length := by omega
    subst this
    rw [List.take_length, hl, List.take_length] at h2
    simp [h2]
  | succ d ih =>
    intro n h1 h2
    refine Ev_succ ?_
    simp only [laws_eqIntSS.l0, rd_L1, Int.toNat_natCast]
    have hrow := hr (a.getD n []) (by rw [getD_eq (by omega)]; exact List.getElem_mem _)
    refine Ev_pos (by omega) (Ev_pos (by omega) (Ev_pos (by omega) (Ev_call _ (laws_eqIntS_ev _ _ hrow) ?_)))
    rw [wsucc (n := n) (by omega)]
    refine Ev_ite (fun h => ?_) (fun h => Ev_some ?_)
    · rw [decide_eq_true_eq] at h
      refine ih (n + 1) (by omega) ?_
      rw [take_succ_getD a n [] (by omega), take_succ_getD b n [] (by omega), h2, h]
    · rw [decide_eq_true_eq] at h
      symm
      rw [decide_eq_false_iff_not]
      intro e
      exact h (by rw [e])

theorem laws_eqIntSS_ev (a b : List (List Int)) (hb : a.length ≤ 1048576) (hr : ∀ x ∈ a, x.length ≤ 17592186044416) : Ev (fun k => laws_eqIntSS.f k a b) (decide (a = b)) := by
  unfold laws_eqIntSS.f
  refine Ev_ite (fun h => ?_) (fun h => Ev_some ?_)
  · exact laws_eqIntSS_loop a b (by omega) hb hr _ 0 (Nat.zero_add _) (by simp)
  · symm
    rw [decide_eq_false_iff_not]
    intro e
    exact h (by rw [e])

/-! ### laws_markIntS -/
theorem laws_markIntS_loop (L : Nat) (m : Int) (hm : 0 ≤ m) (hm2 : m ≤ 17592186044416) (hb : L ≤ 17592186044416) (d : Nat) : ∀ (n : Nat) (acc : List Int), acc.length = L → n ≤ L → L - n = d → acc.take n = iota m n →
    Ev (fun k => laws_markIntS.l0 k acc (m + n) (n : Int)) (m + L, iota m L) := by
  induction d with
  | zero =>
    intro n acc h0 h1 h2 h3
    refine Ev_succ ?_
    simp only [laws_markIntS.l0]
    refine Ev_neg (by omega) (Ev_some ?_)
    have : n = L := by omega
    subst this
    rw [← h3, ← h0, List.take_length]
  | succ d ih =>
    intro n acc h0 h1 h2 h3
    refine Ev_succ ?_
    simp only [laws_markIntS.l0]
    refine Ev_pos (by omega) (Ev_pos (by omega) ?_)
    rw [wsucc (by omega), Int.toNat_natCast, w64 (n := m + (n : Int) + 1) (by omega) (by omega)]
    have e : m + (n : Int) + 1 = m + ((n + 1 : Nat) : Int) := by omega
    rw [e]
    refine ih (n + 1) _ (by simpa using h0) (by omega) (by omega) ?_
    rw [set_take_succ acc n _ (by omega), h3, iota_succ]

theorem laws_markIntS_ev (l : List Int) (m : Int) (hm : 0 ≤ m) (hm2 : m ≤ 17592186044416) (hb : l.length ≤ 17592186044416) : Ev (fun k => laws_markIntS.f k l m) (m + l.length, iota m l.length) := by
  unfold laws_markIntS.f
  have := laws_markIntS_loop l.length m hm hm2 hb _ 0 l rfl (by omega) rfl (by simp [iota])
  simpa using this

/-! ### laws_markIntSS -/
theorem laws_markIntSS_loop (rest : List (List Int)) : ∀ (pre : List (List Int)) (a : Int), 0 ≤ a → a + total rest ≤ 17592186044416 → (pre ++ rest).length ≤ 17592186044416 →
    Ev (fun k => laws_markIntSS.l0 k (pre ++ rest) a ((pre.length : Nat) : Int)) (a + total rest, pre ++ marks a rest) := by
  induction rest with
  | nil =>
    intro pre a h0 h1 h2
    refine Ev_succ ?_
    simp only [laws_markIntSS.l0]
    exact Ev_neg (by simp) (Ev_some (by simp [total, marks]))
  | cons r rs ih =>
    intro pre a h0 h1 h2
    simp only [total] at h1
    simp only [List.length_append, List.length_cons] at h2
    have hm := laws_markIntS_ev r a h0 (by omega) (by omega)
    refine Ev_succ ?_
    simp only [laws_markIntSS.l0, rd_L1, Int.toNat_natCast, getD_pre, set_pre]
    refine Ev_pos (by simp; omega) (Ev_pos (by omega) (Ev_call _ hm ?_))
    rw [wsucc (by omega)]
    have := ih (pre ++ [iota a r.length]) (a + r.length) (by omega) (by omega) (by simp; omega)
    simp only [List.length_append, List.length_cons, List.length_nil] at this
    refine Ev_eq this ?_
    simp only [total, marks, List.append_assoc, List.cons_append, List.nil_append, Int.natCast_add]
    congr 1
    omega

theorem laws_markIntSS_ev (l : List (List Int)) (a : Int) (h0 : 0 ≤ a) (h1 : a + total l ≤ 17592186044416) (h2 : l.length ≤ 17592186044416) : Ev (fun k => laws_markIntSS.f k l a) (a + total l, marks a l) := by
  unfold laws_markIntSS.f
  have := laws_markIntSS_loop l [] a h0 h1 (by simpa using h2)
  simpa using this

/-! ### laws_heldIntS -/
theorem laws_heldIntS_loop (L : Nat) (m : Int) (hm : 0 ≤ m) (hm2 : m ≤ 17592186044416) (hb : L ≤ 17592186044416) (d : Nat) : ∀ (n : Nat), n ≤ L → L - n = d →
    Ev (fun k => laws_heldIntS.l0 k (iota m L) (m + n) (n : Int)) (m + L) := by
  induction d with
  | zero =>
    intro n h1 h2
    refine Ev_succ ?_
    simp only [laws_heldIntS.l0]
    refine Ev_neg (by rw [iota_length]; omega) (Ev_some ?_)
    omega
  | succ d ih =>
    intro n h1 h2
    refine Ev_succ ?_
    simp only [laws_heldIntS.l0]
    refine Ev_pos (by rw [iota_length]; omega) (Ev_pos (by omega) ?_)
    rw [rd_cast, iota_getD m L n (by omega)]
    refine Ev_pos rfl ?_
    rw [wsucc (by omega), w64 (n := m + (n : Int) + 1) (by omega) (by omega)]
    have e : m + (n : Int) + 1 = m + ((n + 1 : Nat) : Int) := by omega
    rw [e]
    exact ih (n + 1) (by omega) (by omega)

theorem laws_heldIntS_ev (L : Nat) (m : Int) (hm : 0 ≤ m) (hm2 : m ≤ 17592186044416) (hb : L ≤ 17592186044416) : Ev (fun k => laws_heldIntS.f k (iota m L) m) (m + L) := by
  unfold laws_heldIntS.f
  have := laws_heldIntS_loop L m hm hm2 hb _ 0 (by omega) rfl
  simpa using this

/-! ### laws_heldIntSS -/
theorem laws_heldIntSS_loop (rest : List (List Int)) : ∀ (pre : List (List Int)) (a : Int), 0 ≤ a → a + total rest ≤ 17592186044416 → (pre ++ rest).length ≤ 17592186044416 →
    Ev (fun k => laws_heldIntSS.l0 k (pre ++ marks a rest) a ((pre.length : Nat) : Int)) (a + total rest) := by
  induction rest with
  | nil =>
    intro pre a h0 h1 h2
    refine Ev_succ ?_
    simp only [laws_heldIntSS.l0]
    exact Ev_neg (by simp [marks]) (Ev_some (by simp [total]))
  | cons r rs ih =>
    intro pre a h0 h1 h2
    simp only [total] at h1
    simp only [List.length_append, List.length_cons] at h2
    have hm := laws_heldIntS_ev r.length a h0 (by omega) (by omega)
    refine Ev_succ ?_
    simp only [laws_heldIntSS.l0, rd_L1, Int.toNat_natCast, marks, getD_pre]
    refine Ev_pos (by simp; omega) (Ev_pos (by omega) (Ev_call _ hm (Ev_neg (by omega) ?_)))
    rw [wsucc (by omega)]
    have := ih (pre ++ [iota a r.length]) (a + r.length) (by omega) (by omega) (by simp; omega)
    simp only [List.length_append, List.length_cons, List.length_nil, List.append_assoc, List.cons_append, List.nil_append] at this
    refine Ev_eq this ?_
    simp only [total]
    omega

theorem laws_heldIntSS_ev (l : List (List Int)) (a : Int) (h0 : 0 ≤ a) (h1 : a + total l ≤ 17592186044416) (h2 : l.length ≤ 17592186044416) : Ev (fun k => laws_heldIntSS.f k (marks a l) a) (a + total l) := by
  unfold laws_heldIntSS.f
  have := laws_heldIntSS_loop l [] a h0 h1 (by simpa using h2)
  simpa using this

/-! ### spec_l1In -/
theorem spec_l1In_eq (x a b : Int) : spec_l1In.f x a b = some (decide (a ≤ x ∧ x ≤ b)) := by
  unfold spec_l1In.f
  by_cases h : x ≥ a
  · rw [if_pos h]; simp [h]
  · rw [if_neg h]; congr 1; symm; rw [decide_eq_false_iff_not]; omega

/-! ### spec_IsWord -/
theorem spec_IsWord_loop (w : List Int) (n : Nat) (hw : w.length ≤ 1048576) (hn : n ≤ 1048576) (d : Nat) : ∀ i : Nat, i + d = w.length →
    Ev (fun k => spec_IsWord.l0 k w (n : Int) (i : Int)) (decide (RowIn n (w.drop i) ∧ (1 ≤ n ∧ n ≤ 16) ∧ w.length ≤ 400)) := by
  induction d with
  | zero =>
    intro i h
    refine Ev_succ ?_
    simp only [spec_IsWord.l0]
    have e : w.drop i = [] := List.drop_of_length_le (by omega)
    rw [e]
    refine Ev_neg (by omega) ?_
    by_cases c : 1 ≤ n ∧ n ≤ 16
    · refine Ev_call true (Ev_const ?_) (Ev_pos rfl (Ev_some ?_))
      · unfold spec_l1In.f; rw [if_pos (by omega)]; congr 1; simp; omega
      · rw [decide_eq_decide]; constructor
        · exact fun h => ⟨by simp [RowIn], c, by omega⟩
        · exact fun h => by have := h.2.2; omega
    · refine Ev_call false (Ev_const ?_) (Ev_neg (by simp) (Ev_some ?_))
      · unfold spec_l1In.f
        by_cases c1 : (n : Int) ≥ 1
        · rw [if_pos c1]; congr 1; simp; omega
        · rw [if_neg c1]
      · symm; rw [decide_eq_false_iff_not]; exact fun h => c h.2.1
  | succ d ih =>
    intro i h
    refine Ev_succ ?_
    simp only [spec_IsWord.l0, rd_cast]
    rw [wsucc (n := i) (by omega), drop_cons w i 0 (by omega)]
    refine Ev_pos (by omega) (Ev_pos (by omega) ?_)
    refine Ev_ite (fun h1 => Ev_some ?_) (fun h1 => Ev_ite (fun h2 => Ev_some ?_) (fun h2 => Ev_eq (ih (i + 1) (by omega)) ?_))
    · symm; rw [decide_eq_false_iff_not]; intro e; have := e.1 _ List.mem_cons_self; omega
    · symm; rw [decide_eq_false_iff_not]; intro e; have := e.1 _ List.mem_cons_self; omega
    · rw [decide_eq_decide]
      constructor
      · rintro ⟨e, e2⟩
        refine ⟨fun v hv => ?_, e2⟩
        rcases List.mem_cons.1 hv with rfl | hv
        · exact ⟨by omega, by omega⟩
        · exact e v hv
      · exact fun ⟨e, e2⟩ => ⟨fun v hv => e v (List.mem_cons_of_mem _ hv), e2⟩

theorem spec_IsWord_ev (w : List Int) (n : Nat) (hw : w.length ≤ 1048576) (hn : n ≤ 1048576) : Ev (fun k => spec_IsWord.f k w (n : Int)) (okWord w n) := by
  unfold spec_IsWord.f okWord
  have := spec_IsWord_loop w n hw hn w.length 0 (by omega)
  rwa [List.drop_zero] at this

/-! ### spec_CompareWords -/
theorem spec_CompareWords_loop (u v : List Int) (hu : u.length ≤ 1048576) (d : Nat) : ∀ n : Nat, n + d = u.length → n ≤ v.length →
    Ev (fun k => spec_CompareWords.l0 k u v (n : Int)) (cmpW (u.drop n) (v.drop n)) := by
  induction d with
  | zero =>
    intro n h h2
    have hn : n = u.length := by omega
    subst hn
    refine Ev_succ ?_
    simp only [spec_CompareWords.l0]
    refine Ev_neg (by omega) (Ev_succ ?_)
    simp only [spec_CompareWords.j1]
    refine Ev_neg (by simp) ?_
    rw [List.drop_length, cmpW_nil_left]
    by_cases c : u.length < v.length
    · refine Ev_pos (by omega) (Ev_some ?_)
      rw [if_neg (by simp; omega)]
    · refine Ev_neg (by omega) (Ev_neg (by omega) (Ev_some ?_))
      rw [if_pos (by simp; omega)]
  | succ d ih =>
    intro n h h2
    refine Ev_succ ?_
    simp only [spec_CompareWords.l0]
    refine Ev_pos (by omega) (Ev_succ ?_)
    simp only [spec_CompareWords.j1]
    by_cases c : n < v.length
    · refine Ev_pos (by simp; omega) (Ev_pos (by omega) (Ev_pos (by omega) (Ev_pos (by omega) ?_)))
      rw [rd_cast, rd_cast, drop_cons u n 0 (by omega), drop_cons v n 0 c, cmpW_cons, wsucc (by omega)]
      refine Ev_ite (fun g => Ev_some ?_) (fun g => ?_)
      · rw [if_pos g]
      · rw [if_neg g]
        refine Ev_ite (fun g2 => Ev_some ?_) (fun g2 => ?_)
        · rw [if_pos g2]
        · rw [if_neg g2]
          exact ih (n + 1) (by omega) (by omega)
    · refine Ev_neg (by simp; omega) (Ev_neg (by omega) (Ev_pos (by omega) (Ev_some ?_)))
      rw [List.drop_eq_nil_of_le (show v.length ≤ n by omega), cmpW_nil_right, if_neg (by simp; omega)]

theorem spec_CompareWords_ev (u v : List Int) (hu : u.length ≤ 1048576) : Ev (fun k => spec_CompareWords.f k u v) (cmpW u v) := by
  unfold spec_CompareWords.f
  exact spec_CompareWords_loop u v hu _ 0 (Nat.zero_add _) (by omega)

/-! ### spec_l8Put -/
theorem spec_l8Put_loop (l : List (List Int)) (w : List Int) (hw : w.length ≤ 1048576) (hl : l.length ≤ 1048576) (d : Nat) : ∀ (n : Nat) (out : List (List Int)) (pl : Bool), n + d = l.length → out.length ≤ n + (if pl = true then 1 else 0) →
    Ev (fun k => spec_l8Put.l0 k l w out pl (n : Int)) (out ++ if pl = true then l.drop n else putW w (l.drop n)) := by
  induction d with
  | zero =>
    intro n out pl h1 h2
    have hn : n = l.length := by omega
    have h2' : out.length ≤ n + 1 := by split at h2 <;> omega
    refine Ev_succ ?_
    simp only [spec_l8Put.l0]
    refine Ev_neg (by omega) ?_
    rw [hn, List.drop_length]
    cases pl with
    | true => exact Ev_pos rfl (Ev_some (by simp))
    | false =>
      refine Ev_neg (by simp) ?_
      simp only [Option.bind_some]
      exact Ev_pos (by simp; omega) (Ev_pos (by omega) (Ev_some (by simp [putW])))
  | succ d ih =>
    intro n out pl h1 h2
    have h2' : out.length ≤ n + 1 := by split at h2 <;> omega
    refine Ev_succ ?_
    simp only [spec_l8Put.l0]
    refine Ev_pos (by omega) (Ev_pos (by omega) ?_)
    have hx : rd_L1 l (n : Int) = l.getD n [] := rfl
    rw [hx, drop_cons l n [] (by omega)]
    refine Ev_call _ (spec_CompareWords_ev w (l.getD n []) hw) ?_
    have step : ∀ (pl' : Bool) (out' : List (List Int)), out'.length ≤ n + 1 + (if pl' = true then 1 else 0) → Ev (fun k => spec_l8Put.l0 k l w out' pl' (wrap64 ((n : Int) + 1))) (out' ++ if pl' = true then l.drop (n + 1) else putW w (l.drop (n + 1))) := by
      intro pl' out' h
      rw [wsucc (by omega)]
      exact ih (n + 1) out' pl' (by omega) (by omega)
    by_cases c0 : cmpW w (l.getD n []) = 0
    · refine Ev_pos c0 (Ev_neg (by omega) (Ev_pos (by omega) (Ev_eq (step true _ (by simp; omega)) ?_)))
      rw [if_pos rfl, List.append_assoc]
      congr 1
      cases pl with
      | true => rfl
      | false => rw [if_neg (by simp), putW, if_neg (by omega), if_pos c0]; rfl
    · refine Ev_neg c0 ?_
      by_cases c1 : cmpW w (l.getD n []) < 0
      · refine Ev_pos c1 ?_
        cases pl with
        | true =>
          refine Ev_pos rfl (Ev_pos (by omega) (Ev_eq (step true _ (by simp; omega)) ?_))
          rw [if_pos rfl, if_pos rfl, List.append_assoc]
          rfl
        | false =>
          refine Ev_neg (by simp) ?_
          simp only [Option.bind_some]
          refine Ev_pos (by simp; omega) (Ev_pos (by omega) (Ev_pos (by simp; omega) (Ev_eq (step true _ (by simp at h2 ⊢; omega)) ?_)))
          rw [if_pos rfl, if_neg (by simp), putW, if_pos c1]
          simp
      · refine Ev_neg c1 (Ev_pos (by omega) (Ev_eq (step pl _ (by rw [List.length_append, List.length_singleton]; omega)) ?_))
        rw [List.append_assoc]
        congr 1
        cases pl with
        | true => rfl
        | false => rw [if_neg (by simp), if_neg (by simp), putW, if_neg c1, if_neg c0]; rfl

theorem spec_l8Put_ev (l : List (List Int)) (w : List Int) (hw : w.length ≤ 1048576) (hl : l.length ≤ 1048576) : Ev (fun k => spec_l8Put.f k l w) (putW w l) := by
  unfold spec_l8Put.f
  exact Ev_eq (spec_l8Put_loop l w hw hl l.length 0 [] false (by omega) (by simp)) (by simp)

/-! ### spec_FactorsOf -/
theorem spec_FactorsOf_loop (w : List Int) (hw : w.length ≤ 128) (n : Nat) (hn : n ≤ 40) (d : Nat) : ∀ i : Nat, i + d = w.length + 1 - n →
    Ev (fun k => spec_FactorsOf.l0 k w (n : Int) (canon (facsTo w n i)) (i : Int)) (facs w n, true) := by
  induction d with
  | zero =>
    intro i h
    refine Ev_succ ?_
    simp only [spec_FactorsOf.l0]
    rw [wnat (x := (i : Int) + (n : Int)) (i + n) (by omega) (by omega)]
    refine Ev_neg (by omega) (Ev_some ?_)
    rw [show i = w.length + 1 - n by omega]
    rfl
  | succ d ih =>
    intro i h
    refine Ev_succ ?_
    simp only [spec_FactorsOf.l0]
    rw [wnat (x := (i : Int) + (n : Int)) (i + n) (by omega) (by omega)]
    refine Ev_pos (by omega) (Ev_pos (by omega) (Ev_pos (by omega) ?_))
    rw [Int.toNat_natCast, Int.toNat_natCast, win_cut]
    have h1 := win_length (w := w) (n := n) (i := i) (by omega)
    have h2 := canon_length (facsTo w n i)
    rw [facsTo_length] at h2
    refine Ev_call _ (spec_l8Put_ev _ _ (by omega) (by omega)) ?_
    rw [← canon_snoc, ← facsTo_succ, wsucc (by omega)]
    exact ih (i + 1) (by omega)

theorem spec_FactorsOf_ev (w : List Int) (n : Int) (hb : w.length ≤ 1048576) : Ev (fun k => spec_FactorsOf.f k w n) (factR w n) := by
  unfold spec_FactorsOf.f
  simp only [Option.bind_some]
  refine Ev_call _ (spec_IsWord_ev w 16 hb (by omega)) ?_
  have no : ¬ factOk w n = true → Ev (fun k => spec_FactorsOf.j0 k w n [] true) (factR w n) := fun h => by
    refine Ev_succ ?_
    simp only [spec_FactorsOf.j0]
    exact Ev_pos (by simp) (Ev_some (by unfold factR; rw [if_neg h]))
  refine Ev_ite (fun h1 => Ev_ite (fun h2 => no (fun h => ?_)) (fun h2 => ?_)) (fun h1 => no (fun h => ?_))
  · have := shortW_le (factOk_iff.1 h).1; omega
  · simp only [spec_l1In_eq, Option.bind_some]
    by_cases c : 0 ≤ n ∧ n ≤ 40
    · rw [show (!decide (0 ≤ n ∧ n ≤ 40)) = false by simp [c]]
      refine Ev_succ ?_
      simp only [spec_FactorsOf.j0]
      obtain ⟨m, rfl⟩ : ∃ m : Nat, n = (m : Int) := ⟨n.toNat, by omega⟩
      have hok : factOk w (m : Int) = true := factOk_iff.2 ⟨by unfold shortW; rw [h1]; simp; omega, c⟩
      refine Ev_neg (by simp) (Ev_eq (spec_FactorsOf_loop w (by omega) m (by omega) (w.length + 1 - m) 0 (by omega)) ?_)
      unfold factR
      rw [if_pos hok]
      rfl
    · rw [show (!decide (0 ≤ n ∧ n ≤ 40)) = true by simp; omega]
      exact no (fun h => c (factOk_iff.1 h).2)
  · unfold factOk shortW at h
    simp only [Bool.and_eq_true] at h
    exact h1 h.1.1

/-! ### impl_areLetters -/
theorem impl_areLetters_loop (w : List Int) (n : Nat) (hw : w.length ≤ 1048576) (d : Nat) : ∀ i : Nat, i + d = w.length →
    Ev (fun k => impl_areLetters.l0 k (n : Int) w (w.length : Int) (i : Int)) (decide (RowIn n (w.drop i))) := by
  induction d with
  | zero =>
    intro i h
    refine Ev_succ ?_
    simp only [impl_areLetters.l0]
    have e : w.drop i = [] := List.drop_of_length_le (by omega)
    rw [e]
    exact Ev_neg (by omega) (Ev_some (by simp [RowIn]))
  | succ d ih =>
    intro i h
    refine Ev_succ ?_
    simp only [impl_areLetters.l0, rd_cast]
    rw [wsucc (n := i) (by omega), drop_cons w i 0 (by omega)]
    refine Ev_pos (by omega) (Ev_pos (by omega) (Ev_pos (by omega) ?_))
    refine Ev_ite (fun h1 => Ev_some ?_) (fun h1 => Ev_ite (fun h2 => Ev_some ?_) (fun h2 => Ev_eq (ih (i + 1) (by omega)) ?_))
    · symm; rw [decide_eq_false_iff_not]; intro e; have := e _ List.mem_cons_self; omega
    · symm; rw [decide_eq_false_iff_not]; intro e; have := e _ List.mem_cons_self; omega
    · rw [decide_eq_decide]
      constructor
      · intro e v hv
        rcases List.mem_cons.1 hv with rfl | hv
        · exact ⟨by omega, by omega⟩
        · exact e v hv
      · exact fun e v hv => e v (List.mem_cons_of_mem _ hv)

theorem impl_areLetters_ev (w : List Int) (n : Nat) (hw : w.length ≤ 1048576) : Ev (fun k => impl_areLetters.f k w (n : Int)) (decide (RowIn n w)) := by
  unfold impl_areLetters.f
  have := impl_areLetters_loop w n hw w.length 0 (by omega)
  rwa [List.drop_zero] at this

/-! ### impl_IsWord -/
theorem impl_IsWord_ev (w : List Int) (n : Nat) (hw : w.length ≤ 1048576) : Ev (fun k => impl_IsWord.f k w (n : Int)) (okWord w n) := by
  unfold impl_IsWord.f okWord
  have no : ¬ ((1 ≤ n ∧ n ≤ 16) ∧ w.length ≤ 400) → Ev (fun _ => some false) (decide (RowIn n w ∧ (1 ≤ n ∧ n ≤ 16) ∧ w.length ≤ 400)) := fun h => Ev_some (by symm; rw [decide_eq_false_iff_not]; exact fun e => h e.2)
  refine Ev_ite (fun h1 => Ev_ite (fun h2 => Ev_ite (fun h3 => ?_) (fun h => no (by omega))) (fun h => no (by omega))) (fun h => no (by omega))
  refine Ev_call _ (impl_areLetters_ev w n hw) (Ev_some ?_)
  rw [decide_eq_decide]
  exact ⟨fun e => ⟨e, by omega, by omega⟩, fun e => e.1⟩

/-! ### impl_isShort -/
theorem impl_isShort_ev (w : List Int) (m : Nat) (hb : w.length ≤ 1048576) : Ev (fun k => impl_isShort.f k w (m : Int)) (okWord w 16 && decide (w.length ≤ m)) := by
  unfold impl_isShort.f
  refine Ev_ite (fun h => Ev_call _ (impl_IsWord_ev w 16 hb) (Ev_some ?_)) (fun h => Ev_some ?_)
  · simp; omega
  · simp; omega

/-! ### impl_parts -/
theorem impl_different_ev' (l : List (List Int)) (h : l.length < 4611686018427387904) : Ev (fun k => impl_different.f k l) (canon l) := by
  unfold impl_different.f
  exact Ev_pos h (Ev.now _)

theorem impl_parts_loop (w : List Int) (hw : w.length ≤ 1048576) (n : Nat) (hn : n ≤ 40) (d : Nat) : ∀ i : Nat, i + d = w.length + 1 - n →
    Ev (fun k => impl_parts.l0 k w (n : Int) (facsTo w n i) (i : Int)) (facs w n) := by
  induction d with
  | zero =>
    intro i h
    refine Ev_succ ?_
    simp only [impl_parts.l0]
    rw [wnat (x := (i : Int) + (n : Int)) (i + n) (by omega) (by omega)]
    refine Ev_neg (by omega) (Ev_call _ (impl_different_ev' _ (by rw [facsTo_length]; omega)) (Ev_some ?_))
    rw [show i = w.length + 1 - n by omega]
    rfl
  | succ d ih =>
    intro i h
    refine Ev_succ ?_
    simp only [impl_parts.l0]
    rw [wnat (x := (i : Int) + (n : Int)) (i + n) (by omega) (by omega)]
    have h1 := win_length (w := w) (n := n) (i := i) (by omega)
    simp only [Option.bind_some]
    rw [Int.toNat_natCast, Int.toNat_natCast, win_cut]
    refine Ev_pos (by omega) (Ev_pos (by omega) (Ev_pos (by omega) (Ev_pos (by rw [List.length_nil]; omega) (Ev_pos (by rw [facsTo_length]; omega) ?_))))
    rw [List.nil_append, ← facsTo_succ, wsucc (by omega)]
    exact ih (i + 1) (by omega)

theorem impl_parts_ev (w : List Int) (n : Nat) (hw : w.length ≤ 1048576) (hn : n ≤ 40) : Ev (fun k => impl_parts.f k w (n : Int)) (facs w n) := by
  unfold impl_parts.f
  exact impl_parts_loop w hw n hn (w.length + 1 - n) 0 (by omega)

/-! ### impl_FactorsOf -/
theorem impl_FactorsOf_ev (w : List Int) (n : Int) (hb : w.length ≤ 1048576) : Ev (fun k => impl_FactorsOf.f k w n) (factR w n) := by
  unfold impl_FactorsOf.f
  refine Ev_call _ (impl_isShort_ev w 128 hb) ?_
  have no : ¬ factOk w n = true → (([] : List (List Int)), false) = factR w n := fun h => by unfold factR; rw [if_neg h]
  refine Ev_ite (fun h1 => Ev_ite (fun h2 => Ev_some (no fun h => ?_)) (fun h2 => Ev_ite (fun h3 => Ev_some (no fun h => ?_)) (fun h3 => ?_))) (fun h1 => Ev_some (no fun h => ?_))
  · have := (factOk_iff.1 h).2; omega
  · have := (factOk_iff.1 h).2; omega
  · obtain ⟨m, rfl⟩ : ∃ m : Nat, n = (m : Int) := ⟨n.toNat, by omega⟩
    refine Ev_call _ (impl_parts_ev w m hb (by omega)) (Ev_some ?_)
    unfold factR
    rw [if_pos (factOk_iff.2 ⟨h1, by omega⟩)]
    rfl
  · exact h1 (factOk_iff.1 h).1

/-! ### spec_l3Same -/
theorem spec_l3Same_loop (a b : List Int) (hl : a.length = b.length) (hb : a.length ≤ 17592186044416) (d : Nat) : ∀ n : Nat, n ≤ a.length → a.length - n = d → a.take n = b.take n →
    Ev (fun k => spec_l3Same.l0 k a b (n : Int)) (decide (a = b)) := by
  induction d with
  | zero =>
    intro n h1 h2 h3
    refine Ev_succ ?_
    simp only [spec_l3Same.l0]
    refine Ev_neg (by omega) (Ev_some ?_)
    have : n = a.length := by omega
    subst this
    rw [List.take_length, hl, List.take_length] at h3
    simp [h3]
  | succ d ih =>
    intro n h1 h2 h3
    refine Ev_succ ?_
    simp only [spec_l3Same.l0]
    refine Ev_pos (by omega) (Ev_pos (by omega) (Ev_pos (by omega) ?_))
    rw [rd_cast, rd_cast, wsucc (by omega)]
    refine Ev_ite (fun h => ?_) (fun h => Ev_some ?_)
    · refine ih (n + 1) (by omega) (by omega) ?_
      rw [take_succ_getD a n 0 (by omega), take_succ_getD b n 0 (by omega), h3, h]
    · symm
      rw [decide_eq_false_iff_not]
      intro e
      exact h (by rw [e])

theorem spec_l3Same_ev (a b : List Int) (hb : a.length ≤ 17592186044416) : Ev (fun k => spec_l3Same.f k a b) (decide (a = b)) := by
  unfold spec_l3Same.f
  refine Ev_ite (fun h => ?_) (fun h => Ev_some ?_)
  · exact spec_l3Same_loop a b (by omega) hb _ 0 (by omega) rfl (by simp)
  · symm
    rw [decide_eq_false_iff_not]
    intro e
    exact h (by rw [e])

/-! ### spec_OccurrencesOf -/
theorem spec_OccurrencesOf_loop (w u : List Int) (hb : w.length ≤ 1048576) (hu : u.length ≤ 1048576) (d : Nat) : ∀ n : Nat, n + d = w.length + 1 - u.length →
    Ev (fun k => spec_OccurrencesOf.l0 k w u (occTo w u n) (n : Int)) (occ w u) := by
  induction d with
  | zero =>
    intro n h
    refine Ev_succ ?_
    simp only [spec_OccurrencesOf.l0]
    rw [w64 (by omega) (by omega)]
    refine Ev_neg (by omega) (Ev_some ?_)
    have : n = w.length + 1 - u.length := by omega
    subst this
    rfl
  | succ d ih =>
    intro n h
    refine Ev_succ ?_
    simp only [spec_OccurrencesOf.l0]
    rw [wnat (n + u.length) (by omega) (by omega), wsucc (by omega)]
    refine Ev_pos (by omega) (Ev_pos (by omega) (Ev_pos (by omega) ?_))
    rw [Int.toNat_natCast, Int.toNat_natCast]
    refine Ev_call _ (spec_l3Same_ev _ _ (by simp; omega)) ?_
    have hl := occTo_length w u n
    refine Ev_ite (fun c => Ev_pos (by omega) ?_) (fun c => ?_)
    · refine Ev_eq (ih (n + 1) (by omega)) rfl |> fun e => ?_
      rw [occTo_succ, if_pos (by simpa using c)] at e
      exact e
    · refine Ev_eq (ih (n + 1) (by omega)) rfl |> fun e => ?_
      rw [occTo_succ, if_neg (by simpa using c), List.append_nil] at e
      exact e

theorem spec_OccurrencesOf_ev (w u : List Int) (hb : w.length ≤ 1048576) (hu : u.length ≤ 1048576) : Ev (fun k => spec_OccurrencesOf.f k w u) (occ w u) := by
  unfold spec_OccurrencesOf.f
  exact spec_OccurrencesOf_loop w u hb hu _ 0 (Nat.zero_add _)

/-! ### slices_Equal_int_int -/
theorem slices_Equal_int_int_loop (a b : List Int) (hl : a.length = b.length) (hb : a.length ≤ 17592186044416) (d : Nat) : ∀ n : Nat, n ≤ a.length → a.length - n = d → a.take n = b.take n →
    Ev (fun k => slices_Equal_int_int.l0 k a b (a.length : Int) (n : Int)) (decide (a = b)) := by
  induction d with
  | zero =>
    intro n h1 h2 h3
    refine Ev_succ ?_
    simp only [slices_Equal_int_int.l0]
    refine Ev_neg (by omega) (Ev_some ?_)
    have : n = a.length := by omega
    subst this
    rw [List.take_length, hl, List.take_length] at h3
    simp [h3]
  | succ d ih =>
    intro n h1 h2 h3
    refine Ev_succ ?_
    simp only [slices_Equal_int_int.l0]
    refine Ev_pos (by omega) (Ev_pos (by omega) (Ev_pos (by omega) (Ev_pos (by omega) ?_)))
    rw [rd_cast, rd_cast, wsucc (by omega)]
    refine Ev_ite (fun h => ?_) (fun h => Ev_some ?_)
    · refine ih (n + 1) (by omega) (by omega) ?_
      rw [take_succ_getD a n 0 (by omega), take_succ_getD b n 0 (by omega), h3, h]
    · symm
      rw [decide_eq_false_iff_not]
      intro e
      exact h (by rw [e])

theorem slices_Equal_int_int_ev (a b : List Int) (hb : a.length ≤ 17592186044416) : Ev (fun k => slices_Equal_int_int.f k a b) (decide (a = b)) := by
  unfold slices_Equal_int_int.f
  refine Ev_ite (fun h => ?_) (fun h => Ev_some ?_)
  · exact slices_Equal_int_int_loop a b (by omega) hb _ 0 (by omega) rfl (by simp)
  · symm
    rw [decide_eq_false_iff_not]
    intro e
    exact h (by rw [e])

/-! ### impl_OccurrencesOf -/
theorem impl_OccurrencesOf_loop (w u : List Int) (hb : w.length ≤ 1048576) (hu : u.length ≤ 1048576) (d : Nat) : ∀ n : Nat, n + d = w.length + 1 - u.length →
    Ev (fun k => impl_OccurrencesOf.l0 k w u (occTo w u n) (n : Int)) (occ w u) := by
  induction d with
  | zero =>
    intro n h
    refine Ev_succ ?_
    simp only [impl_OccurrencesOf.l0]
    rw [w64 (by omega) (by omega)]
    refine Ev_neg (by omega) (Ev_some ?_)
    have : n = w.length + 1 - u.length := by omega
    subst this
    rfl
  | succ d ih =>
    intro n h
    refine Ev_succ ?_
    simp only [impl_OccurrencesOf.l0]
    rw [wnat (n + u.length) (by omega) (by omega), wsucc (by omega)]
    refine Ev_pos (by omega) (Ev_pos (by omega) (Ev_pos (by omega) ?_))
    rw [Int.toNat_natCast, Int.toNat_natCast]
    refine Ev_call _ (slices_Equal_int_int_ev _ _ (by simp; omega)) ?_
    have hl := occTo_length w u n
    refine Ev_ite (fun c => Ev_pos (by omega) ?_) (fun c => ?_)
    · refine Ev_eq (ih (n + 1) (by omega)) rfl |> fun e => ?_
      rw [occTo_succ, if_pos (by simpa using c)] at e
      exact e
    · refine Ev_eq (ih (n + 1) (by omega)) rfl |> fun e => ?_
      rw [occTo_succ, if_neg (by simpa using c), List.append_nil] at e
      exact e

theorem impl_OccurrencesOf_ev (w u : List Int) (hb : w.length ≤ 1048576) (hu : u.length ≤ 1048576) : Ev (fun k => impl_OccurrencesOf.f k w u) (occ w u) := by
  unfold impl_OccurrencesOf.f
  exact impl_OccurrencesOf_loop w u hb hu _ 0 (Nat.zero_add _)

/-- The letters that stand behind the places of a list. -/
def follow (w : List Int) (n : Nat) : List Int → List Int
  | [] => []
  | p :: ps => if p + (n : Int) < (w.length : Int) then rd w (p + (n : Int)) :: follow w n ps else follow w n ps
/-- A second letter beside the first one; below nought none was met. -/
def diffI : Int → List Int → Bool
  | _, [] => false
  | f, x :: xs => if f < 0 then diffI x xs else if x = f then diffI f xs else true
def nextS : List Int → List Int → List Int
  | acc, [] => acc
  | acc, x :: xs => if x ∈ acc then nextS acc xs else nextS (acc ++ [x]) xs
theorem nextS_len (xs : List Int) : ∀ acc : List Int, acc.length ≤ (nextS acc xs).length := by
  induction xs with
  | nil => intro acc; exact Nat.le_refl _
  | cons x xs ih =>
    intro acc
    rw [nextS]
    split
    · exact ih acc
    · have := ih (acc ++ [x]); rw [List.length_append, List.length_singleton] at this; omega
theorem nextS_one (xs : List Int) (hx : ∀ x ∈ xs, 0 ≤ x) (f : Int) (hf : 0 ≤ f) : (1 < (nextS [f] xs).length) ↔ diffI f xs = true := by
  induction xs with
  | nil => simp [nextS, diffI]
  | cons x xs ih =>
    have ih := ih (fun y hy => hx y (List.mem_cons_of_mem _ hy))
    by_cases c : x = f
    · have e1 : nextS [f] (x :: xs) = nextS [f] xs := by rw [nextS, if_pos (List.mem_singleton.2 c)]
      have e2 : diffI f (x :: xs) = diffI f xs := by rw [diffI, if_neg (by omega), if_pos c]
      rw [e1, e2]; exact ih
    · have e1 : nextS [f] (x :: xs) = nextS ([f] ++ [x]) xs := by rw [nextS, if_neg (fun e => c (List.mem_singleton.1 e))]
      have e2 : diffI f (x :: xs) = true := by rw [diffI, if_neg (by omega), if_neg c]
      rw [e1, e2]
      have := nextS_len xs ([f] ++ [x])
      rw [List.length_append, List.length_singleton, List.length_singleton] at this
      exact ⟨fun _ => rfl, fun _ => by omega⟩
theorem nextS_two (xs : List Int) (hx : ∀ x ∈ xs, 0 ≤ x) : (1 < (nextS [] xs).length) ↔ diffI (-1) xs = true := by
  cases xs with
  | nil => simp [nextS, diffI]
  | cons x xs =>
    rw [nextS, if_neg (by simp), diffI, if_pos (by omega)]
    exact nextS_one xs (fun y hy => hx y (List.mem_cons_of_mem _ hy)) x (hx x List.mem_cons_self)
theorem occ_mem {w u : List Int} {p : Int} (h : p ∈ occ w u) : 0 ≤ p ∧ p + u.length ≤ w.length ∨ w.length < u.length := by
  unfold occ occTo at h
  rw [List.mem_map] at h
  obtain ⟨i, hi, rfl⟩ := h
  have := (List.mem_filter.1 hi).1
  rw [List.mem_range] at this
  by_cases c : w.length < u.length
  · exact .inr c
  · exact .inl ⟨by omega, by omega⟩
theorem occ_len (w u : List Int) : (occ w u).length ≤ w.length + 1 := by
  have := occTo_length w u (w.length + 1 - u.length); unfold occ; omega
theorem follow_nn (w : List Int) (hw : ∀ x ∈ w, 0 ≤ x) (n : Nat) (ps : List Int) (hp : ∀ p ∈ ps, 0 ≤ p) : ∀ x ∈ follow w n ps, 0 ≤ x := by
  induction ps with
  | nil => intro x hx; simp [follow] at hx
  | cons p ps ih =>
    have ih := ih (fun q hq => hp q (List.mem_cons_of_mem _ hq))
    have h0 := hp p List.mem_cons_self
    intro x hx
    rw [follow] at hx
    split at hx
    · rename_i c
      rcases List.mem_cons.1 hx with rfl | hx
      · have hl : (p + (n : Int)).toNat < w.length := by omega
        show 0 ≤ w.getD (p + (n : Int)).toNat 0
        rw [getD_eq hl]; exact hw _ (List.getElem_mem _)
      · exact ih x hx
    · exact ih x hx
def rsOf (w : List Int) (n : Nat) (u : List Int) : Bool := diffI (-1) (follow w n (occ w u))
def rsR (w : List Int) (n : Int) : List (List Int) := (factR w n).1.filter (rsOf w n.toNat)
theorem spec_l4Has_ev (l : List Int) (x : Int) (hl : l.length ≤ 1048577) : Ev (fun k => spec_l4Has.f k l x) (decide (x ∈ l)) := by
  have loop : ∀ d i : Nat, i + d = l.length → Ev (fun k => spec_l4Has.l0 k l x (i : Int)) (decide (x ∈ l.drop i)) := by
    intro d
    induction d with
    | zero =>
      intro i h
      refine Ev_succ ?_
      simp only [spec_l4Has.l0]
      refine Ev_neg (by omega) (Ev_some ?_)
      rw [List.drop_of_length_le (by omega)]; simp
    | succ d ih =>
      intro i h
      refine Ev_succ ?_
      simp only [spec_l4Has.l0, rd_cast]
      rw [wsucc (n := i) (by omega), drop_cons l i 0 (by omega)]
      refine Ev_pos (by omega) (Ev_pos (by omega) (Ev_ite (fun h1 => Ev_some ?_) (fun h1 => Ev_eq (ih (i + 1) (by omega)) ?_)))
      · symm; rw [decide_eq_true_eq, h1]; exact List.mem_cons_self
      · rw [decide_eq_decide, List.mem_cons]; exact ⟨fun e => .inr e, fun e => e.resolve_left (fun e2 => h1 e2.symm)⟩
  unfold spec_l4Has.f
  have := loop l.length 0 (Nat.zero_add _)
  rwa [List.drop_zero] at this
section
variable (w : List Int) (n : Nat) (l : List (List Int))
theorem spec_RS_inner (hw : w.length ≤ 128) (hn : n ≤ 40) (x5 : List (List Int)) (i : Nat) (hi : i < l.length) (hil : l.length ≤ 200) (hx5 : x5.length ≤ i) (L : List Int) (hL : L.length ≤ 200) (hp : ∀ p ∈ L, 0 ≤ p ∧ p + n ≤ w.length) (R : List (List Int)) (d : Nat) :
    ∀ j : Nat, j + d = L.length → ∀ acc : List Int, acc.length ≤ j → Ev (fun k => spec_RightSpecial.l0 k w (n : Int) (if 1 < (nextS acc (follow w n (L.drop j))).length then x5 ++ [l.getD i []] else x5) l true ((i + 1 : Nat) : Int)) R →
      Ev (fun k => spec_RightSpecial.l1 k w (n : Int) x5 l true (i : Int) acc L (j : Int)) R := by
  induction d with
  | zero =>
    intro j h acc ha hR
    rw [List.drop_of_length_le (by omega)] at hR
    simp only [follow, nextS] at hR
    refine Ev_succ ?_
    simp only [spec_RightSpecial.l1, rd_L1, Int.toNat_natCast]
    rw [wsucc (n := i) (by omega)]
    refine Ev_neg (by omega) ?_
    by_cases c : 1 < acc.length
    · rw [if_pos c] at hR
      exact Ev_pos (by omega) (Ev_pos (by omega) (Ev_pos (by omega) (Ev_pos (by omega) hR)))
    · rw [if_neg c] at hR
      exact Ev_neg (by omega) hR
  | succ d ih =>
    intro j h acc ha hR
    have hj : j < L.length := by omega
    have hm := hp (L.getD j 0) (by rw [getD_eq hj]; exact List.getElem_mem _)
    rw [drop_cons L j 0 hj] at hR
    rw [follow] at hR
    refine Ev_succ ?_
    have hz := w64 (n := L.getD j 0 + (n : Int)) (by omega) (by omega)
    simp only [spec_RightSpecial.l1, rd_cast, hz]
    rw [wsucc (n := j) (by omega)]
    refine Ev_pos (by omega) (Ev_pos (by omega) (Ev_ite (fun h1 => Ev_pos (by omega) (Ev_call _ (spec_l4Has_ev acc _ (by omega)) ?_)) (fun h1 => ?_)))
    · rw [if_pos h1, nextS] at hR
      by_cases c : rd w (L.getD j 0 + (n : Int)) ∈ acc
      · rw [if_pos c] at hR
        exact Ev_pos (by simpa using c) (ih (j + 1) (by omega) acc (by omega) hR)
      · rw [if_neg c] at hR
        exact Ev_neg (by simpa using c) (Ev_pos (by omega) (ih (j + 1) (by omega) _ (by rw [List.length_append, List.length_singleton]; omega) hR))
    · rw [if_neg h1] at hR
      exact ih (j + 1) (by omega) acc (by omega) hR
theorem impl_RS_inner (hw : w.length ≤ 128) (hn : n ≤ 40) (x5 : List (List Int)) (i : Nat) (hi : i < l.length) (hil : l.length ≤ 200) (hx5 : x5.length ≤ i) (L : List Int) (hL : L.length ≤ 200) (hp : ∀ p ∈ L, 0 ≤ p ∧ p + n ≤ w.length) (R : List (List Int)) (d : Nat) :
    ∀ j : Nat, j + d = L.length → ∀ f : Int, Ev (fun k => impl_RightSpecial.l0 k w (n : Int) (if diffI f (follow w n (L.drop j)) = true then x5 ++ [l.getD i []] else x5) l (l.length : Int) ((i + 1 : Nat) : Int)) R →
      Ev (fun k => impl_RightSpecial.l1 k w (n : Int) x5 f l (l.length : Int) (i : Int) L (L.length : Int) (j : Int)) R := by
  induction d with
  | zero =>
    intro j h f hR
    rw [List.drop_of_length_le (by omega)] at hR
    simp only [follow, diffI] at hR
    refine Ev_succ ?_
    simp only [impl_RightSpecial.l1]
    rw [wsucc (n := i) (by omega)]
    exact Ev_neg (by omega) (by simpa using hR)
  | succ d ih =>
    intro j h f hR
    have hj : j < L.length := by omega
    have hm := hp (L.getD j 0) (by rw [getD_eq hj]; exact List.getElem_mem _)
    rw [drop_cons L j 0 hj] at hR
    refine Ev_succ ?_
    have hz := w64 (n := L.getD j 0 + (n : Int)) (by omega) (by omega)
    simp only [impl_RightSpecial.l1, rd_cast, rd_L1, Int.toNat_natCast, hz]
    rw [wsucc (n := j) (by omega), wsucc (n := i) (by omega)]
    refine Ev_pos (by omega) (Ev_pos (by omega) (Ev_pos (by omega) (Ev_ite (fun h1 => ?_) (fun h1 => Ev_pos (by omega) (Ev_pos (by omega) ?_)))))
    · rw [show follow w n (L.getD j 0 :: L.drop (j + 1)) = follow w n (L.drop (j + 1)) from by rw [follow, if_neg (by omega)]] at hR
      exact ih (j + 1) (by omega) f hR
    · rw [show follow w n (L.getD j 0 :: L.drop (j + 1)) = rd w (L.getD j 0 + (n : Int)) :: follow w n (L.drop (j + 1)) from by rw [follow, if_pos (by omega)]] at hR
      refine Ev_ite (fun h2 => ?_) (fun h2 => Ev_ite (fun h3 => ?_) (fun h3 => Ev_pos (by omega) ?_))
      · rw [show diffI f (rd w (L.getD j 0 + (n : Int)) :: follow w n (L.drop (j + 1))) = diffI (rd w (L.getD j 0 + (n : Int))) (follow w n (L.drop (j + 1))) from by rw [diffI, if_pos h2]] at hR
        exact ih (j + 1) (by omega) _ hR
      · rw [show diffI f (rd w (L.getD j 0 + (n : Int)) :: follow w n (L.drop (j + 1))) = diffI f (follow w n (L.drop (j + 1))) from by rw [diffI, if_neg h2, if_pos h3]] at hR
        exact ih (j + 1) (by omega) f hR
      · rw [show diffI f (rd w (L.getD j 0 + (n : Int)) :: follow w n (L.drop (j + 1))) = true from by rw [diffI, if_neg h2, if_neg h3], if_pos rfl] at hR
        exact hR
variable (hw : w.length ≤ 128) (hnn : ∀ x ∈ w, 0 ≤ x) (hn : n ≤ 40) (hil : l.length ≤ 200) (hl : ∀ u ∈ l, u.length = n) (hf : n ≤ w.length ∨ l = [])
theorem rs_occ (hf : n ≤ w.length ∨ l = []) (hl : ∀ u ∈ l, u.length = n) (u : List Int) (hu : u ∈ l) : ∀ p ∈ occ w u, 0 ≤ p ∧ p + n ≤ w.length := by
  intro p hp
  have h1 := hl u hu
  rcases occ_mem hp with h | h
  · rw [h1] at h; exact h
  · rw [h1] at h
    rcases hf with hf | hf
    · omega
    · subst hf; cases hu
include hw hnn hn hil hl hf in
theorem spec_RS_outer (d : Nat) : ∀ i : Nat, i + d = l.length → ∀ x5 : List (List Int), x5.length ≤ i → Ev (fun k => spec_RightSpecial.l0 k w (n : Int) x5 l true (i : Int)) (x5 ++ (l.drop i).filter (rsOf w n)) := by
  induction d with
  | zero =>
    intro i h x5 hx
    rw [List.drop_of_length_le (by omega)]
    refine Ev_succ ?_
    simp only [spec_RightSpecial.l0]
    refine Ev_neg (by omega) (Ev_succ ?_)
    simp only [spec_RightSpecial.j1]
    exact Ev_neg (by simp) (Ev_some (by simp))
  | succ d ih =>
    intro i h x5 hx
    have hi : i < l.length := by omega
    have hu : l.getD i [] ∈ l := by rw [getD_eq hi]; exact List.getElem_mem _
    have hL := occ_len w (l.getD i [])
    have ho := rs_occ w n l hf hl _ hu
    have hlen := hl _ hu
    refine Ev_succ ?_
    simp only [spec_RightSpecial.l0]
    refine Ev_pos (by omega) (Ev_succ ?_)
    simp only [spec_RightSpecial.j1, rd_L1, Int.toNat_natCast]
    refine Ev_pos (by simp) (Ev_pos (by omega) (Ev_pos (by omega) (Ev_call _ (spec_OccurrencesOf_ev w _ (by omega) (by omega)) ?_)))
    refine spec_RS_inner w n l hw hn x5 i hi hil hx (occ w (l.getD i [])) (by omega) ho _ _ 0 (Nat.zero_add _) [] (Nat.le_refl _) ?_
    rw [List.drop_zero, drop_cons l i [] hi, List.filter_cons]
    have key := nextS_two (follow w n (occ w (l.getD i []))) (follow_nn w hnn n _ (fun p hp => (ho p hp).1))
    by_cases c : rsOf w n (l.getD i []) = true
    · rw [if_pos (key.2 c), if_pos c]
      have := ih (i + 1) (by omega) (x5 ++ [l.getD i []]) (by rw [List.length_append, List.length_singleton]; omega)
      rw [List.append_assoc] at this
      exact this
    · rw [if_neg (fun e => c (key.1 e)), if_neg c]
      exact ih (i + 1) (by omega) x5 (by omega)
include hw hn hil hl hf in
theorem impl_RS_outer (d : Nat) : ∀ i : Nat, i + d = l.length → ∀ x5 : List (List Int), x5.length ≤ i → Ev (fun k => impl_RightSpecial.l0 k w (n : Int) x5 l (l.length : Int) (i : Int)) (x5 ++ (l.drop i).filter (rsOf w n)) := by
  induction d with
  | zero =>
    intro i h x5 hx
    rw [List.drop_of_length_le (by omega)]
    refine Ev_succ ?_
    simp only [impl_RightSpecial.l0]
    exact Ev_neg (by omega) (Ev_some (by simp))
  | succ d ih =>
    intro i h x5 hx
    have hi : i < l.length := by omega
    have hu : l.getD i [] ∈ l := by rw [getD_eq hi]; exact List.getElem_mem _
    have hL := occ_len w (l.getD i [])
    have ho := rs_occ w n l hf hl _ hu
    have hlen := hl _ hu
    refine Ev_succ ?_
    simp only [impl_RightSpecial.l0, rd_L1, Int.toNat_natCast]
    refine Ev_pos (by omega) (Ev_pos (by omega) (Ev_pos (by omega) (Ev_call _ (impl_OccurrencesOf_ev w _ (by omega) (by omega)) ?_)))
    refine impl_RS_inner w n l hw hn x5 i hi hil hx (occ w (l.getD i [])) (by omega) ho _ _ 0 (Nat.zero_add _) (-1) ?_
    rw [List.drop_zero, drop_cons l i [] hi, List.filter_cons]
    by_cases c : rsOf w n (l.getD i []) = true
    · rw [if_pos (show diffI (-1) _ = true from c), if_pos c]
      have := ih (i + 1) (by omega) (x5 ++ [l.getD i []]) (by rw [List.length_append, List.length_singleton]; omega)
      rw [List.append_assoc] at this
      exact this
    · rw [if_neg (show ¬ diffI (-1) _ = true from c), if_neg c]
      exact ih (i + 1) (by omega) x5 (by omega)
end
theorem FnExactRightSpecial (l0 : List Int) (a1 : Int) (hb : l0.length ≤ 1048576) (hw : (Lit.int .i64 a1).wf = true) : ∃ R, Ev (fun k => spec_RightSpecial.f k l0 a1) R ∧ Ev (fun k => impl_RightSpecial.f k l0 a1) R ∧ R.length ≤ 1048576 ∧ ∀ x ∈ R, x.length ≤ 1048576 := by
  have hs := spec_FactorsOf_ev l0 a1 hb
  have hi := impl_FactorsOf_ev l0 a1 hb
  by_cases c : factOk l0 a1 = true
  · have c' := factOk_iff.1 c
    have h1 := facs_length l0 a1.toNat
    have h2 := shortW_le c'.1
    have hnn : ∀ x ∈ l0, 0 ≤ x := by
      have h3 := c'.1
      unfold shortW okWord at h3
      rw [Bool.and_eq_true, decide_eq_true_eq] at h3
      exact fun x hx => (h3.1.1 x hx).1
    obtain ⟨n, rfl⟩ := Int.eq_ofNat_of_zero_le c'.2.1
    rw [Int.toNat_natCast] at h1
    have hl : ∀ u ∈ facs l0 n, u.length = n := fun u hu => Fac.length (mem_facs.1 hu)
    have hf : n ≤ l0.length ∨ facs l0 n = [] := by
      by_cases d : n ≤ l0.length
      · exact .inl d
      · refine .inr (List.eq_nil_iff_forall_not_mem.2 (fun u hu => ?_))
        obtain ⟨i, hi, _⟩ := mem_facs.1 hu
        omega
    have e : factR l0 (n : Int) = (facs l0 n, true) := by unfold factR; rw [if_pos c, Int.toNat_natCast]
    rw [e] at hs hi
    refine ⟨(facs l0 n).filter (rsOf l0 n), ?_, ?_, ?_, fun x hx => ?_⟩
    · unfold spec_RightSpecial.f
      refine Ev_call _ hs ?_
      have := spec_RS_outer l0 n (facs l0 n) h2 hnn (by omega) (by omega) hl hf _ 0 (Nat.zero_add _) [] (Nat.le_refl _)
      rw [List.drop_zero, List.nil_append] at this
      exact this
    · unfold impl_RightSpecial.f
      refine Ev_call _ hi ?_
      have := impl_RS_outer l0 n (facs l0 n) h2 (by omega) (by omega) hl hf _ 0 (Nat.zero_add _) [] (Nat.le_refl _)
      rw [List.drop_zero, List.nil_append] at this
      exact this
    · have := List.length_filter_le (rsOf l0 n) (facs l0 n); omega
    · have := hl x (List.mem_filter.1 hx).1; omega
  · have e : factR l0 a1 = ([], false) := by unfold factR; rw [if_neg c]
    rw [e] at hs hi
    refine ⟨[], ?_, ?_, by simp, by simp⟩
    · unfold spec_RightSpecial.f
      refine Ev_call _ hs (Ev_succ ?_)
      simp only [spec_RightSpecial.l0]
      refine Ev_neg (by simp) (Ev_succ ?_)
      simp only [spec_RightSpecial.j1]
      exact Ev_neg (by simp) (Ev.now _)
    · unfold impl_RightSpecial.f
      refine Ev_call _ hi (Ev_succ ?_)
      simp only [impl_RightSpecial.l0]
      exact Ev_neg (by simp) (Ev.now _)

theorem FnExactRightSpecial_all (l0 : List Int) (a1 : Int) (hb0 : l0.length ≤ 1048576) (hw1 : (Lit.int .i64 a1).wf = true) :
    ∃ (k : Nat) (R R' : List (List Int)) (mg : Int) (m0 : Int) (x0 : List Int), spec_RightSpecial.f k l0 a1 = some R ∧ impl_RightSpecial.f k l0 a1 = some R ∧ laws_eqIntSS.f k R R = some true ∧ laws_markIntSS.f k R 1 = some (mg, R') ∧ 0 ≤ mg ∧ laws_heldIntSS.f k R' 1 = some mg ∧ laws_toIntS.f k l0 = some l0 ∧ laws_eqIntS.f k l0 l0 = some true ∧ laws_markIntS.f k l0 1 = some (m0, x0) ∧ 0 ≤ m0 := by
  obtain ⟨R, h1, h2, hl, hx⟩ := FnExactRightSpecial l0 a1 hb0 hw1
  have ht := total_small hl hx
  have e1 := laws_eqIntSS_ev R R (by omega) (fun x hm => Nat.le_trans (hx x hm) (by omega))
  have e2 := laws_markIntSS_ev R 1 (by omega) (by omega) (by omega)
  have e3 := laws_heldIntSS_ev R 1 (by omega) (by omega) (by omega)
  clear hx
  have t0 := laws_toIntS_ev l0 (by omega)
  have q0 := laws_eqIntS_ev l0 l0 (by omega)
  have p0 := laws_markIntS_ev l0 (1) (by omega) (by omega) (by omega)
  obtain ⟨Kh1, h1⟩ := h1
  obtain ⟨Kh2, h2⟩ := h2
  obtain ⟨Ke1, e1⟩ := e1
  obtain ⟨Ke2, e2⟩ := e2
  obtain ⟨Ke3, e3⟩ := e3
  obtain ⟨Kt0, t0⟩ := t0
  obtain ⟨Kq0, q0⟩ := q0
  obtain ⟨Kp0, p0⟩ := p0
  exact ⟨Kh1 + Kh2 + Ke1 + Ke2 + Ke3 + Kt0 + Kq0 + Kp0, R, marks 1 R, 1 + total R, _, _, h1 _ (by omega), h2 _ (by omega), (e1 _ (by omega)).trans (by simp), e2 _ (by omega), by omega, e3 _ (by omega), t0 _ (by omega), (q0 _ (by omega)).trans (by simp), p0 _ (by omega), by omega⟩

end Go.Proofs.Ytolikggioekalab.Pure
