/- What the law FnExactPalindromesOf is told of its functions: both answer the different palindromes, by length and order. -/
import Derived.Test.YtolikggioekalabWalkFnExactPalindromesOf
import Derived.Test.YtolikggioekalabG0
import Derived.Test.YtolikggioekalabGSized
import Derived.Test.YtolikggioekalabGShort
import Derived.Test.YtolikggioekalabGFacs
import Derived.Test.YtolikggioekalabGMarks
import Derived.Test.YtolikggioekalabGMor
import Derived.Test.YtolikggioekalabGSort
import Derived.Test.YtolikggioekalabG5
namespace Go.Proofs.Ytolikggioekalab.Pure
open Go.RowKit Go.Proofs.Ytolikggioekalab.PFnExactPalindromesOf Go.Proofs.YtolikggioekalabW.PrintWords Go.Proofs.YtolikggioekalabW.PrintLast Go.Proofs.YtolikggioekalabW.PrintMore Go.Proofs.Ytolikggioekalab.G
set_option linter.unusedVariables false
set_option linter.unusedSimpArgs false

/-! ### laws_toIntS -/
theorem laws_toIntS_loop (l : List Int) (hb : l.length ≤ 17592186044416) (d : Nat) : ∀ (n : Nat) (acc : List Int), acc.length = l.length → n ≤ l.length → l.length - n = d → acc.take n = l.take n →
    Ev (fun k => laws_toIntS.l0 k l acc (n : Int)) l := by
  induction d with
  | zero =>
    intro n acc h0 h1 h2 h3
    refine Ev_succ ?_
    simp only [laws_toIntS.l0]
    refine Ev_neg (by omega) (Ev_some ?_)
    have : n = l.length := by omega
    subst this
    rw [List.take_length, ← h0, List.take_length] at h3
    exact h3
  | succ d ih =>
    intro n acc h0 h1 h2 h3
    refine Ev_succ ?_
    simp only [laws_toIntS.l0]
    refine Ev_pos (by omega) (Ev_pos (by omega) (Ev_pos (by omega) ?_))
    rw [rd_cast, wsucc (by omega), Int.toNat_natCast]
    refine ih (n + 1) _ (by simpa using h0) (by omega) (by omega) ?_
    rw [set_take_succ acc n _ (by omega), take_succ_getD l n 0 (by omega), h3]

theorem laws_toIntS_ev (l : List Int) (hb : l.length ≤ 17592186044416) : Ev (fun k => laws_toIntS.f k l) l := by
  unfold laws_toIntS.f
  refine Ev_pos (by omega) (Ev_pos (by omega) ?_)
  exact laws_toIntS_loop l hb _ 0 _ (by simp) (by omega) rfl (by simp)

/-! ### laws_eqIntS -/
theorem laws_eqIntS_loop (a b : List Int) (hl : a.length = b.length) (hb : a.length ≤ 17592186044416) (d : Nat) : ∀ n : Nat, n ≤ a.length → a.length - n = d → a.take n = b.take n →
    Ev (fun k => laws_eqIntS.l0 k a b (n : Int)) (decide (a = b)) := by
  induction d with
  | zero =>
    intro n h1 h2 h3
    refine Ev_succ ?_
    simp only [laws_eqIntS.l0]
    refine Ev_neg (by omega) (Ev_some ?_)
    have : n = a.length := by omega
    subst this
    rw [List.take_length, hl, List.take_length] at h3
    simp [h3]
  | succ d ih =>
    intro n h1 h2 h3
    refine Ev_succ ?_
    simp only [laws_eqIntS.l0]
    refine Ev_pos (by omega) (Ev_pos (by omega) (Ev_pos (by omega) ?_))
    rw [rd_cast, rd_cast, wsucc (by omega)]
    refine Ev_ite (fun h => ?_) (fun h => Ev_some ?_)
    · refine ih (n + 1) (by omega) (by omega) ?_
      rw [take_succ_getD a n 0 (by omega), take_succ_getD b n 0 (by omega), h3, h]
    · symm
      rw [decide_eq_false_iff_not]
      intro e
      exact h (by rw [e])

theorem laws_eqIntS_ev (a b : List Int) (hb : a.length ≤ 17592186044416) : Ev (fun k => laws_eqIntS.f k a b) (decide (a = b)) := by
  unfold laws_eqIntS.f
  refine Ev_ite (fun h => ?_) (fun h => Ev_some ?_)
  · exact laws_eqIntS_loop a b (by omega) hb _ 0 (by omega) rfl (by simp)
  · symm
    rw [decide_eq_false_iff_not]
    intro e
    exact h (by rw [e])

/-! ### laws_eqIntSS -/
theorem laws_eqIntSS_loop (a b : List (List Int)) (hl : a.length = b.length) (hb : a.length ≤ 1048576) (hr : ∀ x ∈ a, x.length ≤ 17592186044416) (d : Nat) : ∀ n : Nat, n + d = a.length → a.take n = b.take n →
    Ev (fun k => laws_eqIntSS.l0 k a b (n : Int)) (decide (a = b)) := by
  induction d with
  | zero =>
    intro n h1 h2
    refine Ev_succ ?_
    simp only [laws_eqIntSS.l0]
    refine Ev_neg (by omega) (Ev_some ?_)
    have : n = a.length := by omega
    subst this
    rw [List.take_length, hl, List.take_length] at h2
    simp [h2]
  | succ d ih =>
    intro n h1 h2
    refine Ev_succ ?_
    simp only [laws_eqIntSS.l0, rd_L1, Int.toNat_natCast]
    have hrow := hr (a.getD n []) (by rw [getD_eq (by omega)]; exact List.getElem_mem _)
    refine Ev_pos (by omega) (Ev_pos (by omega) (Ev_pos (by omega) (Ev_call _ (laws_eqIntS_ev _ _ hrow) ?_)))
    rw [wsucc (n := n) (by omega)]
    refine Ev_ite (fun h => ?_) (fun h => Ev_some ?_)
    · rw [decide_eq_true_eq] at h
      refine ih (n + 1) (by omega) ?_
      rw [take_succ_getD a n [] (by omega), take_succ_getD b n [] (by omega), h2, h]
    · rw [decide_eq_true_eq] at h
      symm
      rw [decide_eq_false_iff_not]
      intro e
      exact h (by rw [e])

theorem laws_eqIntSS_ev (a b : List (List Int)) (hb : a.length ≤ 1048576) (hr : ∀ x ∈ a, x.length ≤ 17592186044416) : Ev (fun k => laws_eqIntSS.f k a b) (decide (a = b)) := by
  unfold laws_eqIntSS.f
  refine Ev_ite (fun h => ?_) (fun h => Ev_some ?_)
  · exact laws_eqIntSS_loop a b (by omega) hb hr _ 0 (Nat.zero_add _) (by simp)
  · symm
    rw [decide_eq_false_iff_not]
    intro e
    exact h (by rw [e])

/-! ### laws_markIntS -/
theorem laws_markIntS_loop (L : Nat) (m : Int) (hm : 0 ≤ m) (hm2 : m ≤ 17592186044416) (hb : L ≤ 17592186044416) (d : Nat) : ∀ (n : Nat) (acc : List Int), acc.length = L → n ≤ L → L - n = d → acc.take n = iota m n →
    Ev (fun k => laws_markIntS.l0 k acc (m + n) (n : Int)) (m + L, iota m L) := by
  induction d with
  | zero =>
    intro n acc h0 h1 h2 h3
    refine Ev_succ ?_
    simp only [laws_markIntS.l0]
    refine Ev_neg (by omega) (Ev_some ?_)
    have : n = L := by omega
    subst this
    rw [← h3, ← h0, List.take_length]
  | succ d ih =>
    intro n acc h0 h1 h2 h3
    refine Ev_succ ?_
    simp only [laws_markIntS.l0]
    refine Ev_pos (by omega) (Ev_pos (by omega) ?_)
    rw [wsucc (by omega), Int.toNat_natCast, w64 (n := m + (n : Int) + 1) (by omega) (by omega)]
    have e : m + (n : Int) + 1 = m + ((n + 1 : Nat) : Int) := by omega
    rw [e]
    refine ih (n + 1) _ (by simpa using h0) (by omega) (by omega) ?_
    rw [set_take_succ acc n _ (by omega), h3, iota_succ]

theorem laws_markIntS_ev (l : List Int) (m : Int) (hm : 0 ≤ m) (hm2 : m ≤ 17592186044416) (hb : l.length ≤ 17592186044416) : Ev (fun k => laws_markIntS.f k l m) (m + l.length, iota m l.length) := by
  unfold laws_markIntS.f
  have := laws_markIntS_loop l.length m hm hm2 hb _ 0 l rfl (by omega) rfl (by simp [iota])
  simpa using this

/-! ### laws_markIntSS -/
theorem laws_markIntSS_loop (rest : List (List Int)) : ∀ (pre : List (List Int)) (a : Int), 0 ≤ a → a + total rest ≤ 17592186044416 → (pre ++ rest).length ≤ 17592186044416 →
    Ev (fun k => laws_markIntSS.l0 k (pre ++ rest) a ((pre.length : Nat) : Int)) (a + total rest, pre ++ marks a rest) := by
  induction rest with
  | nil =>
    intro pre a h0 h1 h2
    refine Ev_succ ?_
    simp only [laws_markIntSS.l0]
    exact Ev_neg (by simp) (Ev_some (by simp [total, marks]))
  | cons r rs ih =>
    intro pre a h0 h1 h2
    simp only [total] at h1
    simp only [List.length_append, List.length_cons] at h2
    have hm := laws_markIntS_ev r a h0 (by omega) (by omega)
    refine Ev_succ ?_
    simp only [laws_markIntSS.l0, rd_L1, Int.toNat_natCast, getD_pre, set_pre]
    refine Ev_pos (by simp; omega) (Ev_pos (by omega) (Ev_call _ hm ?_))
    rw [wsucc (by omega)]
    have := ih (pre ++ [iota a r.length]) (a + r.length) (by omega) (by omega) (by simp; omega)
    simp only [List.length_append, List.length_cons, List.length_nil] at this
    refine Ev_eq this ?_
    simp only [total, marks, List.append_assoc, List.cons_append, List.nil_append, Int.natCast_add]
    congr 1
    omega

theorem laws_markIntSS_ev (l : List (List Int)) (a : Int) (h0 : 0 ≤ a) (h1 : a + total l ≤ 17592186044416) (h2 : l.length ≤ 17592186044416) : Ev (fun k => laws_markIntSS.f k l a) (a + total l, marks a l) := by
  unfold laws_markIntSS.f
  have := laws_markIntSS_loop l [] a h0 h1 (by simpa using h2)
  simpa using this

/-! ### laws_heldIntS -/
theorem laws_heldIntS_loop (L : Nat) (m : Int) (hm : 0 ≤ m) (hm2 : m ≤ 17592186044416) (hb : L ≤ 17592186044416) (d : Nat) : ∀ (n : Nat), n ≤ L → L - n = d →
    Ev (fun k => laws_heldIntS.l0 k (iota m L) (m + n) (n : Int)) (m + L) := by
  induction d with
  | zero =>
    intro n h1 h2
    refine Ev_succ ?_
    simp only [laws_heldIntS.l0]
    refine Ev_neg (by rw [iota_length]; omega) (Ev_some ?_)
    omega
  | succ d ih =>
    intro n h1 h2
    refine Ev_succ ?_
    simp only [laws_heldIntS.l0]
    refine Ev_pos (by rw [iota_length]; omega) (Ev_pos (by omega) ?_)
    rw [rd_cast, iota_getD m L n (by omega)]
    refine Ev_pos rfl ?_
    rw [wsucc (by omega), w64 (n := m + (n : Int) + 1) (by omega) (by omega)]
    have e : m + (n : Int) + 1 = m + ((n + 1 : Nat) : Int) := by omega
    rw [e]
    exact ih (n + 1) (by omega) (by omega)

theorem laws_heldIntS_ev (L : Nat) (m : Int) (hm : 0 ≤ m) (hm2 : m ≤ 17592186044416) (hb : L ≤ 17592186044416) : Ev (fun k => laws_heldIntS.f k (iota m L) m) (m + L) := by
  unfold laws_heldIntS.f
  have := laws_heldIntS_loop L m hm hm2 hb _ 0 (by omega) rfl
  simpa using this

/-! ### laws_heldIntSS -/
theorem laws_heldIntSS_loop (rest : List (List Int)) : ∀ (pre : List (List Int)) (a : Int), 0 ≤ a → a + total rest ≤ 17592186044416 → (pre ++ rest).length ≤ 17592186044416 →
    Ev (fun k => laws_heldIntSS.l0 k (pre ++ marks a rest) a ((pre.length : Nat) : Int)) (a + total rest) := by
  induction rest with
  | nil =>
    intro pre a h0 h1 h2
    refine Ev_succ ?_
    simp only [laws_heldIntSS.l0]
    exact Ev_neg (by simp [marks]) (Ev_some (by simp [total]))
  | cons r rs ih =>
    intro pre a h0 h1 h2
    simp only [total] at h1
    simp only [List.length_append, List.length_cons] at h2
    have hm := laws_heldIntS_ev r.length a h0 (by omega) (by omega)
    refine Ev_succ ?_
    simp only [laws_heldIntSS.l0, rd_L1, Int.toNat_natCast, marks, getD_pre]
    refine Ev_pos (by simp; omega) (Ev_pos (by omega) (Ev_call _ hm (Ev_neg (by omega) ?_)))
    rw [wsucc (by omega)]
    have := ih (pre ++ [iota a r.length]) (a + r.length) (by omega) (by omega) (by simp; omega)
    simp only [List.length_append, List.length_cons, List.length_nil, List.append_assoc, List.cons_append, List.nil_append] at this
    refine Ev_eq this ?_
    simp only [total]
    omega

theorem laws_heldIntSS_ev (l : List (List Int)) (a : Int) (h0 : 0 ≤ a) (h1 : a + total l ≤ 17592186044416) (h2 : l.length ≤ 17592186044416) : Ev (fun k => laws_heldIntSS.f k (marks a l) a) (a + total l) := by
  unfold laws_heldIntSS.f
  have := laws_heldIntSS_loop l [] a h0 h1 (by simpa using h2)
  simpa using this

/-! ### spec_l1In -/
theorem spec_l1In_eq (x a b : Int) : spec_l1In.f x a b = some (decide (a ≤ x ∧ x ≤ b)) := by
  unfold spec_l1In.f
  by_cases h : x ≥ a
  · rw [if_pos h]; simp [h]
  · rw [if_neg h]; congr 1; symm; rw [decide_eq_false_iff_not]; omega

/-! ### spec_IsWord -/
theorem spec_IsWord_loop (w : List Int) (n : Nat) (hw : w.length ≤ 1048576) (hn : n ≤ 1048576) (d : Nat) : ∀ i : Nat, i + d = w.length →
    Ev (fun k => spec_IsWord.l0 k w (n : Int) (i : Int)) (decide (RowIn n (w.drop i) ∧ (1 ≤ n ∧ n ≤ 16) ∧ w.length ≤ 400)) := by
  induction d with
  | zero =>
    intro i h
    refine Ev_succ ?_
    simp only [spec_IsWord.l0]
    have e : w.drop i = [] := List.drop_of_length_le (by omega)
    rw [e]
    refine Ev_neg (by omega) ?_
    by_cases c : 1 ≤ n ∧ n ≤ 16
    · refine Ev_call true (Ev_const ?_) (Ev_pos rfl (Ev_some ?_))
      · unfold spec_l1In.f; rw [if_pos (by omega)]; congr 1; simp; omega
      · rw [decide_eq_decide]; constructor
        · exact fun h => ⟨by simp [RowIn], c, by omega⟩
        · exact fun h => by have := h.2.2; omega
    · refine Ev_call false (Ev_const ?_) (Ev_neg (by simp) (Ev_some ?_))
      · unfold spec_l1In.f
        by_cases c1 : (n : Int) ≥ 1
        · rw [if_pos c1]; congr 1; simp; omega
        · rw [if_neg c1]
      · symm; rw [decide_eq_false_iff_not]; exact fun h => c h.2.1
  | succ d ih =>
    intro i h
    refine Ev_succ ?_
    simp only [spec_IsWord.l0, rd_cast]
    rw [wsucc (n := i) (by omega), drop_cons w i 0 (by omega)]
    refine Ev_pos (by omega) (Ev_pos (by omega) ?_)
    refine Ev_ite (fun h1 => Ev_some ?_) (fun h1 => Ev_ite (fun h2 => Ev_some ?_) (fun h2 => Ev_eq (ih (i + 1) (by omega)) ?_))
    · symm; rw [decide_eq_false_iff_not]; intro e; have := e.1 _ List.mem_cons_self; omega
    · symm; rw [decide_eq_false_iff_not]; intro e; have := e.1 _ List.mem_cons_self; omega
    · rw [decide_eq_decide]
      constructor
      · rintro ⟨e, e2⟩
        refine ⟨fun v hv => ?_, e2⟩
        rcases List.mem_cons.1 hv with rfl | hv
        · exact ⟨by omega, by omega⟩
        · exact e v hv
      · exact fun ⟨e, e2⟩ => ⟨fun v hv => e v (List.mem_cons_of_mem _ hv), e2⟩

theorem spec_IsWord_ev (w : List Int) (n : Nat) (hw : w.length ≤ 1048576) (hn : n ≤ 1048576) : Ev (fun k => spec_IsWord.f k w (n : Int)) (okWord w n) := by
  unfold spec_IsWord.f okWord
  have := spec_IsWord_loop w n hw hn w.length 0 (by omega)
  rwa [List.drop_zero] at this

/-! ### spec_CompareWords -/
theorem spec_CompareWords_loop (u v : List Int) (hu : u.length ≤ 1048576) (d : Nat) : ∀ n : Nat, n + d = u.length → n ≤ v.length →
    Ev (fun k => spec_CompareWords.l0 k u v (n : Int)) (cmpW (u.drop n) (v.drop n)) := by
  induction d with
  | zero =>
    intro n h h2
    have hn : n = u.length := by omega
    subst hn
    refine Ev_succ ?_
    simp only [spec_CompareWords.l0]
    refine Ev_neg (by omega) (Ev_succ ?_)
    simp only [spec_CompareWords.j1]
    refine Ev_neg (by simp) ?_
    rw [List.drop_length, cmpW_nil_left]
    by_cases c : u.length < v.length
    · refine Ev_pos (by omega) (Ev_some ?_)
      rw [if_neg (by simp; omega)]
    · refine Ev_neg (by omega) (Ev_neg (by omega) (Ev_some ?_))
      rw [if_pos (by simp; omega)]
  | succ d ih =>
    intro n h h2
    refine Ev_succ ?_
    simp only [spec_CompareWords.l0]
    refine Ev_pos (by omega) (Ev_succ ?_)
    simp only [spec_CompareWords.j1]
    by_cases c : n < v.length
    · refine Ev_pos (by simp; omega) (Ev_pos (by omega) (Ev_pos (by omega) (Ev_pos (by omega) ?_)))
      rw [rd_cast, rd_cast, drop_cons u n 0 (by omega), drop_cons v n 0 c, cmpW_cons, wsucc (by omega)]
      refine Ev_ite (fun g => Ev_some ?_) (fun g => ?_)
      · rw [if_pos g]
      · rw [if_neg g]
        refine Ev_ite (fun g2 => Ev_some ?_) (fun g2 => ?_)
        · rw [if_pos g2]
        · rw [if_neg g2]
          exact ih (n + 1) (by omega) (by omega)
    · refine Ev_neg (by simp; omega) (Ev_neg (by omega) (Ev_pos (by omega) (Ev_some ?_)))
      rw [List.drop_eq_nil_of_le (show v.length ≤ n by omega), cmpW_nil_right, if_neg (by simp; omega)]

theorem spec_CompareWords_ev (u v : List Int) (hu : u.length ≤ 1048576) : Ev (fun k => spec_CompareWords.f k u v) (cmpW u v) := by
  unfold spec_CompareWords.f
  exact spec_CompareWords_loop u v hu _ 0 (Nat.zero_add _) (by omega)

/-! ### spec_l8Put -/
theorem spec_l8Put_loop (l : List (List Int)) (w : List Int) (hw : w.length ≤ 1048576) (hl : l.length ≤ 1048576) (d : Nat) : ∀ (n : Nat) (out : List (List Int)) (pl : Bool), n + d = l.length → out.length ≤ n + (if pl = true then 1 else 0) →
    Ev (fun k => spec_l8Put.l0 k l w out pl (n : Int)) (out ++ if pl = true then l.drop n else putW w (l.drop n)) := by
  induction d with
  | zero =>
    intro n out pl h1 h2
    have hn : n = l.length := by omega
    have h2' : out.length ≤ n + 1 := by split at h2 <;> omega
    refine Ev_succ ?_
    simp only [spec_l8Put.l0]
    refine Ev_neg (by omega) ?_
    rw [hn, List.drop_length]
    cases pl with
    | true => exact Ev_pos rfl (Ev_some (by simp))
    | false =>
      refine Ev_neg (by simp) ?_
      simp only [Option.bind_some]
      exact Ev_pos (by simp; omega) (Ev_pos (by omega) (Ev_some (by simp [putW])))
  | succ d ih =>
    intro n out pl h1 h2
    have h2' : out.length ≤ n + 1 := by split at h2 <;> omega
    refine Ev_succ ?_
    simp only [spec_l8Put.l0]
    refine Ev_pos (by omega) (Ev_pos (by omega) ?_)
    have hx : rd_L1 l (n : Int) = l.getD n [] := rfl
    rw [hx, drop_cons l n [] (by omega)]
    refine Ev_call _ (spec_CompareWords_ev w (l.getD n []) hw) ?_
    have step : ∀ (pl' : Bool) (out' : List (List Int)), out'.length ≤ n + 1 + (if pl' = true then 1 else 0) → Ev (fun k => spec_l8Put.l0 k l w out' pl' (wrap64 ((n : Int) + 1))) (out' ++ if pl' = true then l.drop (n + 1) else putW w (l.drop (n + 1))) := by
      intro pl' out' h
      rw [wsucc (by omega)]
      exact ih (n + 1) out' pl' (by omega) (by omega)
    by_cases c0 : cmpW w (l.getD n []) = 0
    · refine Ev_pos c0 (Ev_neg (by omega) (Ev_pos (by omega) (Ev_eq (step true _ (by simp; omega)) ?_)))
      rw [if_pos rfl, List.append_assoc]
      congr 1
      cases pl with
      | true => rfl
      | false => rw [if_neg (by simp), putW, if_neg (by omega), if_pos c0]; rfl
    · refine Ev_neg c0 ?_
      by_cases c1 : cmpW w (l.getD n []) < 0
      · refine Ev_pos c1 ?_
        cases pl with
        | true =>
          refine Ev_pos rfl (Ev_pos (by omega) (Ev_eq (step true _ (by simp; omega)) ?_))
          rw [if_pos rfl, if_pos rfl, List.append_assoc]
          rfl
        | false =>
          refine Ev_neg (by simp) ?_
          simp only [Option.bind_some]
          refine Ev_pos (by simp; omega) (Ev_pos (by omega) (Ev_pos (by simp; omega) (Ev_eq (step true _ (by simp at h2 ⊢; omega)) ?_)))
          rw [if_pos rfl, if_neg (by simp), putW, if_pos c1]
          simp
      · refine Ev_neg c1 (Ev_pos (by omega) (Ev_eq (step pl _ (by rw [List.length_append, List.length_singleton]; omega)) ?_))
        rw [List.append_assoc]
        congr 1
        cases pl with
        | true => rfl
        | false => rw [if_neg (by simp), if_neg (by simp), putW, if_neg c1, if_neg c0]; rfl

theorem spec_l8Put_ev (l : List (List Int)) (w : List Int) (hw : w.length ≤ 1048576) (hl : l.length ≤ 1048576) : Ev (fun k => spec_l8Put.f k l w) (putW w l) := by
  unfold spec_l8Put.f
  exact Ev_eq (spec_l8Put_loop l w hw hl l.length 0 [] false (by omega) (by simp)) (by simp)

/-! ### spec_ReverseDigits -/
theorem spec_ReverseDigits_loop (l : List Int) (hb : l.length ≤ 1048576) : ∀ (n : Nat) (acc : List Int), n ≤ l.length → acc.length + n ≤ l.length →
    Ev (fun k => spec_ReverseDigits.l0 k l acc ((n : Int) - 1)) (acc ++ (l.take n).reverse) := by
  intro n
  induction n with
  | zero =>
    intro acc h1 h2
    refine Ev_succ ?_
    simp only [spec_ReverseDigits.l0]
    refine Ev_neg (by omega) (Ev_some ?_)
    simp
  | succ n ih =>
    intro acc h1 h2
    refine Ev_succ ?_
    simp only [spec_ReverseDigits.l0]
    have e : (((n + 1 : Nat) : Int) - 1) = (n : Int) := by omega
    rw [e]
    refine Ev_pos (by omega) (Ev_pos (by omega) (Ev_pos (by omega) (Ev_pos (by omega) ?_)))
    rw [rd_cast, w64 (by omega) (by omega)]
    refine Ev_eq (ih (acc ++ [l.getD n 0]) (by omega) (by simp; omega)) ?_
    rw [take_succ_getD l n 0 (by omega)]
    simp

theorem spec_ReverseDigits_ev (l : List Int) (hb : l.length ≤ 1048576) : Ev (fun k => spec_ReverseDigits.f k l) l.reverse := by
  unfold spec_ReverseDigits.f
  rw [w64 (by omega) (by omega)]
  refine Ev_eq (spec_ReverseDigits_loop l hb l.length [] (by omega) (by simp)) ?_
  simp

/-! ### spec_l3Same -/
theorem spec_l3Same_loop (a b : List Int) (hl : a.length = b.length) (hb : a.length ≤ 17592186044416) (d : Nat) : ∀ n : Nat, n ≤ a.length → a.length - n = d → a.take n = b.take n →
    Ev (fun k => spec_l3Same.l0 k a b (n : Int)) (decide (a = b)) := by
  induction d with
  | zero =>
    intro n h1 h2 h3
    refine Ev_succ ?_
    simp only [spec_l3Same.l0]
    refine Ev_neg (by omega) (Ev_some ?_)
    have : n = a.length := by omega
    subst this
    rw [List.take_length, hl, List.take_length] at h3
    simp [h3]
  | succ d ih =>
    intro n h1 h2 h3
    refine Ev_succ ?_
    simp only [spec_l3Same.l0]
    refine Ev_pos (by omega) (Ev_pos (by omega) (Ev_pos (by omega) ?_))
    rw [rd_cast, rd_cast, wsucc (by omega)]
    refine Ev_ite (fun h => ?_) (fun h => Ev_some ?_)
    · refine ih (n + 1) (by omega) (by omega) ?_
      rw [take_succ_getD a n 0 (by omega), take_succ_getD b n 0 (by omega), h3, h]
    · symm
      rw [decide_eq_false_iff_not]
      intro e
      exact h (by rw [e])

theorem spec_l3Same_ev (a b : List Int) (hb : a.length ≤ 17592186044416) : Ev (fun k => spec_l3Same.f k a b) (decide (a = b)) := by
  unfold spec_l3Same.f
  refine Ev_ite (fun h => ?_) (fun h => Ev_some ?_)
  · exact spec_l3Same_loop a b (by omega) hb _ 0 (by omega) rfl (by simp)
  · symm
    rw [decide_eq_false_iff_not]
    intro e
    exact h (by rw [e])

/-! ### spec_IsPalindrome -/
theorem spec_IsPalindrome_ev (l : List Int) (hb : l.length ≤ 1048576) : Ev (fun k => spec_IsPalindrome.f k l) (decide (l = l.reverse)) := by
  unfold spec_IsPalindrome.f
  refine Ev_call _ (spec_ReverseDigits_ev l hb) ?_
  refine Ev_call _ (spec_l3Same_ev l _ (by omega)) ?_
  exact Ev.now _

/-! ### impl_IsPalindrome -/
theorem impl_IsPalindrome_loop (l : List Int) (hb : l.length ≤ 1048576) (d : Nat) : ∀ n : Nat, n + d = l.length / 2 → (∀ i, i < n → l.getD i 0 = l.getD (l.length - 1 - i) 0) →
    Ev (fun k => impl_IsPalindrome.l0 k l ((l.length / 2 : Nat) : Int) (n : Int)) (decide (l = l.reverse)) := by
  induction d with
  | zero =>
    intro n h h2
    refine Ev_succ ?_
    simp only [impl_IsPalindrome.l0]
    refine Ev_neg (by omega) (Ev_some ?_)
    symm
    rw [decide_eq_true_eq]
    apply ext_getD 0 (by simp)
    intro i hi
    rw [getD_reverse _ _ _ hi]
    by_cases c : i < n
    · exact h2 i c
    · by_cases c2 : l.length - 1 - i < n
      · rw [h2 (l.length - 1 - i) c2]; congr 1; omega
      · congr 1; omega
  | succ d ih =>
    intro n h h2
    refine Ev_succ ?_
    simp only [impl_IsPalindrome.l0]
    rw [w64 (n := (l.length : Int) - 1) (by omega) (by omega), wnat (l.length - 1 - n) (by omega) (by omega), wsucc (by omega), rd_cast, rd_cast]
    refine Ev_pos (by omega) (Ev_pos (by omega) (Ev_pos (by omega) (Ev_pos (by omega) (Ev_pos (by omega) ?_))))
    refine Ev_ite (fun c => ?_) (fun c => Ev_some ?_)
    · refine ih (n + 1) (by omega) ?_
      intro i hi
      by_cases e : i = n
      · subst e; exact c
      · exact h2 i (by omega)
    · symm
      rw [decide_eq_false_iff_not]
      intro e
      apply c
      have := congrArg (fun x => x.getD n 0) e
      rw [getD_reverse _ _ _ (by omega)] at this
      exact this

theorem impl_IsPalindrome_ev (l : List Int) (hb : l.length ≤ 1048576) : Ev (fun k => impl_IsPalindrome.f k l) (decide (l = l.reverse)) := by
  unfold impl_IsPalindrome.f
  rw [wnat (l.length / 2) (by omega) (by omega)]
  exact impl_IsPalindrome_loop l hb _ 0 (Nat.zero_add _) (by intro i h; omega)

/-! ### impl_areLetters -/
theorem impl_areLetters_loop (w : List Int) (n : Nat) (hw : w.length ≤ 1048576) (d : Nat) : ∀ i : Nat, i + d = w.length →
    Ev (fun k => impl_areLetters.l0 k (n : Int) w (w.length : Int) (i : Int)) (decide (RowIn n (w.drop i))) := by
  induction d with
  | zero =>
    intro i h
    refine Ev_succ ?_
    simp only [impl_areLetters.l0]
    have e : w.drop i = [] := List.drop_of_length_le (by omega)
    rw [e]
    exact Ev_neg (by omega) (Ev_some (by simp [RowIn]))
  | succ d ih =>
    intro i h
    refine Ev_succ ?_
    simp only [impl_areLetters.l0, rd_cast]
    rw [wsucc (n := i) (by omega), drop_cons w i 0 (by omega)]
    refine Ev_pos (by omega) (Ev_pos (by omega) (Ev_pos (by omega) ?_))
    refine Ev_ite (fun h1 => Ev_some ?_) (fun h1 => Ev_ite (fun h2 => Ev_some ?_) (fun h2 => Ev_eq (ih (i + 1) (by omega)) ?_))
    · symm; rw [decide_eq_false_iff_not]; intro e; have := e _ List.mem_cons_self; omega
    · symm; rw [decide_eq_false_iff_not]; intro e; have := e _ List.mem_cons_self; omega
    · rw [decide_eq_decide]
      constructor
      · intro e v hv
        rcases List.mem_cons.1 hv with rfl | hv
        · exact ⟨by omega, by omega⟩
        · exact e v hv
      · exact fun e v hv => e v (List.mem_cons_of_mem _ hv)

theorem impl_areLetters_ev (w : List Int) (n : Nat) (hw : w.length ≤ 1048576) : Ev (fun k => impl_areLetters.f k w (n : Int)) (decide (RowIn n w)) := by
  unfold impl_areLetters.f
  have := impl_areLetters_loop w n hw w.length 0 (by omega)
  rwa [List.drop_zero] at this

/-! ### impl_IsWord -/
theorem impl_IsWord_ev (w : List Int) (n : Nat) (hw : w.length ≤ 1048576) : Ev (fun k => impl_IsWord.f k w (n : Int)) (okWord w n) := by
  unfold impl_IsWord.f okWord
  have no : ¬ ((1 ≤ n ∧ n ≤ 16) ∧ w.length ≤ 400) → Ev (fun _ => some false) (decide (RowIn n w ∧ (1 ≤ n ∧ n ≤ 16) ∧ w.length ≤ 400)) := fun h => Ev_some (by symm; rw [decide_eq_false_iff_not]; exact fun e => h e.2)
  refine Ev_ite (fun h1 => Ev_ite (fun h2 => Ev_ite (fun h3 => ?_) (fun h => no (by omega))) (fun h => no (by omega))) (fun h => no (by omega))
  refine Ev_call _ (impl_areLetters_ev w n hw) (Ev_some ?_)
  rw [decide_eq_decide]
  exact ⟨fun e => ⟨e, by omega, by omega⟩, fun e => e.1⟩

/-! ### impl_isShort -/
theorem impl_isShort_ev (w : List Int) (m : Nat) (hb : w.length ≤ 1048576) : Ev (fun k => impl_isShort.f k w (m : Int)) (okWord w 16 && decide (w.length ≤ m)) := by
  unfold impl_isShort.f
  refine Ev_ite (fun h => Ev_call _ (impl_IsWord_ev w 16 hb) (Ev_some ?_)) (fun h => Ev_some ?_)
  · simp; omega
  · simp; omega

def isPal (x : List Int) : Bool := decide (x = x.reverse)
def ptake (w : List Int) (n i : Nat) : List (List Int) := (facsTo w n i).filter isPal
def pn (w : List Int) (n : Nat) : List (List Int) := canon (ptake w n (w.length + 1 - n))
def pto (w : List Int) (n : Nat) : List (List Int) := (List.range n).flatMap fun i => pn w (i + 1)
def palR (w : List Int) : List (List Int) := if okWord w 16 = true ∧ w.length ≤ 64 then pto w w.length else []
def prow (w : List Int) (i t : Nat) : List (List Int) := ((List.range t).map fun s => (w.take (i + 1 + s)).drop i).filter isPal
def pall (w : List Int) (n : Nat) : List (List Int) := (List.range n).flatMap fun i => prow w i (w.length - i)
theorem ptake_succ (w : List Int) (n i : Nat) : ptake w n (i + 1) = ptake w n i ++ if isPal (win w n i) = true then [win w n i] else [] := by
  unfold ptake
  rw [facsTo_succ, List.filter_append]
  by_cases h : isPal (win w n i) = true <;> simp [h]
theorem ptake_length (w : List Int) (n i : Nat) : (ptake w n i).length ≤ i := by
  have := List.length_filter_le isPal (facsTo w n i)
  rw [facsTo_length] at this
  exact this
theorem pto_succ (w : List Int) (n : Nat) : pto w (n + 1) = pto w n ++ pn w (n + 1) := by unfold pto; rw [List.range_succ, List.flatMap_append]; simp
theorem pn_length (w : List Int) (n : Nat) : (pn w n).length ≤ w.length + 1 := by
  have := canon_length (ptake w n (w.length + 1 - n))
  have := ptake_length w n (w.length + 1 - n)
  unfold pn; omega
theorem pto_length (w : List Int) (n : Nat) : (pto w n).length ≤ n * (w.length + 1) := by
  induction n with
  | zero => simp [pto]
  | succ n ih =>
    have := pn_length w (n + 1)
    rw [pto_succ, List.length_append, Nat.succ_mul]; omega
theorem prow_succ (w : List Int) (i t : Nat) : prow w i (t + 1) = prow w i t ++ if isPal ((w.take (i + 1 + t)).drop i) = true then [(w.take (i + 1 + t)).drop i] else [] := by
  unfold prow
  rw [List.range_succ, List.map_append, List.filter_append]
  by_cases h : isPal ((w.take (i + 1 + t)).drop i) = true <;> simp [h]
theorem prow_length (w : List Int) (i t : Nat) : (prow w i t).length ≤ t := by
  have := List.length_filter_le isPal ((List.range t).map fun s => (w.take (i + 1 + s)).drop i)
  rw [List.length_map, List.length_range] at this
  exact this
theorem pall_succ (w : List Int) (n : Nat) : pall w (n + 1) = pall w n ++ prow w n (w.length - n) := by unfold pall; rw [List.range_succ, List.flatMap_append]; simp
theorem pall_length (w : List Int) (n : Nat) : (pall w n).length ≤ n * w.length := by
  induction n with
  | zero => simp [pall]
  | succ n ih =>
    have := prow_length w n (w.length - n)
    rw [pall_succ, List.length_append, Nat.succ_mul]; omega
theorem mem_pn {w : List Int} {n : Nat} {x : List Int} : x ∈ pn w n ↔ Fac w n x ∧ isPal x = true := by
  unfold pn ptake facsTo Fac
  rw [canon_mem, List.mem_filter, List.mem_map]
  constructor
  · rintro ⟨⟨i, hi, e⟩, h⟩
    rw [List.mem_range] at hi
    exact ⟨⟨i, by omega, e⟩, h⟩
  · rintro ⟨⟨i, hi, e⟩, h⟩
    exact ⟨⟨i, by rw [List.mem_range]; omega, e⟩, h⟩
theorem mem_pto {w x : List Int} : x ∈ pto w w.length ↔ x ∈ pall w w.length := by
  unfold pto pall prow
  simp only [List.mem_flatMap, List.mem_range, mem_pn, List.mem_filter, List.mem_map]
  constructor
  · rintro ⟨n, hn, ⟨i, hi, e⟩, hp⟩
    refine ⟨i, by omega, ⟨n, by omega, ?_⟩, hp⟩
    rw [← e, ← win_cut]; congr 2; omega
  · rintro ⟨i, hi, ⟨s, hs, e⟩, hp⟩
    refine ⟨s, by omega, ⟨i, by omega, ?_⟩, hp⟩
    rw [← e, ← win_cut]; congr 2; omega
theorem pto_len {w x : List Int} {n : Nat} (h : x ∈ pto w n) : x.length ≤ w.length := by
  unfold pto at h
  simp only [List.mem_flatMap, List.mem_range, mem_pn] at h
  obtain ⟨m, _, ⟨i, hi, rfl⟩, _⟩ := h
  rw [win_length hi]; omega
theorem pto_asc (w : List Int) (n : Nat) : Asc ((pto w n).map lkey) := by
  unfold Asc pto
  refine List.Pairwise.map (R := fun u v => cmpW (lkey u) (lkey v) < 0) _ (fun a b h => h) ?_
  rw [List.pairwise_flatMap]
  refine ⟨fun i _ => ?_, ?_⟩
  · have h1 : Asc (pn w (i + 1)) := canon_asc _
    refine List.Pairwise.imp_of_mem (fun {u v} hu hv h => ?_) h1
    have e1 := (mem_pn.1 hu).1.length
    have e2 := (mem_pn.1 hv).1.length
    unfold lkey
    rw [cmpW_cons, if_neg (by omega), if_neg (by omega)]
    exact h
  · refine List.Pairwise.imp (fun {a b} (h : a < b) x hx y hy => ?_) (List.pairwise_lt_range)
    have e1 := (mem_pn.1 hx).1.length
    have e2 := (mem_pn.1 hy).1.length
    unfold lkey
    rw [cmpW_cons, if_pos (by omega)]
    omega
theorem palO_eq (w : List Int) (hw : w.length ≤ 64) : palO (pall w w.length) = some (pto w w.length) := by
  have hl := pall_length w w.length
  have : w.length * w.length ≤ 64 * 64 := Nat.mul_le_mul hw hw
  unfold palO
  rw [if_pos (by omega)]
  have e : (pto w w.length).map lkey = canon ((pall w w.length).map lkey) := canon_eq (pto_asc w w.length) (fun x => by
    simp only [List.mem_map, mem_pto])
  rw [← e, List.map_map]
  congr 1
  exact List.map_id _
theorem spec_pal_l1 (w : List Int) (hw : w.length ≤ 64) (R : List (List Int)) (n : Nat) (hn : 1 ≤ n) (hn2 : n ≤ w.length) (x3 : List (List Int)) (hx : x3.length ≤ 5000) (hR : Ev (fun k => spec_PalindromesOf.l0 k w (x3 ++ pn w n) ((n + 1 : Nat) : Int)) R) (d : Nat) :
    ∀ i : Nat, i + d = w.length + 1 - n → Ev (fun k => spec_PalindromesOf.l1 k w x3 (n : Int) (canon (ptake w n i)) (i : Int)) R := by
  induction d with
  | zero =>
    intro i h
    have hp := pn_length w n
    refine Ev_succ ?_
    simp only [spec_PalindromesOf.l1]
    rw [wnat (x := (i : Int) + n) (i + n) (by omega) (by omega)]
    refine Ev_neg (by omega) (Ev_pos ?_ ?_)
    · have := canon_length (ptake w n i)
      have := ptake_length w n i
      omega
    · rw [wsucc (by omega), show i = w.length + 1 - n by omega]
      exact hR
  | succ d ih =>
    intro i h
    refine Ev_succ ?_
    simp only [spec_PalindromesOf.l1]
    rw [wnat (x := (i : Int) + n) (i + n) (by omega) (by omega), Int.toNat_natCast, Int.toNat_natCast, win_cut, wsucc (by omega)]
    have hwl : (win w n i).length = n := win_length (by omega)
    refine Ev_pos (by omega) (Ev_pos (by omega) (Ev_pos (by omega) (Ev_call _ (spec_IsPalindrome_ev _ (by omega)) ?_)))
    have hs := ptake_succ w n i
    have h1 := canon_length (ptake w n i)
    have h2 := ptake_length w n i
    refine Ev_ite (fun c => ?_) (fun c => ?_)
    · refine Ev_call _ (spec_l8Put_ev _ _ (by omega) (by omega)) ?_
      rw [if_pos (show isPal (win w n i) = true from c)] at hs
      rw [← canon_snoc, ← hs]
      exact ih (i + 1) (by omega)
    · rw [if_neg (show ¬ isPal (win w n i) = true from c), List.append_nil] at hs
      have := ih (i + 1) (by omega)
      rw [hs] at this
      exact this
theorem spec_pal_l0 (w : List Int) (hw : w.length ≤ 64) (d : Nat) : ∀ n : Nat, n + d = w.length → Ev (fun k => spec_PalindromesOf.l0 k w (pto w n) ((n + 1 : Nat) : Int)) (pto w w.length) := by
  induction d with
  | zero =>
    intro n h
    refine Ev_succ ?_
    simp only [spec_PalindromesOf.l0]
    exact Ev_neg (by omega) (Ev_some (by rw [show n = w.length by omega]))
  | succ d ih =>
    intro n h
    refine Ev_succ ?_
    simp only [spec_PalindromesOf.l0]
    have hl := pto_length w n
    have : n * (w.length + 1) ≤ 64 * 65 := Nat.mul_le_mul (by omega) (by omega)
    refine Ev_pos (by omega) ?_
    refine spec_pal_l1 w hw _ (n + 1) (by omega) (by omega) (pto w n) (by omega) ?_ _ 0 (Nat.zero_add _)
    rw [← pto_succ]
    exact ih (n + 1) (by omega)
theorem spec_PalindromesOf_ev (w : List Int) (hb : w.length ≤ 1048576) : Ev (fun k => spec_PalindromesOf.f k w) (palR w) := by
  unfold spec_PalindromesOf.f
  simp only [Option.bind_some]
  refine Ev_call _ (spec_IsWord_ev w 16 hb (by omega)) ?_
  have no : ¬ (okWord w 16 = true ∧ w.length ≤ 64) → Ev (fun k => spec_PalindromesOf.j0 k w [] true) (palR w) := fun h => by
    refine Ev_succ ?_
    simp only [spec_PalindromesOf.j0]
    exact Ev_pos (by simp) (Ev_some (by unfold palR; rw [if_neg h]))
  refine Ev_ite (fun h1 => ?_) (fun h1 => no (fun h => h1 h.1))
  by_cases c : w.length ≤ 64
  · rw [show decide ((w.length : Int) > 64) = false from decide_eq_false (by omega)]
    refine Ev_succ ?_
    simp only [spec_PalindromesOf.j0]
    refine Ev_neg (by simp) (Ev_eq (spec_pal_l0 w c w.length 0 (Nat.zero_add _)) ?_)
    unfold palR
    rw [if_pos ⟨h1, c⟩]
  · rw [show decide ((w.length : Int) > 64) = true from decide_eq_true (by omega)]
    exact no (fun h => c h.2)
theorem impl_pal_l1 (w : List Int) (hw : w.length ≤ 64) (R : List (List Int)) (i : Nat) (hi : i < w.length) (x3 : List (List Int)) (hx : x3.length ≤ 5000) (hR : Ev (fun k => impl_PalindromesOf.l0 k w (x3 ++ prow w i (w.length - i)) (w.length : Int) ((i + 1 : Nat) : Int)) R) (d : Nat) :
    ∀ t : Nat, t + d = w.length - i → Ev (fun k => impl_PalindromesOf.l1 k w (x3 ++ prow w i t) (i : Int) ((i + 1 + t : Nat) : Int) (w.length : Int) (i : Int)) R := by
  induction d with
  | zero =>
    intro t h
    refine Ev_succ ?_
    simp only [impl_PalindromesOf.l1]
    refine Ev_neg (by omega) ?_
    rw [wsucc (by omega), show t = w.length - i by omega]
    exact hR
  | succ d ih =>
    intro t h
    refine Ev_succ ?_
    simp only [impl_PalindromesOf.l1, Int.toNat_natCast, Option.bind_some, List.nil_append, List.length_nil]
    rw [wsucc (n := i + 1 + t) (by omega)]
    have hl : ((w.take (i + 1 + t)).drop i).length ≤ 64 := by rw [List.length_drop, List.length_take]; omega
    refine Ev_pos (by omega) (Ev_pos (by omega) (Ev_pos (by omega) (Ev_call _ (impl_IsPalindrome_ev _ (by omega)) ?_)))
    have hs := prow_succ w i t
    have hp := prow_length w i t
    have := ih (t + 1) (by omega)
    rw [show i + 1 + (t + 1) = i + 1 + t + 1 by omega] at this
    refine Ev_ite (fun c => Ev_pos (by omega) (Ev_pos (by rw [List.length_append]; omega) ?_)) (fun c => ?_)
    · rw [if_pos (show isPal ((w.take (i + 1 + t)).drop i) = true from c)] at hs
      rw [hs, ← List.append_assoc] at this
      exact this
    · rw [if_neg (show ¬ isPal ((w.take (i + 1 + t)).drop i) = true from c), List.append_nil] at hs
      rw [hs] at this
      exact this
theorem impl_pal_l0 (w : List Int) (hw : w.length ≤ 64) (d : Nat) : ∀ n : Nat, n + d = w.length → Ev (fun k => impl_PalindromesOf.l0 k w (pall w n) (w.length : Int) (n : Int)) (pto w w.length) := by
  induction d with
  | zero =>
    intro n h
    refine Ev_succ ?_
    simp only [impl_PalindromesOf.l0]
    refine Ev_neg (by omega) ?_
    rw [show n = w.length by omega, palO_eq w hw]
    exact Ev.now _
  | succ d ih =>
    intro n h
    refine Ev_succ ?_
    simp only [impl_PalindromesOf.l0]
    rw [wsucc (n := n) (by omega)]
    have hl := pall_length w n
    have : n * w.length ≤ 64 * 64 := Nat.mul_le_mul (by omega) hw
    refine Ev_pos (by omega) ?_
    have h1 := impl_pal_l1 w hw (pto w w.length) n (by omega) (pall w n) (by omega) (by rw [← pall_succ]; exact ih (n + 1) (by omega)) _ 0 (Nat.zero_add _)
    simpa [prow] using h1
theorem impl_PalindromesOf_ev (w : List Int) (hb : w.length ≤ 1048576) : Ev (fun k => impl_PalindromesOf.f k w) (palR w) := by
  unfold impl_PalindromesOf.f
  simp only [Option.bind_some]
  refine Ev_call _ (impl_isShort_ev w 64 hb) ?_
  refine Ev_ite (fun h1 => ?_) (fun h1 => Ev_some ?_)
  · simp only [Bool.and_eq_true, decide_eq_true_eq] at h1
    have c : w.length ≤ 64 := by omega
    refine Ev_eq (impl_pal_l0 w c w.length 0 (Nat.zero_add _)) ?_
    unfold palR
    rw [if_pos ⟨h1.1, c⟩]
  · unfold palR
    rw [if_neg]
    rintro ⟨h2, h3⟩
    apply h1
    simp only [Bool.and_eq_true, decide_eq_true_eq]
    exact ⟨h2, by omega⟩
theorem FnExactPalindromesOf (l0 : List Int) (hb : l0.length ≤ 1048576) : ∃ R, Ev (fun k => spec_PalindromesOf.f k l0) R ∧ Ev (fun k => impl_PalindromesOf.f k l0) R ∧ R.length ≤ 1048576 ∧ ∀ x ∈ R, x.length ≤ 1048576 := by
  refine ⟨_, spec_PalindromesOf_ev l0 hb, impl_PalindromesOf_ev l0 hb, ?_, fun x hx => ?_⟩
  · unfold palR
    split
    · rename_i h
      have := pto_length l0 l0.length
      have : l0.length * (l0.length + 1) ≤ 64 * 65 := Nat.mul_le_mul h.2 (by omega)
      omega
    · simp
  · unfold palR at hx
    split at hx
    · have := pto_len hx; omega
    · cases hx

theorem FnExactPalindromesOf_all (l0 : List Int) (hb0 : l0.length ≤ 1048576) :
    ∃ (k : Nat) (R R' : List (List Int)) (mg : Int) (m0 : Int) (x0 : List Int), spec_PalindromesOf.f k l0 = some R ∧ impl_PalindromesOf.f k l0 = some R ∧ laws_eqIntSS.f k R R = some true ∧ laws_markIntSS.f k R 1 = some (mg, R') ∧ 0 ≤ mg ∧ laws_heldIntSS.f k R' 1 = some mg ∧ laws_toIntS.f k l0 = some l0 ∧ laws_eqIntS.f k l0 l0 = some true ∧ laws_markIntS.f k l0 1 = some (m0, x0) ∧ 0 ≤ m0 := by
  obtain ⟨R, h1, h2, hl, hx⟩ := FnExactPalindromesOf l0 hb0
  have ht := total_small hl hx
  have e1 := laws_eqIntSS_ev R R (by omega) (fun x hm => Nat.le_trans (hx x hm) (by omega))
  have e2 := laws_markIntSS_ev R 1 (by omega) (by omega) (by omega)
  have e3 := laws_heldIntSS_ev R 1 (by omega) (by omega) (by omega)
  clear hx
  have t0 := laws_toIntS_ev l0 (by omega)
  have q0 := laws_eqIntS_ev l0 l0 (by omega)
  have p0 := laws_markIntS_ev l0 (1) (by omega) (by omega) (by omega)
  obtain ⟨Kh1, h1⟩ := h1
  obtain ⟨Kh2, h2⟩ := h2
  obtain ⟨Ke1, e1⟩ := e1
  obtain ⟨Ke2, e2⟩ := e2
  obtain ⟨Ke3, e3⟩ := e3
  obtain ⟨Kt0, t0⟩ := t0
  obtain ⟨Kq0, q0⟩ := q0
  obtain ⟨Kp0, p0⟩ := p0
  exact ⟨Kh1 + Kh2 + Ke1 + Ke2 + Ke3 + Kt0 + Kq0 + Kp0, R, marks 1 R, 1 + total R, _, _, h1 _ (by omega), h2 _ (by omega), (e1 _ (by omega)).trans (by simp), e2 _ (by omega), by omega, e3 _ (by omega), t0 _ (by omega), (q0 _ (by omega)).trans (by simp), p0 _ (by omega), by omega⟩

end Go.Proofs.Ytolikggioekalab.Pure
