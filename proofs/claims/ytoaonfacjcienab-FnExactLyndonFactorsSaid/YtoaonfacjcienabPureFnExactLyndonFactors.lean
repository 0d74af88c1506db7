/- The pure statement of FnExactLyndonFactors: at every list the law's answer is true. -/
import Derived.Test.YtoaonfacjcienabMFnExactLyndonFactorsx3
import Derived.Test.YtoaonfacjcienabG0
import Derived.Test.YtoaonfacjcienabGSized
import Derived.Test.YtoaonfacjcienabGMarks
import Derived.Test.YtoaonfacjcienabG9
namespace Go.Proofs.Ytoaonfacjcienab.Pure
open Go.RowKit Go.Proofs.Ytoaonfacjcienab.PFnExactLyndonFactors Go.Proofs.YtoaonfacjcienabW.PrintWords Go.Proofs.YtoaonfacjcienabW.PrintLast Go.Proofs.YtoaonfacjcienabW.PrintMore Go.Proofs.Ytoaonfacjcienab.G
set_option linter.unusedVariables false
set_option linter.unusedSimpArgs false

/-! ### laws_toIntS -/
theorem laws_toIntS_loop (l : List Int) (hb : l.length ≤ 17592186044416) (d : Nat) : ∀ (n : Nat) (acc : List Int), acc.length = l.length → n ≤ l.length → l.length - n = d → acc.take n = l.take n →
    Ev (fun k => laws_toIntS.l0 k l acc (n : Int)) l := by
  induction d with
  | zero =>
    intro n acc h0 h1 h2 h3
    refine Ev_succ ?_
    simp only [laws_toIntS.l0]
    refine Ev_neg (by omega) (Ev_some ?_)
    have : n = l.length := by omega
    subst this
    rw [List.take_length, ← h0, List.take_length] at h3
    exact h3
  | succ d ih =>
    intro n acc h0 h1 h2 h3
    refine Ev_succ ?_
    simp only [laws_toIntS.l0]
    refine Ev_pos (by omega) (Ev_pos (by omega) (Ev_pos (by omega) ?_))
    rw [rd_cast, wsucc (by omega), Int.toNat_natCast]
    refine ih (n + 1) _ (by simpa using h0) (by omega) (by omega) ?_
    rw [set_take_succ acc n _ (by omega), take_succ_getD l n 0 (by omega), h3]

theorem laws_toIntS_ev (l : List Int) (hb : l.length ≤ 17592186044416) : Ev (fun k => laws_toIntS.f k l) l := by
  unfold laws_toIntS.f
  refine Ev_pos (by omega) (Ev_pos (by omega) ?_)
  exact laws_toIntS_loop l hb _ 0 _ (by simp) (by omega) rfl (by simp)

/-! ### laws_eqIntS -/
theorem laws_eqIntS_loop (a b : List Int) (hl : a.length = b.length) (hb : a.length ≤ 17592186044416) (d : Nat) : ∀ n : Nat, n ≤ a.length → a.length - n = d → a.take n = b.take n →
    Ev (fun k => laws_eqIntS.l0 k a b (n : Int)) (decide (a = b)) := by
  induction d with
  | zero =>
    intro n h1 h2 h3
    refine Ev_succ ?_
    simp only [laws_eqIntS.l0]
    refine Ev_neg (by omega) (Ev_some ?_)
    have : n = a.length := by omega
    subst this
    rw [List.take_length, hl, List.take_length] at h3
    simp [h3]
  | succ d ih =>
    intro n h1 h2 h3
    refine Ev_succ ?_
    simp only [laws_eqIntS.l0]
    refine Ev_pos (by omega) (Ev_pos (by omega) (Ev_pos (by omega) ?_))
    rw [rd_cast, rd_cast, wsucc (by omega)]
    refine Ev_ite (fun h => ?_) (fun h => Ev_some ?_)
    · refine ih (n + 1) (by omega) (by omega) ?_
      rw [take_succ_getD a n 0 (by omega), take_succ_getD b n 0 (by omega), h3, h]
    · symm
      rw [decide_eq_false_iff_not]
      intro e
      exact h (by rw [e])

theorem laws_eqIntS_ev (a b : List Int) (hb : a.length ≤ 17592186044416) : Ev (fun k => laws_eqIntS.f k a b) (decide (a = b)) := by
  unfold laws_eqIntS.f
  refine Ev_ite (fun h => ?_) (fun h => Ev_some ?_)
  · exact laws_eqIntS_loop a b (by omega) hb _ 0 (by omega) rfl (by simp)
  · symm
    rw [decide_eq_false_iff_not]
    intro e
    exact h (by rw [e])

/-! ### laws_eqIntSS -/
theorem laws_eqIntSS_loop (a b : List (List Int)) (hl : a.length = b.length) (hb : a.length ≤ 1048576) (hr : ∀ x ∈ a, x.length ≤ 17592186044416) (d : Nat) : ∀ n : Nat, n + d = a.length → a.take n = b.take n →
    Ev (fun k => laws_eqIntSS.l0 k a b (n : Int)) (decide (a = b)) := by
  induction d with
  | zero =>
    intro n h1 h2
    refine Ev_succ ?_
    simp only [laws_eqIntSS.l0]
    refine Ev_neg (by omega) (Ev_some ?_)
    have : n = a.length := by omega
    subst this
    rw [List.take_length, hl, List.take_length] at h2
    simp [h2]
  | succ d ih =>
    intro n h1 h2
    refine Ev_succ ?_
    simp only [laws_eqIntSS.l0, rd_L1, Int.toNat_natCast]
    have hrow := hr (a.getD n []) (by rw [getD_eq (by omega)]; exact List.getElem_mem _)
    refine Ev_pos (by omega) (Ev_pos (by omega) (Ev_pos (by omega) (Ev_call _ (laws_eqIntS_ev _ _ hrow) ?_)))
    rw [wsucc (n := n) (by omega)]
    refine Ev_ite (fun h => ?_) (fun h => Ev_some ?_)
    · rw [decide_eq_true_eq] at h
      refine ih (n + 1) (by omega) ?_
      rw [take_succ_getD a n [] (by omega), take_succ_getD b n [] (by omega), h2, h]
    · rw [decide_eq_true_eq] at h
      symm
      rw [decide_eq_false_iff_not]
      intro e
      exact h (by rw [e])

theorem laws_eqIntSS_ev (a b : List (List Int)) (hb : a.length ≤ 1048576) (hr : ∀ x ∈ a, x.length ≤ 17592186044416) : Ev (fun k => laws_eqIntSS.f k a b) (decide (a = b)) := by
  unfold laws_eqIntSS.f
  refine Ev_ite (fun h => ?_) (fun h => Ev_some ?_)
  · exact laws_eqIntSS_loop a b (by omega) hb hr _ 0 (Nat.zero_add _) (by simp)
  · symm
    rw [decide_eq_false_iff_not]
    intro e
    exact h (by rw [e])

/-! ### laws_markIntS -/
theorem laws_markIntS_loop (L : Nat) (m : Int) (hm : 0 ≤ m) (hm2 : m ≤ 17592186044416) (hb : L ≤ 17592186044416) (d : Nat) : ∀ (n : Nat) (acc : List Int), acc.length = L → n ≤ L → L - n = d → acc.take n = iota m n →
    Ev (fun k => laws_markIntS.l0 k acc (m + n) (n : Int)) (m + L, iota m L) := by
  induction d with
  | zero =>
    intro n acc h0 h1 h2 h3
    refine Ev_succ ?_
    simp only [laws_markIntS.l0]
    refine Ev_neg (by omega) (Ev_some ?_)
    have : n = L := by omega
    subst this
    rw [← h3, ← h0, List.take_length]
  | succ d ih =>
    intro n acc h0 h1 h2 h3
    refine Ev_succ ?_
    simp only [laws_markIntS.l0]
    refine Ev_pos (by omega) (Ev_pos (by omega) ?_)
    rw [wsucc (by omega), Int.toNat_natCast, w64 (n := m + (n : Int) + 1) (by omega) (by omega)]
    have e : m + (n : Int) + 1 = m + ((n + 1 : Nat) : Int) := by omega
    rw [e]
    refine ih (n + 1) _ (by simpa using h0) (by omega) (by omega) ?_
    rw [set_take_succ acc n _ (by omega), h3, iota_succ]

theorem laws_markIntS_ev (l : List Int) (m : Int) (hm : 0 ≤ m) (hm2 : m ≤ 17592186044416) (hb : l.length ≤ 17592186044416) : Ev (fun k => laws_markIntS.f k l m) (m + l.length, iota m l.length) := by
  unfold laws_markIntS.f
  have := laws_markIntS_loop l.length m hm hm2 hb _ 0 l rfl (by omega) rfl (by simp [iota])
  simpa using this

/-! ### laws_markIntSS -/
theorem laws_markIntSS_loop (rest : List (List Int)) : ∀ (pre : List (List Int)) (a : Int), 0 ≤ a → a + total rest ≤ 17592186044416 → (pre ++ rest).length ≤ 17592186044416 →
    Ev (fun k => laws_markIntSS.l0 k (pre ++ rest) a ((pre.length : Nat) : Int)) (a + total rest, pre ++ marks a rest) := by
  induction rest with
  | nil =>
    intro pre a h0 h1 h2
    refine Ev_succ ?_
    simp only [laws_markIntSS.l0]
    exact Ev_neg (by simp) (Ev_some (by simp [total, marks]))
  | cons r rs ih =>
    intro pre a h0 h1 h2
    simp only [total] at h1
    simp only [List.length_append, List.length_cons] at h2
    have hm := laws_markIntS_ev r a h0 (by omega) (by omega)
    refine Ev_succ ?_
    simp only [laws_markIntSS.l0, rd_L1, Int.toNat_natCast, getD_pre, set_pre]
    refine Ev_pos (by simp; omega) (Ev_pos (by omega) (Ev_call _ hm ?_))
    rw [wsucc (by omega)]
    have := ih (pre ++ [iota a r.length]) (a + r.length) (by omega) (by omega) (by simp; omega)
    simp only [List.length_append, List.length_cons, List.length_nil] at this
    refine Ev_eq this ?_
    simp only [total, marks, List.append_assoc, List.cons_append, List.nil_append, Int.natCast_add]
    congr 1
    omega

theorem laws_markIntSS_ev (l : List (List Int)) (a : Int) (h0 : 0 ≤ a) (h1 : a + total l ≤ 17592186044416) (h2 : l.length ≤ 17592186044416) : Ev (fun k => laws_markIntSS.f k l a) (a + total l, marks a l) := by
  unfold laws_markIntSS.f
  have := laws_markIntSS_loop l [] a h0 h1 (by simpa using h2)
  simpa using this

/-! ### laws_heldIntS -/
theorem laws_heldIntS_loop (L : Nat) (m : Int) (hm : 0 ≤ m) (hm2 : m ≤ 17592186044416) (hb : L ≤ 17592186044416) (d : Nat) : ∀ (n : Nat), n ≤ L → L - n = d →
    Ev (fun k => laws_heldIntS.l0 k (iota m L) (m + n) (n : Int)) (m + L) := by
  induction d with
  | zero =>
    intro n h1 h2
    refine Ev_succ ?_
    simp only [laws_heldIntS.l0]
    refine Ev_neg (by rw [iota_length]; omega) (Ev_some ?_)
    omega
  | succ d ih =>
    intro n h1 h2
    refine Ev_succ ?_
    simp only [laws_heldIntS.l0]
    refine Ev_pos (by rw [iota_length]; omega) (Ev_pos (by omega) ?_)
    rw [rd_cast, iota_getD m L n (by omega)]
    refine Ev_pos rfl ?_
    rw [wsucc (by omega), w64 (n := m + (n : Int) + 1) (by omega) (by omega)]
    have e : m + (n : Int) + 1 = m + ((n + 1 : Nat) : Int) := by omega
    rw [e]
    exact ih (n + 1) (by omega) (by omega)

theorem laws_heldIntS_ev (L : Nat) (m : Int) (hm : 0 ≤ m) (hm2 : m ≤ 17592186044416) (hb : L ≤ 17592186044416) : Ev (fun k => laws_heldIntS.f k (iota m L) m) (m + L) := by
  unfold laws_heldIntS.f
  have := laws_heldIntS_loop L m hm hm2 hb _ 0 (by omega) rfl
  simpa using this

/-! ### laws_heldIntSS -/
theorem laws_heldIntSS_loop (rest : List (List Int)) : ∀ (pre : List (List Int)) (a : Int), 0 ≤ a → a + total rest ≤ 17592186044416 → (pre ++ rest).length ≤ 17592186044416 →
    Ev (fun k => laws_heldIntSS.l0 k (pre ++ marks a rest) a ((pre.length : Nat) : Int)) (a + total rest) := by
  induction rest with
  | nil =>
    intro pre a h0 h1 h2
    refine Ev_succ ?_
    simp only [laws_heldIntSS.l0]
    exact Ev_neg (by simp [marks]) (Ev_some (by simp [total]))
  | cons r rs ih =>
    intro pre a h0 h1 h2
    simp only [total] at h1
    simp only [List.length_append, List.length_cons] at h2
    have hm := laws_heldIntS_ev r.length a h0 (by omega) (by omega)
    refine Ev_succ ?_
    simp only [laws_heldIntSS.l0, rd_L1, Int.toNat_natCast, marks, getD_pre]
    refine Ev_pos (by simp; omega) (Ev_pos (by omega) (Ev_call _ hm (Ev_neg (by omega) ?_)))
    rw [wsucc (by omega)]
    have := ih (pre ++ [iota a r.length]) (a + r.length) (by omega) (by omega) (by simp; omega)
    simp only [List.length_append, List.length_cons, List.length_nil, List.append_assoc, List.cons_append, List.nil_append] at this
    refine Ev_eq this ?_
    simp only [total]
    omega

theorem laws_heldIntSS_ev (l : List (List Int)) (a : Int) (h0 : 0 ≤ a) (h1 : a + total l ≤ 17592186044416) (h2 : l.length ≤ 17592186044416) : Ev (fun k => laws_heldIntSS.f k (marks a l) a) (a + total l) := by
  unfold laws_heldIntSS.f
  have := laws_heldIntSS_loop l [] a h0 h1 (by simpa using h2)
  simpa using this

/-! ### dpos_facts -/
theorem dpos_facts (w : List Int) (i p : Nat) (hp : 1 ≤ p) (f : Nat) : ∀ a : Nat, (a ≤ i → i < a + f) → i + p ≤ w.length → a ≤ i + p →
    a + (dpos w i p f a).1.length ≤ (dpos w i p f a).2 ∧ (dpos w i p f a).2 ≤ i + p ∧ (1 ≤ f → a ≤ i → a < (dpos w i p f a).2) := by
  induction f with
  | zero => intro a h1 h2 h3; simp [dpos]; omega
  | succ f ih =>
    intro a h1 h2 h3
    rw [dpos]
    by_cases c : a ≤ i
    · rw [if_pos c]
      have := ih (a + p) (fun _ => by omega) h2 (by omega)
      simp only [List.length_cons]
      omega
    · rw [if_neg c]
      simp
      omega


theorem duv_length (w : List Int) (f : Nat) : ∀ a : Nat, a ≤ w.length → (duv w f a).length ≤ w.length - a := by
  induction f with
  | zero => intro a h; simp [duv]
  | succ f ih =>
    intro a h
    rw [duv]
    by_cases c : a < w.length
    · have he := dscan_end w a w.length a (a + 1) (DInv.start c) (by omega)
      rw [if_pos c]
      generalize hs : dscan w a w.length a (a + 1) = s at he
      have l1 := he.1.le
      have l2 := he.1.lt
      have l3 := he.1.len
      have hf := dpos_facts w s.1 (s.2 - s.1) (by omega) w.length a (fun _ => by omega) (by omega) (by omega)
      have := ih _ (show (dpos w s.1 (s.2 - s.1) w.length a).2 ≤ w.length by omega)
      rw [List.length_append]
      omega
    · rw [if_neg c]; simp

theorem dpos_rows (w : List Int) (i p : Nat) (f : Nat) : ∀ a : Nat, ∀ x ∈ (dpos w i p f a).1, x.length ≤ w.length := by
  induction f with
  | zero => intro a x hx; simp [dpos] at hx
  | succ f ih =>
    intro a x hx
    rw [dpos] at hx
    split at hx
    · rcases List.mem_cons.1 hx with rfl | hx
      · simp; omega
      · exact ih _ x hx
    · simp at hx

theorem duv_rows (w : List Int) (f : Nat) : ∀ a : Nat, ∀ x ∈ duv w f a, x.length ≤ w.length := by
  induction f with
  | zero => intro a x hx; simp [duv] at hx
  | succ f ih =>
    intro a x hx
    rw [duv] at hx
    split at hx
    · rcases List.mem_append.1 hx with hx | hx
      · exact dpos_rows _ _ _ _ _ x hx
      · exact ih _ x hx
    · simp at hx

/-! ### spec_LyndonFactors -/
theorem spec_LyndonFactors_l2 (w : List Int) (hb : w.length ≤ 1048576) (i j : Nat) (hij : i < j) (hj : j ≤ w.length) (r : List (List Int)) (f : Nat) : ∀ (a : Nat) (out : List (List Int)), i < a + f → a ≤ j → out.length ≤ a →
    Ev (fun k => spec_LyndonFactors.l0 k w (out ++ (dpos w i (j - i) f a).1) (((dpos w i (j - i) f a).2 : Nat) : Int)) r →
    Ev (fun k => spec_LyndonFactors.l2 k w out (a : Int) (j : Int) (i : Int)) r := by
  induction f with
  | zero =>
    intro a out h1 h2 h3 h4
    refine Ev_succ ?_
    simp only [spec_LyndonFactors.l2]
    simp only [dpos, List.append_nil] at h4
    exact Ev_neg (by omega) h4
  | succ f ih =>
    intro a out h1 h2 h3 h4
    refine Ev_succ ?_
    simp only [spec_LyndonFactors.l2]
    rw [dpos] at h4
    by_cases c : a ≤ i
    · rw [if_pos c] at h4
      rw [wnat (x := (a : Int) + j) (a + j) (by omega) (by omega), wnat (x := ((a + j : Nat) : Int) - i) (a + (j - i)) (by omega) (by omega), Int.toNat_natCast, Int.toNat_natCast]
      have hc : ((w.take (a + (j - i))).drop a).length ≤ w.length := by simp; omega
      refine Ev_pos (by omega) (Ev_call _ (Ev.now _) (Ev_pos (by omega) (Ev_pos (by omega) (Ev_pos (by omega) (Ev_pos (by rw [List.length_nil]; omega) (Ev_pos (by omega) ?_))))))
      rw [List.nil_append]
      refine ih (a + (j - i)) _ (by omega) (by omega) (by simp; omega) ?_
      simpa using h4
    · rw [if_neg c] at h4
      simp only [List.append_nil] at h4
      exact Ev_neg (by omega) h4

theorem spec_LyndonFactors_l1 (w : List Int) (hb : w.length ≤ 1048576) (a : Nat) (out : List (List Int)) (r : List (List Int)) (f : Nat) : ∀ i j : Nat, i < j → a ≤ i → j ≤ w.length → w.length ≤ j + f →
    Ev (fun k => spec_LyndonFactors.l2 k w out (a : Int) (((dscan w a f i j).2 : Nat) : Int) (((dscan w a f i j).1 : Nat) : Int)) r →
    Ev (fun k => spec_LyndonFactors.l1 k w out (a : Int) (j : Int) (i : Int)) r := by
  induction f with
  | zero =>
    intro i j h1 h2 h3 h4 h5
    refine Ev_succ ?_
    simp only [spec_LyndonFactors.l1]
    refine Ev_neg (by omega) (Ev_succ ?_)
    simp only [spec_LyndonFactors.j2]
    exact Ev_neg (by simp) h5
  | succ f ih =>
    intro i j h1 h2 h3 h4 h5
    refine Ev_succ ?_
    simp only [spec_LyndonFactors.l1]
    rw [dscan] at h5
    by_cases c : j < w.length
    · refine Ev_pos (by omega) (Ev_pos (by omega) (Ev_pos (by omega) (Ev_pos (by omega) (Ev_succ ?_))))
      simp only [spec_LyndonFactors.j2]
      rw [rd_cast, rd_cast]
      by_cases c2 : w.getD i 0 ≤ w.getD j 0
      · rw [if_pos ⟨c, c2⟩] at h5
        refine Ev_pos (by simp only [decide_eq_true_eq]; exact c2) (Ev_pos (by omega) (Ev_pos (by omega) (Ev_pos (by omega) (Ev_pos (by omega) ?_))))
        rw [wsucc (n := i) (by omega), wsucc (n := j) (by omega)]
        by_cases c3 : w.getD i 0 < w.getD j 0
        · rw [if_pos c3] at h5
          exact Ev_pos c3 (ih a (j + 1) (by omega) (by omega) (by omega) (by omega) h5)
        · rw [if_neg c3] at h5
          exact Ev_neg c3 (ih (i + 1) (j + 1) (by omega) (by omega) (by omega) (by omega) h5)
      · rw [if_neg (by intro h; exact c2 h.2)] at h5
        exact Ev_neg (by simp only [decide_eq_true_eq]; exact c2) h5
    · rw [if_neg (by intro h; exact c h.1)] at h5
      refine Ev_neg (by omega) (Ev_succ ?_)
      simp only [spec_LyndonFactors.j2]
      exact Ev_neg (by simp) h5

theorem spec_LyndonFactors_l0 (w : List Int) (hb : w.length ≤ 1048576) (f : Nat) : ∀ (a : Nat) (out : List (List Int)), w.length ≤ a + f → a ≤ w.length → out.length ≤ a →
    Ev (fun k => spec_LyndonFactors.l0 k w out (a : Int)) (out ++ duv w f a) := by
  induction f with
  | zero =>
    intro a out h1 h2 h3
    refine Ev_succ ?_
    simp only [spec_LyndonFactors.l0]
    exact Ev_neg (by omega) (Ev_some (by simp [duv]))
  | succ f ih =>
    intro a out h1 h2 h3
    refine Ev_succ ?_
    simp only [spec_LyndonFactors.l0]
    by_cases c : a < w.length
    · have he := dscan_end w a w.length a (a + 1) (DInv.start c) (by omega)
      rw [duv, if_pos c]
      generalize hs : dscan w a w.length a (a + 1) = s at he
      have l1 := he.1.le
      have l2 := he.1.lt
      have l3 := he.1.len
      have hf := dpos_facts w s.1 (s.2 - s.1) (by omega) w.length a (fun _ => by omega) (by omega) (by omega)
      rw [wsucc (n := a) (by omega)]
      refine Ev_pos (by omega) ?_
      refine spec_LyndonFactors_l1 w hb a out _ w.length a (a + 1) (by omega) (by omega) (by omega) (by omega) ?_
      rw [hs]
      refine spec_LyndonFactors_l2 w hb s.1 s.2 l2 l3 _ w.length a out (by omega) (by omega) h3 ?_
      rw [← List.append_assoc]
      exact ih _ _ (by omega) (by omega) (by simp; omega)
    · rw [duv, if_neg c]
      exact Ev_neg (by omega) (Ev_some (by simp))

theorem spec_LyndonFactors_ev (w : List Int) (hb : w.length ≤ 1048576) : Ev (fun k => spec_LyndonFactors.f k w) (duv w w.length 0) := by
  unfold spec_LyndonFactors.f
  exact spec_LyndonFactors_l0 w hb w.length 0 [] (by omega) (by omega) (by simp)

/-! ### impl_lyndon -/
theorem impl_lyndon_l2 (w : List Int) (hb : w.length ≤ 1048576) (i j : Nat) (hij : i < j) (hj : j ≤ w.length) (r : List (List Int)) (f : Nat) : ∀ (a : Nat) (out : List (List Int)), i < a + f → a ≤ j → out.length ≤ a →
    Ev (fun k => impl_lyndon.l0 k w (out ++ (dpos w i (j - i) f a).1) (((dpos w i (j - i) f a).2 : Nat) : Int)) r →
    Ev (fun k => impl_lyndon.l2 k w out (a : Int) (i : Int) (j : Int)) r := by
  induction f with
  | zero =>
    intro a out h1 h2 h3 h4
    refine Ev_succ ?_
    simp only [impl_lyndon.l2]
    simp only [dpos, List.append_nil] at h4
    exact Ev_neg (by omega) h4
  | succ f ih =>
    intro a out h1 h2 h3 h4
    refine Ev_succ ?_
    simp only [impl_lyndon.l2]
    rw [dpos] at h4
    by_cases c : a ≤ i
    · rw [if_pos c] at h4
      rw [wnat (x := (a : Int) + j) (a + j) (by omega) (by omega), wnat (x := ((a + j : Nat) : Int) - i) (a + (j - i)) (by omega) (by omega), wnat (x := (j : Int) - i) (j - i) (by omega) (by omega), wnat (x := (a : Int) + ((j - i : Nat) : Int)) (a + (j - i)) (by omega) (by omega), Int.toNat_natCast, Int.toNat_natCast]
      refine Ev_pos (by omega) (Ev_pos (by omega) (Ev_pos (by omega) (Ev_pos (by omega) (Ev_pos (by omega) ?_))))
      refine ih (a + (j - i)) _ (by omega) (by omega) (by simp; omega) ?_
      simpa using h4
    · rw [if_neg c] at h4
      simp only [List.append_nil] at h4
      exact Ev_neg (by omega) h4

theorem impl_lyndon_l1 (w : List Int) (hb : w.length ≤ 1048576) (a : Nat) (out : List (List Int)) (r : List (List Int)) (f : Nat) : ∀ i j : Nat, i < j → a ≤ i → j ≤ w.length → w.length ≤ j + f →
    Ev (fun k => impl_lyndon.l2 k w out (a : Int) (((dscan w a f i j).1 : Nat) : Int) (((dscan w a f i j).2 : Nat) : Int)) r →
    Ev (fun k => impl_lyndon.l1 k w out (a : Int) (i : Int) (j : Int)) r := by
  induction f with
  | zero =>
    intro i j h1 h2 h3 h4 h5
    refine Ev_succ ?_
    simp only [impl_lyndon.l1]
    refine Ev_neg (by omega) (Ev_succ ?_)
    simp only [impl_lyndon.j2]
    exact Ev_neg (by simp) h5
  | succ f ih =>
    intro i j h1 h2 h3 h4 h5
    refine Ev_succ ?_
    simp only [impl_lyndon.l1]
    rw [dscan] at h5
    by_cases c : j < w.length
    · refine Ev_pos (by omega) (Ev_pos (by omega) (Ev_pos (by omega) (Ev_pos (by omega) (Ev_succ ?_))))
      simp only [impl_lyndon.j2]
      rw [rd_cast, rd_cast]
      by_cases c2 : w.getD i 0 ≤ w.getD j 0
      · rw [if_pos ⟨c, c2⟩] at h5
        refine Ev_pos (by simp only [decide_eq_true_eq]; exact c2) (Ev_pos (by omega) (Ev_pos (by omega) (Ev_pos (by omega) (Ev_pos (by omega) ?_))))
        rw [wsucc (n := i) (by omega), wsucc (n := j) (by omega)]
        by_cases c3 : w.getD i 0 < w.getD j 0
        · rw [if_pos c3] at h5
          exact Ev_pos c3 (ih a (j + 1) (by omega) (by omega) (by omega) (by omega) h5)
        · rw [if_neg c3] at h5
          exact Ev_neg c3 (ih (i + 1) (j + 1) (by omega) (by omega) (by omega) (by omega) h5)
      · rw [if_neg (by intro h; exact c2 h.2)] at h5
        exact Ev_neg (by simp only [decide_eq_true_eq]; exact c2) h5
    · rw [if_neg (by intro h; exact c h.1)] at h5
      refine Ev_neg (by omega) (Ev_succ ?_)
      simp only [impl_lyndon.j2]
      exact Ev_neg (by simp) h5

theorem impl_lyndon_l0 (w : List Int) (hb : w.length ≤ 1048576) (f : Nat) : ∀ (a : Nat) (out : List (List Int)), w.length ≤ a + f → a ≤ w.length → out.length ≤ a →
    Ev (fun k => impl_lyndon.l0 k w out (a : Int)) (out ++ duv w f a) := by
  induction f with
  | zero =>
    intro a out h1 h2 h3
    refine Ev_succ ?_
    simp only [impl_lyndon.l0]
    exact Ev_neg (by omega) (Ev_some (by simp [duv]))
  | succ f ih =>
    intro a out h1 h2 h3
    refine Ev_succ ?_
    simp only [impl_lyndon.l0]
    by_cases c : a < w.length
    · have he := dscan_end w a w.length a (a + 1) (DInv.start c) (by omega)
      rw [duv, if_pos c]
      generalize hs : dscan w a w.length a (a + 1) = s at he
      have l1 := he.1.le
      have l2 := he.1.lt
      have l3 := he.1.len
      have hf := dpos_facts w s.1 (s.2 - s.1) (by omega) w.length a (fun _ => by omega) (by omega) (by omega)
      rw [wsucc (n := a) (by omega)]
      refine Ev_pos (by omega) ?_
      refine impl_lyndon_l1 w hb a out _ w.length a (a + 1) (by omega) (by omega) (by omega) (by omega) ?_
      rw [hs]
      refine impl_lyndon_l2 w hb s.1 s.2 l2 l3 _ w.length a out (by omega) (by omega) h3 ?_
      rw [← List.append_assoc]
      exact ih _ _ (by omega) (by omega) (by simp; omega)
    · rw [duv, if_neg c]
      exact Ev_neg (by omega) (Ev_some (by simp))

theorem impl_lyndon_ev (w : List Int) (hb : w.length ≤ 1048576) : Ev (fun k => impl_lyndon.f k w) (duv w w.length 0) := by
  unfold impl_lyndon.f
  exact impl_lyndon_l0 w hb w.length 0 [] (by omega) (by omega) (by simp)

/-! ### impl_LyndonFactors -/
theorem impl_LyndonFactors_loop (l : List (List Int)) (hl : l.length ≤ 1048576) (hr : ∀ x ∈ l, x.length ≤ 1048576) (d : Nat) : ∀ n : Nat, n + d = l.length →
    Ev (fun k => impl_LyndonFactors.l0 k (l.take n) l (l.length : Int) (n : Int)) l := by
  induction d with
  | zero =>
    intro n h
    refine Ev_succ ?_
    simp only [impl_LyndonFactors.l0]
    refine Ev_neg (by omega) (Ev_some ?_)
    rw [List.take_of_length_le (by omega)]
  | succ d ih =>
    intro n h
    have hrow := hr (l.getD n []) (by rw [getD_eq (by omega)]; exact List.getElem_mem _)
    refine Ev_succ ?_
    simp only [impl_LyndonFactors.l0, rd_L1, Int.toNat_natCast]
    refine Ev_pos (by omega) (Ev_pos (by omega) (Ev_pos (by omega) (Ev_call _ (Ev.now _) (Ev_pos (by rw [List.length_nil]; omega) (Ev_pos (by rw [List.length_take]; omega) ?_)))))
    rw [wsucc (n := n) (by omega), List.nil_append, ← take_succ_getD l n [] (by omega)]
    exact ih (n + 1) (by omega)

theorem impl_LyndonFactors_ev (w : List Int) (hb : w.length ≤ 1048576) : Ev (fun k => impl_LyndonFactors.f k w) (duv w w.length 0) := by
  have h1 := duv_length w w.length 0 (by omega)
  have h2 := duv_rows w w.length 0
  unfold impl_LyndonFactors.f
  refine Ev_call _ (impl_lyndon_ev w hb) ?_
  have := impl_LyndonFactors_loop (duv w w.length 0) (by omega) (fun x hx => Nat.le_trans (h2 x hx) hb) _ 0 (Nat.zero_add _)
  simpa using this

theorem FnExactLyndonFactors : laws_FnExactLyndonFactors.Pure := by
  intro l _ _ _
  refine Ev.rounds ?_
  unfold laws_FnExactLyndonFactors.f
  refine Ev_ite (fun _ => Ev.now _) (fun h => ?_)
  have hb : l.length ≤ 1048576 := by omega
  have t1 := laws_toIntS_ev l (by omega)
  have t2 := laws_eqIntS_ev l l (by omega)
  have t3 := laws_markIntS_ev l 1 (by omega) (by omega) (by omega)
  have h1 := spec_LyndonFactors_ev l hb
  have h2 := impl_LyndonFactors_ev l hb
  have hr := duv_length l l.length 0 (by omega)
  have hx := duv_rows l l.length 0
  generalize duv l l.length 0 = r at h1 h2 hr hx
  have hx2 : ∀ x ∈ r, x.length ≤ 1048576 := fun x hm => Nat.le_trans (hx x hm) hb
  have ht := total_small (l := r) (by omega) hx2
  have e1 := laws_eqIntSS_ev r r (by omega) (fun x hm => Nat.le_trans (hx2 x hm) (by omega))
  have e2 := laws_markIntSS_ev r 1 (by omega) (by omega) (by omega)
  have e3 := laws_heldIntSS_ev r 1 (by omega) (by omega) (by omega)
  clear hx hx2
  repeat (first
    | exact Ev.now _
    | (refine Ev_call _ (by with_reducible assumption) ?_; try dsimp only)
    | (refine Ev_call _ (laws_markIntS_ev _ _ (by omega) (by omega) (by omega)) ?_; try dsimp only)
    | (refine Ev_call _ (laws_heldIntS_ev _ _ (by omega) (by omega) (by omega)) ?_; try dsimp only)
    | refine Ev_call _ (laws_eqIntS_ev _ _ (by omega)) ?_
    | (refine Ev_pos ?hc ?_; (case hc => first | with_reducible rfl | omega | (simp; done)))
    | (refine Ev_neg ?hc ?_; (case hc => first | omega | (simp; done)))
    | (refine Ev_succ ?_; simp only [laws_FnExactLyndonFactors.j0]))

end Go.Proofs.Ytoaonfacjcienab.Pure
