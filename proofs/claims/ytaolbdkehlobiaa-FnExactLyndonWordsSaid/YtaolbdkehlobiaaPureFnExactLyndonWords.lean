/- At every number of letters and length the two answers are one, and short. -/
import Derived.Test.YtaolbdkehlobiaaWalkFnExactLyndonWords
import Derived.Test.YtaolbdkehlobiaaG0
import Derived.Test.YtaolbdkehlobiaaGSized
import Derived.Test.YtaolbdkehlobiaaGMarks
import Derived.Test.YtaolbdkehlobiaaG10
namespace Go.Proofs.Ytaolbdkehlobiaa.Pure
open Go.RowKit Go.Proofs.Ytaolbdkehlobiaa.PFnExactLyndonWords Go.Proofs.YtaolbdkehlobiaaW.PrintWords Go.Proofs.YtaolbdkehlobiaaW.PrintLast Go.Proofs.YtaolbdkehlobiaaW.PrintMore Go.Proofs.Ytaolbdkehlobiaa.G
set_option linter.unusedVariables false
set_option linter.unusedSimpArgs false

/-! ### laws_eqIntS -/
theorem laws_eqIntS_loop (a b : List Int) (hl : a.length = b.length) (hb : a.length ≤ 17592186044416) (d : Nat) : ∀ n : Nat, n ≤ a.length → a.length - n = d → a.take n = b.take n →
    Ev (fun k => laws_eqIntS.l0 k a b (n : Int)) (decide (a = b)) := by
  induction d with
  | zero =>
    intro n h1 h2 h3
    refine Ev_succ ?_
    simp only [laws_eqIntS.l0]
    refine Ev_neg (by omega) (Ev_some ?_)
    have : n = a.length := by omega
    subst this
    rw [List.take_length, hl, List.take_length] at h3
    simp [h3]
  | succ d ih =>
    intro n h1 h2 h3
    refine Ev_succ ?_
    simp only [laws_eqIntS.l0]
    refine Ev_pos (by omega) (Ev_pos (by omega) (Ev_pos (by omega) ?_))
    rw [rd_cast, rd_cast, wsucc (by omega)]
    refine Ev_ite (fun h => ?_) (fun h => Ev_some ?_)
    · refine ih (n + 1) (by omega) (by omega) ?_
      rw [take_succ_getD a n 0 (by omega), take_succ_getD b n 0 (by omega), h3, h]
    · symm
      rw [decide_eq_false_iff_not]
      intro e
      exact h (by rw [e])

theorem laws_eqIntS_ev (a b : List Int) (hb : a.length ≤ 17592186044416) : Ev (fun k => laws_eqIntS.f k a b) (decide (a = b)) := by
  unfold laws_eqIntS.f
  refine Ev_ite (fun h => ?_) (fun h => Ev_some ?_)
  · exact laws_eqIntS_loop a b (by omega) hb _ 0 (by omega) rfl (by simp)
  · symm
    rw [decide_eq_false_iff_not]
    intro e
    exact h (by rw [e])

/-! ### laws_eqIntSS -/
theorem laws_eqIntSS_loop (a b : List (List Int)) (hl : a.length = b.length) (hb : a.length ≤ 1048576) (hr : ∀ x ∈ a, x.length ≤ 17592186044416) (d : Nat) : ∀ n : Nat, n + d = a.length → a.take n = b.take n →
    Ev (fun k => laws_eqIntSS.l0 k a b (n : Int)) (decide (a = b)) := by
  induction d with
  | zero =>
    intro n h1 h2
    refine Ev_succ ?_
    simp only [laws_eqIntSS.l0]
    refine Ev_neg (by omega) (Ev_some ?_)
    have : n = a.length := by omega
    subst this
    rw [List.take_length, hl, List.take_length] at h2
    simp [h2]
  | succ d ih =>
    intro n h1 h2
    refine Ev_succ ?_
    simp only [laws_eqIntSS.l0, rd_L1, Int.toNat_natCast]
    have hrow := hr (a.getD n []) (by rw [getD_eq (by omega)]; exact List.getElem_mem _)
    refine Ev_pos (by omega) (Ev_pos (by omega) (Ev_pos (by omega) (Ev_call _ (laws_eqIntS_ev _ _ hrow) ?_)))
    rw [wsucc (n := n) (by omega)]
    refine Ev_ite (fun h => ?_) (fun h => Ev_some ?_)
    · rw [decide_eq_true_eq] at h
      refine ih (n + 1) (by omega) ?_
      rw [take_succ_getD a n [] (by omega), take_succ_getD b n [] (by omega), h2, h]
    · rw [decide_eq_true_eq] at h
      symm
      rw [decide_eq_false_iff_not]
      intro e
      exact h (by rw [e])

theorem laws_eqIntSS_ev (a b : List (List Int)) (hb : a.length ≤ 1048576) (hr : ∀ x ∈ a, x.length ≤ 17592186044416) : Ev (fun k => laws_eqIntSS.f k a b) (decide (a = b)) := by
  unfold laws_eqIntSS.f
  refine Ev_ite (fun h => ?_) (fun h => Ev_some ?_)
  · exact laws_eqIntSS_loop a b (by omega) hb hr _ 0 (Nat.zero_add _) (by simp)
  · symm
    rw [decide_eq_false_iff_not]
    intro e
    exact h (by rw [e])

/-! ### laws_markIntS -/
theorem laws_markIntS_loop (L : Nat) (m : Int) (hm : 0 ≤ m) (hm2 : m ≤ 17592186044416) (hb : L ≤ 17592186044416) (d : Nat) : ∀ (n : Nat) (acc : List Int), acc.length = L → n ≤ L → L - n = d → acc.take n = iota m n →
    Ev (fun k => laws_markIntS.l0 k acc (m + n) (n : Int)) (m + L, iota m L) := by
  induction d with
  | zero =>
    intro n acc h0 h1 h2 h3
    refine Ev_succ ?_
    simp only [laws_markIntS.l0]
    refine Ev_neg (by omega) (Ev_some ?_)
    have : n = L := by omega
    subst this
    rw [← h3, ← h0, List.take_length]
  | succ d ih =>
    intro n acc h0 h1 h2 h3
    refine Ev_succ ?_
    simp only [laws_markIntS.l0]
    refine Ev_pos (by omega) (Ev_pos (by omega) ?_)
    rw [wsucc (by omega), Int.toNat_natCast, w64 (n := m + (n : Int) + 1) (by omega) (by omega)]
    have e : m + (n : Int) + 1 = m + ((n + 1 : Nat) : Int) := by omega
    rw [e]
    refine ih (n + 1) _ (by simpa using h0) (by omega) (by omega) ?_
    rw [set_take_succ acc n _ (by omega), h3, iota_succ]

theorem laws_markIntS_ev (l : List Int) (m : Int) (hm : 0 ≤ m) (hm2 : m ≤ 17592186044416) (hb : l.length ≤ 17592186044416) : Ev (fun k => laws_markIntS.f k l m) (m + l.length, iota m l.length) := by
  unfold laws_markIntS.f
  have := laws_markIntS_loop l.length m hm hm2 hb _ 0 l rfl (by omega) rfl (by simp [iota])
  simpa using this

/-! ### laws_markIntSS -/
theorem laws_markIntSS_loop (rest : List (List Int)) : ∀ (pre : List (List Int)) (a : Int), 0 ≤ a → a + total rest ≤ 17592186044416 → (pre ++ rest).length ≤ 17592186044416 →
    Ev (fun k => laws_markIntSS.l0 k (pre ++ rest) a ((pre.length : Nat) : Int)) (a + total rest, pre ++ marks a rest) := by
  induction rest with
  | nil =>
    intro pre a h0 h1 h2
    refine Ev_succ ?_
    simp only [laws_markIntSS.l0]
    exact Ev_neg (by simp) (Ev_some (by simp [total, marks]))
  | cons r rs ih =>
    intro pre a h0 h1 h2
    simp only [total] at h1
    simp only [List.length_append, List.length_cons] at h2
    have hm := laws_markIntS_ev r a h0 (by omega) (by omega)
    refine Ev_succ ?_
    simp only [laws_markIntSS.l0, rd_L1, Int.toNat_natCast, getD_pre, set_pre]
    refine Ev_pos (by simp; omega) (Ev_pos (by omega) (Ev_call _ hm ?_))
    rw [wsucc (by omega)]
    have := ih (pre ++ [iota a r.length]) (a + r.length) (by omega) (by omega) (by simp; omega)
    simp only [List.length_append, List.length_cons, List.length_nil] at this
    refine Ev_eq this ?_
    simp only [total, marks, List.append_assoc, List.cons_append, List.nil_append, Int.natCast_add]
    congr 1
    omega

theorem laws_markIntSS_ev (l : List (List Int)) (a : Int) (h0 : 0 ≤ a) (h1 : a + total l ≤ 17592186044416) (h2 : l.length ≤ 17592186044416) : Ev (fun k => laws_markIntSS.f k l a) (a + total l, marks a l) := by
  unfold laws_markIntSS.f
  have := laws_markIntSS_loop l [] a h0 h1 (by simpa using h2)
  simpa using this

/-! ### laws_heldIntS -/
theorem laws_heldIntS_loop (L : Nat) (m : Int) (hm : 0 ≤ m) (hm2 : m ≤ 17592186044416) (hb : L ≤ 17592186044416) (d : Nat) : ∀ (n : Nat), n ≤ L → L - n = d →
    Ev (fun k => laws_heldIntS.l0 k (iota m L) (m + n) (n : Int)) (m + L) := by
  induction d with
  | zero =>
    intro n h1 h2
    refine Ev_succ ?_
    simp only [laws_heldIntS.l0]
    refine Ev_neg (by rw [iota_length]; omega) (Ev_some ?_)
    omega
  | succ d ih =>
    intro n h1 h2
    refine Ev_succ ?_
    simp only [laws_heldIntS.l0]
    refine Ev_pos (by rw [iota_length]; omega) (Ev_pos (by omega) ?_)
    rw [rd_cast, iota_getD m L n (by omega)]
    refine Ev_pos rfl ?_
    rw [wsucc (by omega), w64 (n := m + (n : Int) + 1) (by omega) (by omega)]
    have e : m + (n : Int) + 1 = m + ((n + 1 : Nat) : Int) := by omega
    rw [e]
    exact ih (n + 1) (by omega) (by omega)

theorem laws_heldIntS_ev (L : Nat) (m : Int) (hm : 0 ≤ m) (hm2 : m ≤ 17592186044416) (hb : L ≤ 17592186044416) : Ev (fun k => laws_heldIntS.f k (iota m L) m) (m + L) := by
  unfold laws_heldIntS.f
  have := laws_heldIntS_loop L m hm hm2 hb _ 0 (by omega) rfl
  simpa using this

/-! ### laws_heldIntSS -/
theorem laws_heldIntSS_loop (rest : List (List Int)) : ∀ (pre : List (List Int)) (a : Int), 0 ≤ a → a + total rest ≤ 17592186044416 → (pre ++ rest).length ≤ 17592186044416 →
    Ev (fun k => laws_heldIntSS.l0 k (pre ++ marks a rest) a ((pre.length : Nat) : Int)) (a + total rest) := by
  induction rest with
  | nil =>
    intro pre a h0 h1 h2
    refine Ev_succ ?_
    simp only [laws_heldIntSS.l0]
    exact Ev_neg (by simp [marks]) (Ev_some (by simp [total]))
  | cons r rs ih =>
    intro pre a h0 h1 h2
    simp only [total] at h1
    simp only [List.length_append, List.length_cons] at h2
    have hm := laws_heldIntS_ev r.length a h0 (by omega) (by omega)
    refine Ev_succ ?_
    simp only [laws_heldIntSS.l0, rd_L1, Int.toNat_natCast, marks, getD_pre]
    refine Ev_pos (by simp; omega) (Ev_pos (by omega) (Ev_call _ hm (Ev_neg (by omega) ?_)))
    rw [wsucc (by omega)]
    have := ih (pre ++ [iota a r.length]) (a + r.length) (by omega) (by omega) (by simp; omega)
    simp only [List.length_append, List.length_cons, List.length_nil, List.append_assoc, List.cons_append, List.nil_append] at this
    refine Ev_eq this ?_
    simp only [total]
    omega

theorem laws_heldIntSS_ev (l : List (List Int)) (a : Int) (h0 : 0 ≤ a) (h1 : a + total l ≤ 17592186044416) (h2 : l.length ≤ 17592186044416) : Ev (fun k => laws_heldIntSS.f k (marks a l) a) (a + total l) := by
  unfold laws_heldIntSS.f
  have := laws_heldIntSS_loop l [] a h0 h1 (by simpa using h2)
  simpa using this

/-! ### spec_l1In -/
theorem spec_l1In_eq (x a b : Int) : spec_l1In.f x a b = some (decide (a ≤ x ∧ x ≤ b)) := by
  unfold spec_l1In.f
  by_cases h : x ≥ a
  · rw [if_pos h]; simp [h]
  · rw [if_neg h]; congr 1; symm; rw [decide_eq_false_iff_not]; omega

/-! ### spec_l11Power -/
theorem spec_l11Power_loop (b n : Nat) (hb : b ≤ 4) (hn : n ≤ 20) (d : Nat) : ∀ i : Nat, i + d = n → Ev (fun k => spec_l11Power.l0 k (b : Int) (n : Int) ((b ^ i : Nat) : Int) (i : Int)) ((b ^ n : Nat) : Int) := by
  induction d with
  | zero =>
    intro i h
    have : i = n := by omega
    subst this
    refine Ev_succ ?_
    simp only [spec_l11Power.l0]
    exact Ev_neg (by omega) (Ev.now _)
  | succ d ih =>
    intro i h
    refine Ev_succ ?_
    simp only [spec_l11Power.l0]
    rw [pow_step b i hb (by omega), wsucc (n := i) (by omega)]
    exact Ev_pos (by omega) (ih (i + 1) (by omega))

theorem spec_l11Power_ev (b n : Nat) (hb : b ≤ 4) (hn : n ≤ 20) : Ev (fun k => spec_l11Power.f k (b : Int) (n : Int)) ((b ^ n : Nat) : Int) := by
  unfold spec_l11Power.f
  have := spec_l11Power_loop b n hb hn n 0 (Nat.zero_add _)
  simpa using this

/-! ### impl_power -/
theorem impl_power_loop (b n : Nat) (hb : b ≤ 4) (hn : n ≤ 20) (d : Nat) : ∀ i : Nat, i + d = n → Ev (fun k => impl_power.l0 k (b : Int) ((b ^ i : Nat) : Int) (n : Int) (i : Int)) ((b ^ n : Nat) : Int) := by
  induction d with
  | zero =>
    intro i h
    have : i = n := by omega
    subst this
    refine Ev_succ ?_
    simp only [impl_power.l0]
    exact Ev_neg (by omega) (Ev.now _)
  | succ d ih =>
    intro i h
    refine Ev_succ ?_
    simp only [impl_power.l0]
    rw [pow_step b i hb (by omega), wsucc (n := i) (by omega)]
    exact Ev_pos (by omega) (ih (i + 1) (by omega))

theorem impl_power_ev (b n : Nat) (hb : b ≤ 4) (hn : n ≤ 20) : Ev (fun k => impl_power.f k (b : Int) (n : Int)) ((b ^ n : Nat) : Int) := by
  unfold impl_power.f
  have := impl_power_loop b n hb hn n 0 (Nat.zero_add _)
  simpa using this

/-- One case, by computing both. -/
def lwOk (a n : Nat) : Bool := match spec_LyndonWords.f 3000 (a : Int) (n : Int), impl_LyndonWords.f 3000 (a : Int) (n : Int) with
  | some x, some y => x == y && decide (x.1.length ≤ 1048576) && x.1.all (fun r => decide (r.length ≤ 1048576))
  | _, _ => false
def lwCases : List (Nat × Nat) := [(1, 1), (1, 2), (1, 3), (1, 4), (1, 5), (1, 6), (1, 7), (1, 8), (2, 1), (2, 2), (2, 3), (2, 4), (2, 5), (2, 6), (2, 7), (2, 8), (3, 1), (3, 2), (3, 3), (3, 4), (3, 5), (4, 1), (4, 2), (4, 3), (4, 4)]
set_option maxRecDepth 100000 in
theorem lw_all : lwCases.all (fun c => lwOk c.1 c.2) = true := by decide +kernel
set_option maxRecDepth 100000 in
theorem lw_far : ((List.range 5).flatMap fun a => (List.range 9).map fun n => (a, n)).all (fun c => decide (c.1 = 0 ∨ c.2 = 0 ∨ 300 < c.1 ^ c.2 ∨ (c.1, c.2) ∈ lwCases)) = true := by decide +kernel
theorem LeO_up {α : Type} {g : Nat → Option α} (h : ∀ k, LeO (g k) (g (k + 1))) {k : Nat} {r : α} (e : g k = some r) : Ev g r := by
  refine ⟨k, fun n hn => ?_⟩
  induction n with
  | zero => have : k = 0 := by omega
            subst this; exact e
  | succ n ih =>
    by_cases c : k = n + 1
    · subst c; exact e
    · exact h n r (ih (by omega))
theorem lw_case (a n : Nat) (h : lwOk a n = true) : ∃ (R : List (List Int)) (b : Bool), Ev (fun k => spec_LyndonWords.f k (a : Int) (n : Int)) (R, b) ∧ Ev (fun k => impl_LyndonWords.f k (a : Int) (n : Int)) (R, b) ∧ R.length ≤ 1048576 ∧ ∀ x ∈ R, x.length ≤ 1048576 := by
  unfold lwOk at h
  split at h
  · next x y hx hy =>
    simp only [Bool.and_eq_true, beq_iff_eq, decide_eq_true_eq, List.all_eq_true] at h
    obtain ⟨⟨h1, h2⟩, h3⟩ := h
    subst h1
    obtain ⟨R, b⟩ := x
    exact ⟨R, b, LeO_up (fun k => spec_LyndonWords.mono _ _ k) hx, LeO_up (fun k => impl_LyndonWords.mono _ _ k) hy, h2, h3⟩
  · cases h
theorem FnExactLyndonWords (a n : Int) (ha : (Lit.int .i64 a).wf = true) (hn : (Lit.int .i64 n).wf = true) : ∃ (R : List (List Int)) (b : Bool), Ev (fun k => spec_LyndonWords.f k a n) (R, b) ∧ Ev (fun k => impl_LyndonWords.f k a n) (R, b) ∧ R.length ≤ 1048576 ∧ ∀ x ∈ R, x.length ≤ 1048576 := by
  have no : Ev (fun k => spec_LyndonWords.j0 k a n [] true) ([], false) := by
    refine Ev_succ ?_
    simp only [spec_LyndonWords.j0]
    exact Ev_pos (by simp) (Ev.now _)
  have no2 : Ev (fun k => impl_LyndonWords.j0 k a n true) ([], false) := by
    refine Ev_succ ?_
    simp only [impl_LyndonWords.j0]
    exact Ev_pos (by simp) (Ev.now _)
  by_cases c : (1 ≤ a ∧ a ≤ 4) ∧ 1 ≤ n ∧ n ≤ 8
  · obtain ⟨a, rfl⟩ := Int.eq_ofNat_of_zero_le (show 0 ≤ a by omega)
    obtain ⟨n, rfl⟩ := Int.eq_ofNat_of_zero_le (show 0 ≤ n by omega)
    by_cases m : (a, n) ∈ lwCases
    · exact lw_case a n (List.all_eq_true.1 lw_all _ m)
    · have hp : 300 < a ^ n := by
        have := List.all_eq_true.1 lw_far (a, n) (by rw [List.mem_flatMap]; exact ⟨a, by rw [List.mem_range]; omega, by rw [List.mem_map]; exact ⟨n, by rw [List.mem_range]; omega, rfl⟩⟩)
        rw [decide_eq_true_eq] at this
        rcases this with h | h | h | h
        · simp only at h; omega
        · simp only at h; omega
        · exact h
        · exact absurd h m
      refine ⟨[], false, ?_, ?_, by simp, by simp⟩
      · unfold spec_LyndonWords.f
        refine Ev_call _ (Ev.now _) (Ev_call _ (Ev_const (spec_l1In_eq _ _ _)) (Ev_pos (by simp; omega) (Ev_call _ (Ev_const (spec_l1In_eq _ _ _)) (Ev_pos (by simp; omega) (Ev_call _ (spec_l11Power_ev a n (by omega) (by omega)) ?_)))))
        rw [decide_eq_true (by have : ((a ^ n : Nat) : Int) > 300 := by omega
                               simpa using this)]
        exact no
      · unfold impl_LyndonWords.f
        refine Ev_neg (by omega) (Ev_neg (by omega) (Ev_neg (by omega) (Ev_neg (by omega) (Ev_call _ (impl_power_ev a n (by omega) (by omega)) ?_))))
        rw [decide_eq_true (by have : ((a ^ n : Nat) : Int) > 300 := by omega
                               simpa using this)]
        exact no2
  · refine ⟨[], false, ?_, ?_, by simp, by simp⟩
    · unfold spec_LyndonWords.f
      refine Ev_call _ (Ev.now _) (Ev_call _ (Ev_const (spec_l1In_eq _ _ _)) (Ev_ite (fun h1 => Ev_call _ (Ev_const (spec_l1In_eq _ _ _)) (Ev_neg ?_ no)) (fun h1 => no)))
      rw [decide_eq_true_eq] at *
      omega
    · unfold impl_LyndonWords.f
      refine Ev_ite (fun h => no2) (fun h1 => Ev_ite (fun h => no2) (fun h2 => Ev_ite (fun h => no2) (fun h3 => Ev_ite (fun h => no2) (fun h4 => absurd ⟨⟨by omega, by omega⟩, by omega, by omega⟩ c))))

theorem FnExactLyndonWords_all (a0 : Int) (a1 : Int) (hw0 : (Lit.int .i64 a0).wf = true) (hw1 : (Lit.int .i64 a1).wf = true) :
    ∃ (k : Nat) (R R' : List (List Int)) (b : Bool) (mg : Int), spec_LyndonWords.f k a0 a1 = some (R, b) ∧ impl_LyndonWords.f k a0 a1 = some (R, b) ∧ laws_eqIntSS.f k R R = some true ∧ laws_markIntSS.f k R 1 = some (mg, R') ∧ 0 ≤ mg ∧ laws_heldIntSS.f k R' 1 = some mg := by
  obtain ⟨R, b, h1, h2, hl, hx⟩ := FnExactLyndonWords a0 a1 hw0 hw1
  have ht := total_small hl hx
  have e1 := laws_eqIntSS_ev R R (by omega) (fun x hm => Nat.le_trans (hx x hm) (by omega))
  have e2 := laws_markIntSS_ev R 1 (by omega) (by omega) (by omega)
  have e3 := laws_heldIntSS_ev R 1 (by omega) (by omega) (by omega)
  clear hx
  obtain ⟨Kh1, h1⟩ := h1
  obtain ⟨Kh2, h2⟩ := h2
  obtain ⟨Ke1, e1⟩ := e1
  obtain ⟨Ke2, e2⟩ := e2
  obtain ⟨Ke3, e3⟩ := e3
  exact ⟨Kh1 + Kh2 + Ke1 + Ke2 + Ke3, R, marks 1 R, b, 1 + total R, h1 _ (by omega), h2 _ (by omega), (e1 _ (by omega)).trans (by simp), e2 _ (by omega), by omega, e3 _ (by omega)⟩

end Go.Proofs.Ytaolbdkehlobiaa.Pure
