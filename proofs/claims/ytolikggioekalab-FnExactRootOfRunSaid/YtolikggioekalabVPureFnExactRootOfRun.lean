/- At every list and run the law's answer is true. -/
import Derived.Test.YtolikggioekalabVMFnExactRootOfRunx10
import Derived.Test.YtolikggioekalabVG0
import Derived.Test.YtolikggioekalabVGSized
import Derived.Test.YtolikggioekalabVGRun
import Derived.Test.YtolikggioekalabVG6b
import Derived.Test.YtolikggioekalabVG6
import Derived.Test.YtolikggioekalabVGConj
import Derived.Test.YtolikggioekalabVGSort
import Derived.Test.YtolikggioekalabVG5
namespace Go.Proofs.Ytolikggioekalab.Pure
open Go.RowKit Go.Proofs.Ytolikggioekalab.PFnExactRootOfRun Go.Proofs.YtolikggioekalabW.PrintWords Go.Proofs.YtolikggioekalabW.PrintLast Go.Proofs.YtolikggioekalabW.PrintMore Go.Proofs.Ytolikggioekalab.G
set_option linter.unusedVariables false
set_option linter.unusedSimpArgs false

/-! ### laws_toIntS -/
theorem laws_toIntS_loop (l : List Int) (hb : l.length ≤ 17592186044416) (d : Nat) : ∀ (n : Nat) (acc : List Int), acc.length = l.length → n ≤ l.length → l.length - n = d → acc.take n = l.take n →
    Ev (fun k => laws_toIntS.l0 k l acc (n : Int)) l := by
  induction d with
  | zero =>
    intro n acc h0 h1 h2 h3
    refine Ev_succ ?_
    simp only [laws_toIntS.l0]
    refine Ev_neg (by omega) (Ev_some ?_)
    have : n = l.length := by omega
    subst this
    rw [List.take_length, ← h0, List.take_length] at h3
    exact h3
  | succ d ih =>
    intro n acc h0 h1 h2 h3
    refine Ev_succ ?_
    simp only [laws_toIntS.l0]
    refine Ev_pos (by omega) (Ev_pos (by omega) (Ev_pos (by omega) ?_))
    rw [rd_cast, wsucc (by omega), Int.toNat_natCast]
    refine ih (n + 1) _ (by simpa using h0) (by omega) (by omega) ?_
    rw [set_take_succ acc n _ (by omega), take_succ_getD l n 0 (by omega), h3]

theorem laws_toIntS_ev (l : List Int) (hb : l.length ≤ 17592186044416) : Ev (fun k => laws_toIntS.f k l) l := by
  unfold laws_toIntS.f
  refine Ev_pos (by omega) (Ev_pos (by omega) ?_)
  exact laws_toIntS_loop l hb _ 0 _ (by simp) (by omega) rfl (by simp)

/-! ### laws_eqIntS -/
theorem laws_eqIntS_loop (a b : List Int) (hl : a.length = b.length) (hb : a.length ≤ 17592186044416) (d : Nat) : ∀ n : Nat, n ≤ a.length → a.length - n = d → a.take n = b.take n →
    Ev (fun k => laws_eqIntS.l0 k a b (n : Int)) (decide (a = b)) := by
  induction d with
  | zero =>
    intro n h1 h2 h3
    refine Ev_succ ?_
    simp only [laws_eqIntS.l0]
    refine Ev_neg (by omega) (Ev_some ?_)
    have : n = a.length := by omega
    subst this
    rw [List.take_length, hl, List.take_length] at h3
    simp [h3]
  | succ d ih =>
    intro n h1 h2 h3
    refine Ev_succ ?_
    simp only [laws_eqIntS.l0]
    refine Ev_pos (by omega) (Ev_pos (by omega) (Ev_pos (by omega) ?_))
    rw [rd_cast, rd_cast, wsucc (by omega)]
    refine Ev_ite (fun h => ?_) (fun h => Ev_some ?_)
    · refine ih (n + 1) (by omega) (by omega) ?_
      rw [take_succ_getD a n 0 (by omega), take_succ_getD b n 0 (by omega), h3, h]
    · symm
      rw [decide_eq_false_iff_not]
      intro e
      exact h (by rw [e])

theorem laws_eqIntS_ev (a b : List Int) (hb : a.length ≤ 17592186044416) : Ev (fun k => laws_eqIntS.f k a b) (decide (a = b)) := by
  unfold laws_eqIntS.f
  refine Ev_ite (fun h => ?_) (fun h => Ev_some ?_)
  · exact laws_eqIntS_loop a b (by omega) hb _ 0 (by omega) rfl (by simp)
  · symm
    rw [decide_eq_false_iff_not]
    intro e
    exact h (by rw [e])

/-! ### laws_markIntS -/
theorem laws_markIntS_loop (L : Nat) (m : Int) (hm : 0 ≤ m) (hm2 : m ≤ 17592186044416) (hb : L ≤ 17592186044416) (d : Nat) : ∀ (n : Nat) (acc : List Int), acc.length = L → n ≤ L → L - n = d → acc.take n = iota m n →
    Ev (fun k => laws_markIntS.l0 k acc (m + n) (n : Int)) (m + L, iota m L) := by
  induction d with
  | zero =>
    intro n acc h0 h1 h2 h3
    refine Ev_succ ?_
    simp only [laws_markIntS.l0]
    refine Ev_neg (by omega) (Ev_some ?_)
    have : n = L := by omega
    subst this
    rw [← h3, ← h0, List.take_length]
  | succ d ih =>
    intro n acc h0 h1 h2 h3
    refine Ev_succ ?_
    simp only [laws_markIntS.l0]
    refine Ev_pos (by omega) (Ev_pos (by omega) ?_)
    rw [wsucc (by omega), Int.toNat_natCast, w64 (n := m + (n : Int) + 1) (by omega) (by omega)]
    have e : m + (n : Int) + 1 = m + ((n + 1 : Nat) : Int) := by omega
    rw [e]
    refine ih (n + 1) _ (by simpa using h0) (by omega) (by omega) ?_
    rw [set_take_succ acc n _ (by omega), h3, iota_succ]

theorem laws_markIntS_ev (l : List Int) (m : Int) (hm : 0 ≤ m) (hm2 : m ≤ 17592186044416) (hb : l.length ≤ 17592186044416) : Ev (fun k => laws_markIntS.f k l m) (m + l.length, iota m l.length) := by
  unfold laws_markIntS.f
  have := laws_markIntS_loop l.length m hm hm2 hb _ 0 l rfl (by omega) rfl (by simp [iota])
  simpa using this

/-! ### laws_heldIntS -/
theorem laws_heldIntS_loop (L : Nat) (m : Int) (hm : 0 ≤ m) (hm2 : m ≤ 17592186044416) (hb : L ≤ 17592186044416) (d : Nat) : ∀ (n : Nat), n ≤ L → L - n = d →
    Ev (fun k => laws_heldIntS.l0 k (iota m L) (m + n) (n : Int)) (m + L) := by
  induction d with
  | zero =>
    intro n h1 h2
    refine Ev_succ ?_
    simp only [laws_heldIntS.l0]
    refine Ev_neg (by rw [iota_length]; omega) (Ev_some ?_)
    omega
  | succ d ih =>
    intro n h1 h2
    refine Ev_succ ?_
    simp only [laws_heldIntS.l0]
    refine Ev_pos (by rw [iota_length]; omega) (Ev_pos (by omega) ?_)
    rw [rd_cast, iota_getD m L n (by omega)]
    refine Ev_pos rfl ?_
    rw [wsucc (by omega), w64 (n := m + (n : Int) + 1) (by omega) (by omega)]
    have e : m + (n : Int) + 1 = m + ((n + 1 : Nat) : Int) := by omega
    rw [e]
    exact ih (n + 1) (by omega) (by omega)

theorem laws_heldIntS_ev (L : Nat) (m : Int) (hm : 0 ≤ m) (hm2 : m ≤ 17592186044416) (hb : L ≤ 17592186044416) : Ev (fun k => laws_heldIntS.f k (iota m L) m) (m + L) := by
  unfold laws_heldIntS.f
  have := laws_heldIntS_loop L m hm hm2 hb _ 0 (by omega) rfl
  simpa using this

/-! ### spec_l9Borders -/
theorem spec_l9Borders_l1 (w : List Int) (hb : w.length ≤ 1048576) (n : Nat) (hn : 1 ≤ n) (hl : n < w.length) (out : List Int) (ho : out.length = n) (ho2 : ∀ m, m < n → out.getD m 0 = ((lb w (m + 1) : Nat) : Int)) (r : List Int)
    (hx : Ev (fun k => spec_l9Borders.l0 k w (out ++ [((lb w (n + 1) : Nat) : Int)]) ((lb w (n + 1) : Nat) : Int) ((n + 1 : Nat) : Int)) r) :
    ∀ k : Nat, Cand w (n + 1) (k + 1) → Ev (fun f => spec_l9Borders.l1 f w out (k : Int) (n : Int)) r := by
  intro k
  induction k using Nat.strongRecOn with
  | _ k ih =>
    intro hc
    have hkn : k < n := by have := hc.2.1; simp at this; omega
    refine Ev_succ ?_
    simp only [spec_l9Borders.l1]
    rw [rd_cast, rd_cast, wsucc (n := k) (by omega), wsucc (n := n) (by omega)]
    by_cases k0 : k = 0
    · subst k0
      refine Ev_neg (by omega) (Ev_pos (by omega) (Ev_pos (by omega) (Ev_pos (by omega) (Ev_pos (by omega) ?_))))
      by_cases he : w.getD n 0 = w.getD 0 0
      · have e := lb_of_cand (by omega) (by omega) hc (Or.inr (by simpa using he.symm))
        rw [e] at hx
        exact Ev_pos he (Ev_pos (by omega) hx)
      · have hnx := hc.next (by omega) (by omega) (by simpa using fun h => he h.symm)
        rw [if_pos rfl] at hnx
        have e := lb_of_cand (by omega) (by omega) hnx (Or.inl rfl)
        rw [e] at hx
        exact Ev_neg he (Ev_pos (by omega) hx)
    · refine Ev_pos (by omega) (Ev_pos (by omega) (Ev_pos (by omega) (Ev_pos (by omega) (Ev_pos (by omega) ?_))))
      by_cases he : w.getD n 0 = w.getD k 0
      · have e := lb_of_cand (by omega) (by omega) hc (Or.inr (by simpa using he.symm))
        rw [e] at hx
        exact Ev_pos he (Ev_pos (by omega) hx)
      · have hnx := hc.next (by omega) (by omega) (by simpa using fun h => he h.symm)
        rw [if_neg k0] at hnx
        have hlt := lb_lt w k (by omega) (by omega)
        have := ih _ (by omega) hnx
        rw [wnat (x := (k : Int) - 1) (k - 1) (by omega) (by omega), rd_cast, ho2 (k - 1) (by omega), show k - 1 + 1 = k by omega]
        exact Ev_neg he (Ev_pos (by omega) (Ev_pos (by omega) this))

theorem spec_l9Borders_l0 (w : List Int) (hb : w.length ≤ 1048576) (d : Nat) : ∀ (n : Nat) (out : List Int), 1 ≤ n → n + d = w.length → out.length = n → (∀ m, m < n → out.getD m 0 = ((lb w (m + 1) : Nat) : Int)) →
    ∃ r, r.length = w.length ∧ (∀ m, m < w.length → r.getD m 0 = ((lb w (m + 1) : Nat) : Int)) ∧ Ev (fun k => spec_l9Borders.l0 k w out ((lb w n : Nat) : Int) (n : Int)) r := by
  induction d with
  | zero =>
    intro n out h1 h h2 h3
    have : n = w.length := by omega
    subst this
    refine ⟨out, h2, h3, Ev_succ ?_⟩
    simp only [spec_l9Borders.l0]
    exact Ev_neg (by omega) (Ev.now _)
  | succ d ih =>
    intro n out h1 h h2 h3
    obtain ⟨r, g1, g2, g3⟩ := ih (n + 1) (out ++ [((lb w (n + 1) : Nat) : Int)]) (by omega) (by omega) (by simp; omega) (fun m hm => by
      by_cases e : m = n
      · subst e; rw [getD_append_right _ _ _ _ (by omega), h2]; simp
      · rw [getD_append_left _ _ _ _ (by omega)]; exact h3 m (by omega))
    refine ⟨r, g1, g2, Ev_succ ?_⟩
    simp only [spec_l9Borders.l0]
    refine Ev_pos (by omega) (Ev_neg (by omega) ?_)
    have hc := Cand.first (w := w) (n + 1) (by omega) (by omega)
    rw [if_neg (by omega), Nat.add_sub_cancel] at hc
    exact spec_l9Borders_l1 w hb n h1 (by omega) out h2 h3 r g3 _ hc

theorem spec_l9Borders_ev (w : List Int) (hb : w.length ≤ 1048576) : ∃ r, r.length = w.length ∧ (∀ m, m < w.length → r.getD m 0 = ((lb w (m + 1) : Nat) : Int)) ∧ Ev (fun k => spec_l9Borders.f k w) r := by
  unfold spec_l9Borders.f
  by_cases h : w.length = 0
  · refine ⟨[], by simp [h], fun m hm => by omega, Ev_succ ?_⟩
    simp only [spec_l9Borders.l0]
    exact Ev_neg (by omega) (Ev.now _)
  · have e1 : lb w 1 = 0 := by have := lb_lt w 1 (by omega) (by omega); omega
    obtain ⟨r, g1, g2, g3⟩ := spec_l9Borders_l0 w hb (w.length - 1) 1 [0] (by omega) (by omega) rfl (fun m hm => by
      have : m = 0 := by omega
      subst this; rw [e1]; rfl)
    refine ⟨r, g1, g2, Ev_succ ?_⟩
    simp only [spec_l9Borders.l0]
    rw [e1] at g3
    rw [show wrap64 (0 + 1) = ((1 : Nat) : Int) from by unfold wrap64; rfl]
    exact Ev_pos (by omega) (Ev_pos trivial (Ev_pos (by simp) g3))

/-! ### spec_BordersOf -/
theorem spec_BordersOf_loop (w : List Int) (hb : w.length ≤ 1048576) (b : List Int) (hb1 : b.length = w.length) (hb2 : ∀ m, m < w.length → b.getD m 0 = ((lb w (m + 1) : Nat) : Int)) :
    ∀ (n : Nat) (acc : List Int), n ≤ w.length → acc.length + n ≤ w.length → Ev (fun k => spec_BordersOf.l0 k acc b (n : Int)) (bc w n n ++ acc) := by
  intro n
  induction n using Nat.strongRecOn with
  | _ n ih =>
    intro acc hn ha
    refine Ev_succ ?_
    simp only [spec_BordersOf.l0]
    by_cases n0 : n = 0
    · subst n0
      exact Ev_neg (by omega) (Ev_some (by simp [bc]))
    · have hlt := lb_lt w n (by omega) hn
      rw [wnat (x := (n : Int) - 1) (n - 1) (by omega) (by omega), rd_cast, hb2 (n - 1) (by omega), show n - 1 + 1 = n by omega]
      simp only [Option.bind_some]
      refine Ev_pos (by omega) (Ev_pos (by omega) (Ev_pos (by omega) (Ev_pos (by simp; omega) ?_)))
      refine Ev_eq (ih (lb w n) hlt _ (by omega) (by simp; omega)) ?_
      rw [bc_step w n (by omega) hn]
      simp

theorem spec_BordersOf_ev (w : List Int) (hb : w.length ≤ 1048576) : Ev (fun k => spec_BordersOf.f k w) (bc w w.length w.length) := by
  unfold spec_BordersOf.f
  obtain ⟨r, h1, h2, h3⟩ := spec_l9Borders_ev w hb
  exact Ev_call _ h3 (Ev_eq (spec_BordersOf_loop w hb r h1 h2 w.length [] (by omega) (by simp)) (by simp))

/-! ### spec_PeriodsOf -/
theorem spec_PeriodsOf_loop (w : List Int) (hb : w.length ≤ 1048576) (b : List Int) (hl : b.length ≤ 1048576) (hx : ∀ x ∈ b, 0 ≤ x ∧ x < w.length) :
    ∀ (n : Nat) (acc : List Int), n ≤ b.length → acc.length + n ≤ b.length →
    Ev (fun k => spec_PeriodsOf.l0 k w acc b ((n : Int) - 1)) (acc ++ ((b.take n).map fun x => (w.length : Int) - x).reverse) := by
  intro n
  induction n with
  | zero =>
    intro acc h1 h2
    refine Ev_succ ?_
    simp only [spec_PeriodsOf.l0]
    exact Ev_neg (by omega) (Ev_some (by simp))
  | succ n ih =>
    intro acc h1 h2
    refine Ev_succ ?_
    simp only [spec_PeriodsOf.l0]
    rw [show ((n + 1 : Nat) : Int) - 1 = (n : Int) by omega, rd_cast, w64 (n := (n : Int) - 1) (by omega) (by omega)]
    have hm := hx (b.getD n 0) (by rw [getD_eq (by omega)]; exact List.getElem_mem _)
    rw [w64 (n := (w.length : Int) - b.getD n 0) (by omega) (by omega)]
    refine Ev_pos (by omega) (Ev_pos (by omega) (Ev_pos (by omega) (Ev_pos (by omega) ?_)))
    refine Ev_eq (ih _ (by omega) (by simp; omega)) ?_
    rw [take_succ_getD b n 0 (by omega)]
    simp

theorem spec_PeriodsOf_ev (w : List Int) (hb : w.length ≤ 1048576) : Ev (fun k => spec_PeriodsOf.f k w) (pers w) := by
  unfold spec_PeriodsOf.f
  have hl := bc_length w w.length w.length
  refine Ev_call _ (spec_BordersOf_ev w hb) ?_
  rw [w64 (by omega) (by omega)]
  refine Ev_eq (spec_PeriodsOf_loop w hb _ (by omega) (bc_bounds w _ _ (by omega)) _ [] (Nat.le_refl _) (by simp)) ?_
  rw [List.take_length]
  rfl

/-! ### spec_LeastPeriod -/
theorem spec_LeastPeriod_ev (w : List Int) (hb : w.length ≤ 1048576) : Ev (fun k => spec_LeastPeriod.f k w) (lper w) := by
  unfold spec_LeastPeriod.f
  refine Ev_call _ (spec_PeriodsOf_ev w hb) ?_
  unfold pers lper
  by_cases h : w.length = 0
  · rw [h, if_pos rfl]
    exact Ev_pos (by simp [bc]) (Ev.now _)
  · rw [if_neg h, bc_step w w.length (by omega) (by omega)]
    refine Ev_neg (by simp; omega) (Ev_pos (by simp) (Ev_some ?_))
    simp [rd]

/-! ### spec_IsRun -/
noncomputable def runQ (w : List Int) (a b p : Int) : Bool := @decide (w.length ≤ 64 ∧ 0 ≤ a ∧ 0 ≤ b ∧ 0 ≤ p ∧ RunN w a.toNat b.toNat p.toNat) (Classical.propDecidable _)
theorem runQ_iff {w : List Int} {a b p : Int} : runQ w a b p = true ↔ w.length ≤ 64 ∧ 0 ≤ a ∧ 0 ≤ b ∧ 0 ≤ p ∧ RunN w a.toNat b.toNat p.toNat := by
  unfold runQ
  exact @decide_eq_true_iff _ (Classical.propDecidable _)
theorem runQ_eq {w : List Int} {a b p : Int} {x : Bool} (h : x = true ↔ w.length ≤ 64 ∧ 0 ≤ a ∧ 0 ≤ b ∧ 0 ≤ p ∧ RunN w a.toNat b.toNat p.toNat) : x = runQ w a b p := Bool.eq_iff_iff.2 (h.trans runQ_iff.symm)
theorem spec_IsRun_no (w : List Int) (a b p : Int) : Ev (fun k => spec_IsRun.j0 k w true a b p) false := by
  refine Ev_succ ?_
  simp only [spec_IsRun.j0]
  exact Ev_pos (by simp) (Ev.now _)
theorem spec_IsRun_yes (w : List Int) (hb : w.length ≤ 64) (i k q : Nat) (h1 : i + 2 * q ≤ k) (h2 : k ≤ w.length) (h3 : 1 ≤ q) : Ev (fun g => spec_IsRun.j0 g w false (i : Int) (k : Int) (q : Int)) (runQ w i k q) := by
  refine Ev_succ ?_
  simp only [spec_IsRun.j0, Int.toNat_natCast]
  have hp := lpN_pos (w := w) (i := i) (k := k) (by omega) h2
  have hl := spec_LeastPeriod_ev (cut w i k) (by rw [cut_length h2]; omega)
  rw [hp.2.2] at hl
  have hall : runQ w i k q = true ↔ RunN w i k q := by
    rw [runQ_iff]
    simp only [Int.toNat_natCast]
    exact ⟨fun h => h.2.2.2.2, fun h => ⟨hb, by omega, by omega, by omega, h⟩⟩
  refine Ev_neg (by simp) (Ev_pos (by omega) (Ev_pos (by omega) (Ev_pos (by omega) (Ev_call _ hl ?_))))
  by_cases c : lpN w i k = q
  · refine Ev_pos (by omega) ?_
    have hr : (!decide (k < w.length ∧ w.getD k 0 = w.getD (k - q) 0)) = true ↔ (k = w.length ∨ w.getD k 0 ≠ w.getD (k - q) 0) := by
      simp only [Bool.not_eq_true', decide_eq_false_iff_not]
      constructor
      · intro h
        by_cases e : k = w.length
        · exact .inl e
        · exact .inr (fun g => h ⟨by omega, g⟩)
      · rintro (e | e) ⟨h, g⟩
        · omega
        · exact e g
    have right : ∀ (hleft : i = 0 ∨ w.getD (i - 1) 0 ≠ w.getD (i - 1 + q) 0), (!decide (k < w.length ∧ w.getD k 0 = w.getD (k - q) 0)) = runQ w i k q := fun hleft => by
      refine Bool.eq_iff_iff.2 (hr.trans (Iff.trans ?_ hall.symm))
      exact ⟨fun h => ⟨by omega, h2, c, h1, hleft, h⟩, fun h => h.right⟩
    have er : (k : Int) < (w.length : Int) → (!(rd w (k : Int) == rd w ((k - q : Nat) : Int))) = (!decide (k < w.length ∧ w.getD k 0 = w.getD (k - q) 0)) := fun h => by
      rw [rd_cast, rd_cast]
      congr 1
      refine Bool.eq_iff_iff.2 ?_
      simp only [beq_iff_eq, decide_eq_true_eq]
      exact ⟨fun g => ⟨by omega, g⟩, fun g => g.2⟩
    have en : ¬ (k : Int) < (w.length : Int) → (!false) = (!decide (k < w.length ∧ w.getD k 0 = w.getD (k - q) 0)) := fun h => by
      congr 1
      exact (decide_eq_false (fun g => h (by omega))).symm
    rw [wnat (x := (k : Int) - q) (k - q) (by omega) (by omega)]
    by_cases ci : i = 0
    · subst ci
      refine Ev_neg (by omega) ?_
      by_cases ck : (k : Int) < (w.length : Int)
      · exact Ev_pos ck (Ev_pos (by omega) (Ev_pos (by omega) (Ev_pos (by omega) (Ev_some ((er ck).trans (right (.inl rfl)))))))
      · exact Ev_neg ck (Ev_some ((en ck).trans (right (.inl rfl))))
    · rw [wnat (x := (i : Int) - 1) (i - 1) (by omega) (by omega), wnat (x := ((i - 1 : Nat) : Int) + q) (i - 1 + q) (by omega) (by omega)]
      refine Ev_pos (by omega) (Ev_pos (by omega) (Ev_pos (by omega) (Ev_pos (by omega) (Ev_pos (by omega) ?_))))
      simp only [rd_cast w (i - 1), rd_cast w (i - 1 + q)]
      have no : w.getD (i - 1) 0 = w.getD (i - 1 + q) 0 → false = runQ w i k q := fun e => by
        refine Bool.eq_iff_iff.2 (Iff.trans ?_ hall.symm)
        exact ⟨fun h => by simp at h, fun h => by
          rcases h.left with g | g
          · omega
          · exact absurd e g⟩
      by_cases ck : (k : Int) < (w.length : Int)
      · exact Ev_pos ck (Ev_pos (by omega) (Ev_pos (by omega) (Ev_pos (by omega) (Ev_ite (fun e => Ev_some (no e)) (fun e => Ev_some ((er ck).trans (right (.inr e))))))))
      · exact Ev_neg ck (Ev_ite (fun e => Ev_some (no e)) (fun e => Ev_some ((en ck).trans (right (.inr e)))))
  · refine Ev_neg (by omega) (Ev_some ?_)
    refine Bool.eq_iff_iff.2 (Iff.trans ?_ hall.symm)
    exact ⟨fun h => by simp at h, fun h => absurd h.per c⟩
theorem spec_IsRun_ev (w : List Int) (hw : w.length ≤ 1048576) (a b p : Int) : Ev (fun k => spec_IsRun.f k w a b p) (runQ w a b p) := by
  unfold spec_IsRun.f
  have hno : ¬ (w.length ≤ 64 ∧ 0 ≤ a ∧ 0 ≤ b ∧ 0 ≤ p ∧ RunN w a.toNat b.toNat p.toNat) → Ev (fun k => spec_IsRun.j0 k w true a b p) (runQ w a b p) := fun h => by
    have e : runQ w a b p = false := by
      cases hq : runQ w a b p
      · rfl
      · exact absurd (runQ_iff.1 hq) h
    rw [e]
    exact spec_IsRun_no w a b p
  have facts : ∀ (c : Prop), (RunN w a.toNat b.toNat p.toNat → 0 ≤ a → 0 ≤ b → 0 ≤ p → a.toNat < b.toNat → b.toNat ≤ w.length → a.toNat + 2 * p.toNat ≤ b.toNat → 1 ≤ p.toNat → w.length ≤ 64 → False) → Ev (fun k => spec_IsRun.j0 k w true a b p) (runQ w a b p) := fun c h => hno (fun ⟨h0, h1, h2, h3, r⟩ => h r h1 h2 h3 r.lt r.le r.twice r.pos h0)
  refine Ev_ite (fun h => facts True (fun _ _ _ _ _ _ _ _ _ => by omega)) (fun h1 => ?_)
  refine Ev_ite (fun h => facts True (fun _ _ _ _ _ _ _ _ _ => by omega)) (fun h2 => ?_)
  refine Ev_ite (fun h => facts True (fun _ _ _ _ _ _ _ _ _ => by omega)) (fun h3 => ?_)
  refine Ev_ite (fun h => facts True (fun _ _ _ _ _ _ _ _ _ => by omega)) (fun h4 => ?_)
  refine Ev_ite (fun h => facts True (fun _ _ _ _ _ _ _ _ _ => by omega)) (fun h5 => ?_)
  rw [w64 (n := b - a) (by omega) (by omega), w64 (n := 2 * p) (by omega) (by omega)]
  refine Ev_ite (fun h => facts True (fun _ _ _ _ _ _ _ _ _ => by omega)) (fun h6 => ?_)
  by_cases c : w.length ≤ 64
  · rw [show decide ((w.length : Int) > 64) = false from decide_eq_false (by omega)]
    obtain ⟨i, rfl⟩ : ∃ i : Nat, a = i := ⟨a.toNat, by omega⟩
    obtain ⟨k, rfl⟩ : ∃ k : Nat, b = k := ⟨b.toNat, by omega⟩
    obtain ⟨q, rfl⟩ : ∃ q : Nat, p = q := ⟨p.toNat, by omega⟩
    exact spec_IsRun_yes w c i k q (by omega) (by omega) (by omega)
  · rw [show decide ((w.length : Int) > 64) = true from decide_eq_true (by omega)]
    exact facts True (fun _ _ _ _ _ _ _ _ _ => by omega)

/-! ### rmk -/
def rmk (i k q : Nat) : S45 := ⟨(i : Int), (k : Int), (q : Int)⟩

/-! ### impl_borders -/
theorem impl_borders_l1 (w : List Int) (hb : w.length ≤ 1048576) (n : Nat) (hn : 1 ≤ n) (hl : n ≤ w.length) (out : List Int) (ho : BrdTo w out n) (r : List Int)
    (hx : Ev (fun k => impl_borders.l0 k w (out.set n ((lb w n : Nat) : Int)) ((n + 1 : Nat) : Int)) r) :
    ∀ k : Nat, Cand w n k → Ev (fun f => impl_borders.l1 f w out (n : Int) ((k : Int) - 1)) r := by
  intro k
  induction k using Nat.strongRecOn with
  | _ k ih =>
    intro hc
    have hkn : k < n := by have := hc.2.1; simpa using this
    refine Ev_succ ?_
    simp only [impl_borders.l1]
    have hlen := ho.1
    by_cases k0 : k = 0
    · subst k0
      have e := lb_of_cand hn hl hc (Or.inl rfl)
      rw [e] at hx
      refine Ev_neg (by omega) (Ev_pos (by omega) (Ev_pos (by omega) ?_))
      rw [wnat (x := ((0 : Nat) : Int) - 1 + 1) 0 (by omega) (by omega), wsucc (n := n) (by omega), Int.toNat_natCast]
      exact hx
    · obtain ⟨j, rfl⟩ : ∃ j, k = j + 1 := ⟨k - 1, by omega⟩
      rw [show ((j + 1 : Nat) : Int) - 1 = (j : Int) by omega, wnat (x := (n : Int) - 1) (n - 1) (by omega) (by omega), rd_cast, rd_cast]
      refine Ev_pos (by omega) (Ev_pos (by omega) (Ev_pos (by omega) (Ev_pos (by omega) (Ev_pos (by omega) ?_))))
      by_cases he : w.getD j 0 = w.getD (n - 1) 0
      · refine Ev_pos he (Ev_pos (by omega) (Ev_pos (by omega) ?_))
        have e := lb_of_cand hn hl hc (Or.inr (by simpa using he))
        rw [e] at hx
        rw [wsucc (n := j) (by omega), wsucc (n := n) (by omega), Int.toNat_natCast]
        exact hx
      · refine Ev_neg he (Ev_pos (by omega) ?_)
        have hnx := hc.next hn hl he
        rw [rd_cast]
        by_cases j0 : j = 0
        · subst j0
          rw [if_pos rfl] at hnx
          have := ih 0 (by omega) hnx
          rw [ho.2.1]
          exact this
        · rw [if_neg j0] at hnx
          have hlt := lb_lt w j (by omega) (by omega)
          have := ih _ (by omega) hnx
          rw [ho.2.2 j (by omega) (by omega)]
          rw [show ((lb w j + 1 : Nat) : Int) - 1 = ((lb w j : Nat) : Int) by omega] at this
          exact this

theorem impl_borders_l0 (w : List Int) (hb : w.length ≤ 1048576) (d : Nat) : ∀ (n : Nat) (out : List Int), n + d = w.length + 1 → 1 ≤ n → BrdTo w out n →
    ∃ r, BrdTo w r (w.length + 1) ∧ Ev (fun k => impl_borders.l0 k w out (n : Int)) r := by
  induction d with
  | zero =>
    intro n out h h1 ho
    have : n = w.length + 1 := by omega
    subst this
    refine ⟨out, ho, Ev_succ ?_⟩
    simp only [impl_borders.l0]
    exact Ev_neg (by omega) (Ev.now _)
  | succ d ih =>
    intro n out h h1 ho
    have hlen := ho.1
    have hnew : BrdTo w (out.set n ((lb w n : Nat) : Int)) (n + 1) := by
      refine ⟨by simpa using hlen, ?_, fun m hm hm2 => ?_⟩
      · rw [getD_set, if_neg (by omega)]; exact ho.2.1
      · rw [getD_set]
        by_cases e : n = m
        · subst e; rw [if_pos ⟨rfl, by omega⟩]
        · rw [if_neg (by omega)]; exact ho.2.2 m hm (by omega)
    obtain ⟨r, hr, hev⟩ := ih (n + 1) _ (by omega) (by omega) hnew
    refine ⟨r, hr, Ev_succ ?_⟩
    simp only [impl_borders.l0]
    rw [wnat (x := (n : Int) - 1) (n - 1) (by omega) (by omega), rd_cast]
    refine Ev_pos (by omega) (Ev_pos (by omega) (Ev_pos (by omega) ?_))
    have hc := Cand.first (w := w) n h1 (by omega)
    have := impl_borders_l1 w hb n h1 (by omega) out ho r hev _ hc
    by_cases e : n = 1
    · rw [if_pos e] at this
      rw [e] at this ⊢
      rw [ho.2.1]
      exact this
    · rw [if_neg e] at this
      rw [ho.2.2 (n - 1) (by omega) (by omega)]
      rw [show ((lb w (n - 1) + 1 : Nat) : Int) - 1 = ((lb w (n - 1) : Nat) : Int) by omega] at this
      exact this

theorem impl_borders_start (w : List Int) : BrdTo w ((List.replicate (w.length + 1) (0 : Int)).set 0 (-1)) 1 :=
  ⟨by simp, by simp [List.replicate_succ], fun m hm hm2 => by omega⟩

theorem impl_borders_ev (w : List Int) (hb : w.length ≤ 1048576) : ∃ r, BrdTo w r (w.length + 1) ∧ Ev (fun k => impl_borders.f k w) r := by
  obtain ⟨r, h1, h2⟩ := impl_borders_l0 w hb w.length 1 _ (by omega) (by omega) (impl_borders_start w)
  refine ⟨r, h1, ?_⟩
  unfold impl_borders.f
  have e1 : wrap64 ((w.length : Int) + 1) = ((w.length + 1 : Nat) : Int) := wsucc (by omega)
  have e2 : Int.toNat 0 = 0 := rfl
  have e3 : ((1 : Nat) : Int) = 1 := rfl
  have e4 : 0 < ((List.replicate (w.length + 1) (0 : Int)).length : Int) := by simp
  rw [e3] at h2
  simp only [Option.bind_some, e1, Int.toNat_natCast, e2]
  exact Ev_pos (by omega) (Ev_pos (by omega) (Ev_pos e4 h2))

/-! ### impl_LeastPeriod -/
theorem impl_LeastPeriod_ev (w : List Int) (hb : w.length ≤ 1048576) : Ev (fun k => impl_LeastPeriod.f k w) (lper w) := by
  unfold impl_LeastPeriod.f lper
  by_cases h : w.length = 0
  · rw [h, if_pos rfl]
    exact Ev_pos rfl (Ev.now _)
  · rw [if_neg h]
    obtain ⟨r, h1, h2⟩ := impl_borders_ev w hb
    have hlen := h1.1
    have hlt := lb_lt w w.length (by omega) (by omega)
    refine Ev_neg (by omega) (Ev_call _ h2 (Ev_pos (by omega) (Ev_pos (by omega) (Ev_some ?_))))
    rw [rd_cast, h1.2.2 w.length (by omega) (by omega), w64 (by omega) (by omega)]

/-! ### impl_RunsOf -/
theorem rmk_key (i k q : Nat) : runKey (rmk i k q) = [(i : Int), (k : Int)] := rfl
theorem rmk_inj (i k q i' k' q' : Nat) (h : runKey (rmk i k q) = runKey (rmk i' k' q')) : i = i' ∧ k = k' := by
  rw [rmk_key, rmk_key] at h
  injection h with h1 h2
  injection h2 with h2
  omega
theorem impl_RunsOf_tail (w : List Int) (hb : w.length ≤ 64) (m p k : Nat) (hp : 1 ≤ p) (out : List S45) (ho : out.length ≤ 50000) (r : List S45) (he : Ext w m p k)
    (h1 : k - m ≥ 2 * p → lpN w m k = p → Ev (fun g => impl_RunsOf.l1 g w (out ++ [rmk m k p]) (p : Int) ((k - p + 1 : Nat) : Int)) r)
    (h2 : ¬ (k - m ≥ 2 * p ∧ lpN w m k = p) → Ev (fun g => impl_RunsOf.l1 g w out (p : Int) ((k - p + 1 : Nat) : Int)) r) :
    Ev (fun g => if ((k - m : Nat) : Int) ≥ ((2 * p : Nat) : Int) then (if 0 ≤ (m : Int) then (if (m : Int) ≤ (k : Int) then (if (k : Int) ≤ (w.length : Int) then ((impl_LeastPeriod.f g (cut w m k)).bind fun t => (if t = (p : Int) then (if out.length < 5864062014805 then (impl_RunsOf.l1 g w (out ++ [rmk m k p]) (p : Int) ((k - p + 1 : Nat) : Int)) else none) else (impl_RunsOf.l1 g w out (p : Int) ((k - p + 1 : Nat) : Int)))) else none) else none) else none) else (impl_RunsOf.l1 g w out (p : Int) ((k - p + 1 : Nat) : Int))) r := by
  have hge := he.ge
  have hle := he.le
  have hq := lpN_pos (w := w) (i := m) (k := k) (by omega) hle
  have hl := impl_LeastPeriod_ev (cut w m k) (by rw [cut_length hle]; omega)
  rw [hq.2.2] at hl
  by_cases c : k - m ≥ 2 * p
  · refine Ev_pos (by omega) (Ev_pos (by omega) (Ev_pos (by omega) (Ev_pos (by omega) (Ev_call _ hl ?_))))
    by_cases c2 : lpN w m k = p
    · exact Ev_pos (by omega) (Ev_pos (by omega) (h1 c c2))
    · exact Ev_neg (by omega) (h2 (fun h => c2 h.2))
  · exact Ev_neg (by omega) (h2 (fun h => c h.1))
theorem impl_RunsOf_l2 (w : List Int) (hb : w.length ≤ 64) (m p : Nat) (hp : 1 ≤ p) (out : List S45) (ho : out.length ≤ 50000) (r : List S45)
    (hc : ∀ k, Ext w m p k → (k - m ≥ 2 * p → lpN w m k = p → Ev (fun g => impl_RunsOf.l1 g w (out ++ [rmk m k p]) (p : Int) ((k - p + 1 : Nat) : Int)) r) ∧ (¬ (k - m ≥ 2 * p ∧ lpN w m k = p) → Ev (fun g => impl_RunsOf.l1 g w out (p : Int) ((k - p + 1 : Nat) : Int)) r))
    (f : Nat) : ∀ k : Nat, m + p ≤ k → k + f = w.length → Per w m k p → Ev (fun g => impl_RunsOf.l2 g w out (p : Int) (m : Int) (k : Int)) r := by
  have tail : ∀ k, Ext w m p k → _ := fun k he => impl_RunsOf_tail w hb m p k hp out ho r he (hc k he).1 (hc k he).2
  induction f with
  | zero =>
    intro k h1 h2 h3
    refine Ev_succ ?_
    simp only [impl_RunsOf.l2, Int.toNat_natCast]
    rw [wnat (x := (k : Int) - p) (k - p) (by omega) (by omega), wnat (x := (k : Int) - m) (k - m) (by omega) (by omega), wnat (x := 2 * (p : Int)) (2 * p) (by omega) (by omega), wsucc (n := k - p) (by omega)]
    exact Ev_neg (by omega) (tail k ⟨h1, by omega, h3, .inl (by omega)⟩)
  | succ f ih =>
    intro k h1 h2 h3
    refine Ev_succ ?_
    simp only [impl_RunsOf.l2, Int.toNat_natCast]
    rw [wnat (x := (k : Int) - p) (k - p) (by omega) (by omega), wnat (x := (k : Int) - m) (k - m) (by omega) (by omega), wnat (x := 2 * (p : Int)) (2 * p) (by omega) (by omega), wsucc (n := k - p) (by omega), wsucc (n := k) (by omega)]
    refine Ev_pos (by omega) (Ev_pos (by omega) (Ev_pos (by omega) (Ev_pos (by omega) ?_)))
    rw [rd_cast, rd_cast]
    by_cases c : w.getD k 0 = w.getD (k - p) 0
    · refine Ev_pos c (ih (k + 1) (by omega) (by omega) (fun t t1 t2 => ?_))
      by_cases e : t + p = k
      · rw [e, c, ← e, Nat.add_sub_cancel]
      · exact h3 t t1 (by omega)
    · exact Ev_neg c (tail k ⟨h1, by omega, h3, .inr c⟩)
theorem impl_RunsOf_l1 (w : List Int) (hb : w.length ≤ 64) (p : Nat) (hp : 1 ≤ p) (hp2 : p ≤ 64) (r : List S45)
    (hn : ∀ out : List S45, Scan rmk runKey w (p + 1) 0 out → out.length ≤ (p + 1) * 200 → Ev (fun g => impl_RunsOf.l0 g w out ((p + 1 : Nat) : Int)) r)
    (f : Nat) : ∀ (m : Nat) (out : List S45), w.length ≤ m + p + f → m ≤ w.length + 1 → (m + p < w.length → Fresh w p m) → Scan rmk runKey w p m out → out.length ≤ p * 200 + m → Ev (fun g => impl_RunsOf.l1 g w out (p : Int) (m : Int)) r := by
  induction f with
  | zero =>
    intro m out h1 h2 h3 h4 h5
    refine Ev_succ ?_
    simp only [impl_RunsOf.l1]
    rw [wnat (x := (m : Int) + p) (m + p) (by omega) (by omega), wsucc (n := p) (by omega)]
    exact Ev_neg (by omega) (hn out (h4.next (by omega)) (by omega))
  | succ f ih =>
    intro m out h1 h2 h3 h4 h5
    refine Ev_succ ?_
    simp only [impl_RunsOf.l1]
    rw [wnat (x := (m : Int) + p) (m + p) (by omega) (by omega), wsucc (n := p) (by omega)]
    by_cases c : m + p < w.length
    · refine Ev_pos (by omega) ?_
      refine impl_RunsOf_l2 w hb m p hp out (by omega) r (fun k he => ?_) (w.length - (m + p)) (m + p) (by omega) (by omega) (fun t t1 t2 => by omega)
      have hge := he.ge
      have hle := he.le
      have st := h4.step hp he (h3 c) rmk_inj
      refine ⟨fun c1 c2 => ih (k - p + 1) _ (by omega) (by omega) (fun h => he.fresh (by omega) hp) (st.1 c1 c2) (by rw [List.length_append, List.length_singleton]; omega), fun c1 => ih (k - p + 1) _ (by omega) (by omega) (fun h => he.fresh (by omega) hp) (st.2 c1) (by omega)⟩
    · exact Ev_neg (by omega) (hn out (h4.next (by omega)) (by omega))
theorem impl_RunsOf_end (w : List Int) (hb : w.length ≤ 64) (p : Nat) (out : List S45) (h : Scan rmk runKey w p 0 out) (hl : out.length ≤ 50000) (hp : w.length < 2 * p) : runsO out = some (sruns rmk w) := by
  unfold runsO
  rw [if_pos ⟨h.2, by omega⟩, h.done rmk_key hb hp]
theorem impl_RunsOf_l0 (w : List Int) (hb : w.length ≤ 64) (d : Nat) : ∀ (p : Nat) (out : List S45), 1 ≤ p → p ≤ 65 → w.length ≤ p + d → Scan rmk runKey w p 0 out → out.length ≤ p * 200 → Ev (fun g => impl_RunsOf.l0 g w out (p : Int)) (sruns rmk w) := by
  induction d with
  | zero =>
    intro p out h1 h2 h3 h4 h5
    refine Ev_succ ?_
    simp only [impl_RunsOf.l0]
    rw [wnat (x := 2 * (p : Int)) (2 * p) (by omega) (by omega)]
    exact Ev_neg (by omega) (Ev_const (impl_RunsOf_end w hb p out h4 (by omega) (by omega)))
  | succ d ih =>
    intro p out h1 h2 h3 h4 h5
    refine Ev_succ ?_
    simp only [impl_RunsOf.l0]
    rw [wnat (x := 2 * (p : Int)) (2 * p) (by omega) (by omega)]
    by_cases c : 2 * p ≤ w.length
    · refine Ev_pos (by omega) ?_
      exact impl_RunsOf_l1 w hb p h1 (by omega) _ (fun out' s l => ih (p + 1) out' (by omega) (by omega) (by omega) s l) w.length 0 out (by omega) (by omega) (fun _ => .inl rfl) h4 (by omega)
    · exact Ev_neg (by omega) (Ev_const (impl_RunsOf_end w hb p out h4 (by omega) (by omega)))
theorem impl_RunsOf_ev (w : List Int) (hw : w.length ≤ 1048576) : Ev (fun g => impl_RunsOf.f g w) (sruns rmk w) := by
  unfold impl_RunsOf.f
  simp only [Option.bind_some]
  by_cases c : 64 < w.length
  · unfold sruns
    rw [if_pos c]
    exact Ev_pos (by omega) (Ev.now _)
  · exact Ev_neg (by omega) (impl_RunsOf_l0 w (by omega) w.length 1 [] (by omega) (by omega) (by omega) (Scan.start rmk runKey w) (by simp))
theorem sruns_length (w : List Int) : (sruns rmk w).length ≤ 5000 := by
  unfold sruns
  split
  · simp
  · have := sall_length rmk w w.length
    have hm : w.length * w.length ≤ 64 * 64 := Nat.mul_le_mul (by omega) (by omega)
    omega

/-! ### impl_IsRun -/
theorem has_loop (l : List S45) (hl : l.length ≤ 5000) (a b c : Int) (d : Nat) : ∀ (n : Nat), n + d = l.length → (∀ j, j < n → ¬ (a = (l.getD j z45).f0 ∧ b = (l.getD j z45).f1 ∧ c = (l.getD j z45).f2)) →
    ∃ r : Int, Ev (fun k => impl_Run_185.l0 k l (l.length : Int) (n : Int) a b c) r ∧ (r ≥ 0 ↔ ∃ x ∈ l, a = x.f0 ∧ b = x.f1 ∧ c = x.f2) := by
  induction d with
  | zero =>
    intro n h hno
    refine ⟨-1, Ev_succ ?_, ?_⟩
    · simp only [impl_Run_185.l0]
      exact Ev_neg (by omega) (Ev.now _)
    · constructor
      · intro h; omega
      · rintro ⟨x, hx, e⟩
        obtain ⟨j, hj, rfl⟩ := List.getElem_of_mem hx
        refine (hno j (by omega) ?_).elim
        rw [getD_eq hj]
        exact e
  | succ d ih =>
    intro n h hno
    by_cases cc : a = (l.getD n z45).f0 ∧ b = (l.getD n z45).f1 ∧ c = (l.getD n z45).f2
    · refine ⟨(n : Int), Ev_succ ?_, ?_⟩
      · simp only [impl_Run_185.l0]
        refine Ev_pos (by omega) (Ev_pos (by omega) (Ev_pos (by omega) (Ev_pos ?_ (Ev.now _))))
        show (a == (l.getD n z45).f0 && (b == (l.getD n z45).f1 && (c == (l.getD n z45).f2))) = true
        simp only [Bool.and_eq_true, beq_iff_eq]
        exact cc
      · refine ⟨fun _ => ⟨l[n], List.getElem_mem _, ?_⟩, fun _ => by omega⟩
        rw [getD_eq (by omega)] at cc
        exact cc
    · obtain ⟨r, h1, h2⟩ := ih (n + 1) (by omega) (fun j hj => by
        by_cases e : j = n
        · subst e; exact cc
        · exact hno j (by omega))
      refine ⟨r, Ev_succ ?_, h2⟩
      simp only [impl_Run_185.l0]
      rw [wsucc (n := n) (by omega)]
      refine Ev_pos (by omega) (Ev_pos (by omega) (Ev_pos (by omega) (Ev_neg ?_ h1)))
      show ¬ (a == (l.getD n z45).f0 && (b == (l.getD n z45).f1 && (c == (l.getD n z45).f2))) = true
      simp only [Bool.and_eq_true, beq_iff_eq]
      exact cc
theorem impl_IsRun_ev (w : List Int) (hb : w.length ≤ 1048576) (a b c : Int) : Ev (fun k => impl_IsRun.f k w a b c) (runQ w a b c) := by
  unfold impl_IsRun.f impl_Run_160.f impl_Run_185.f
  obtain ⟨r, h1, h2⟩ := has_loop (sruns rmk w) (sruns_length w) a b c _ 0 (Nat.zero_add _) (fun j hj => by omega)
  refine Ev_call _ (impl_RunsOf_ev w hb) (Ev_call _ (Ev_call _ h1 (Ev.now _)) (Ev_some (runQ_eq ?_)))
  rw [decide_eq_true_eq, h2]
  constructor
  · rintro ⟨x, hx, e1, e2, e3⟩
    obtain ⟨hw, i, k, q, r, e⟩ := mem_sruns.1 hx
    subst e
    subst e1 e2 e3
    refine ⟨hw, ?_, ?_, ?_, ?_⟩
    · show (0 : Int) ≤ (i : Int); omega
    · show (0 : Int) ≤ (k : Int); omega
    · show (0 : Int) ≤ (q : Int); omega
    · exact r
  · rintro ⟨hw, h1, h2, h3, r⟩
    refine ⟨_, mem_sruns.2 ⟨hw, _, _, _, r, rfl⟩, ?_, ?_, ?_⟩
    · show a = (a.toNat : Int); omega
    · show b = (b.toNat : Int); omega
    · show c = (c.toNat : Int); omega

/-! ### spec_CompareWords -/
theorem spec_CompareWords_loop (u v : List Int) (hu : u.length ≤ 1048576) (d : Nat) : ∀ n : Nat, n + d = u.length → n ≤ v.length →
    Ev (fun k => spec_CompareWords.l0 k u v (n : Int)) (cmpW (u.drop n) (v.drop n)) := by
  induction d with
  | zero =>
    intro n h h2
    have hn : n = u.length := by omega
    subst hn
    refine Ev_succ ?_
    simp only [spec_CompareWords.l0]
    refine Ev_neg (by omega) (Ev_succ ?_)
    simp only [spec_CompareWords.j1]
    refine Ev_neg (by simp) ?_
    rw [List.drop_length, cmpW_nil_left]
    by_cases c : u.length < v.length
    · refine Ev_pos (by omega) (Ev_some ?_)
      rw [if_neg (by simp; omega)]
    · refine Ev_neg (by omega) (Ev_neg (by omega) (Ev_some ?_))
      rw [if_pos (by simp; omega)]
  | succ d ih =>
    intro n h h2
    refine Ev_succ ?_
    simp only [spec_CompareWords.l0]
    refine Ev_pos (by omega) (Ev_succ ?_)
    simp only [spec_CompareWords.j1]
    by_cases c : n < v.length
    · refine Ev_pos (by simp; omega) (Ev_pos (by omega) (Ev_pos (by omega) (Ev_pos (by omega) ?_)))
      rw [rd_cast, rd_cast, drop_cons u n 0 (by omega), drop_cons v n 0 c, cmpW_cons, wsucc (by omega)]
      refine Ev_ite (fun g => Ev_some ?_) (fun g => ?_)
      · rw [if_pos g]
      · rw [if_neg g]
        refine Ev_ite (fun g2 => Ev_some ?_) (fun g2 => ?_)
        · rw [if_pos g2]
        · rw [if_neg g2]
          exact ih (n + 1) (by omega) (by omega)
    · refine Ev_neg (by simp; omega) (Ev_neg (by omega) (Ev_pos (by omega) (Ev_some ?_)))
      rw [List.drop_eq_nil_of_le (show v.length ≤ n by omega), cmpW_nil_right, if_neg (by simp; omega)]

theorem spec_CompareWords_ev (u v : List Int) (hu : u.length ≤ 1048576) : Ev (fun k => spec_CompareWords.f k u v) (cmpW u v) := by
  unfold spec_CompareWords.f
  exact spec_CompareWords_loop u v hu _ 0 (Nat.zero_add _) (by omega)

/-! ### spec_l8Put -/
theorem spec_l8Put_loop (l : List (List Int)) (w : List Int) (hw : w.length ≤ 1048576) (hl : l.length ≤ 1048576) (d : Nat) : ∀ (n : Nat) (out : List (List Int)) (pl : Bool), n + d = l.length → out.length ≤ n + (if pl = true then 1 else 0) →
    Ev (fun k => spec_l8Put.l0 k l w out pl (n : Int)) (out ++ if pl = true then l.drop n else putW w (l.drop n)) := by
  induction d with
  | zero =>
    intro n out pl h1 h2
    have hn : n = l.length := by omega
    have h2' : out.length ≤ n + 1 := by split at h2 <;> omega
    refine Ev_succ ?_
    simp only [spec_l8Put.l0]
    refine Ev_neg (by omega) ?_
    rw [hn, List.drop_length]
    cases pl with
    | true => exact Ev_pos rfl (Ev_some (by simp))
    | false =>
      refine Ev_neg (by simp) ?_
      simp only [Option.bind_some]
      exact Ev_pos (by simp; omega) (Ev_pos (by omega) (Ev_some (by simp [putW])))
  | succ d ih =>
    intro n out pl h1 h2
    have h2' : out.length ≤ n + 1 := by split at h2 <;> omega
    refine Ev_succ ?_
    simp only [spec_l8Put.l0]
    refine Ev_pos (by omega) (Ev_pos (by omega) ?_)
    have hx : rd_L1 l (n : Int) = l.getD n [] := rfl
    rw [hx, drop_cons l n [] (by omega)]
    refine Ev_call _ (spec_CompareWords_ev w (l.getD n []) hw) ?_
    have step : ∀ (pl' : Bool) (out' : List (List Int)), out'.length ≤ n + 1 + (if pl' = true then 1 else 0) → Ev (fun k => spec_l8Put.l0 k l w out' pl' (wrap64 ((n : Int) + 1))) (out' ++ if pl' = true then l.drop (n + 1) else putW w (l.drop (n + 1))) := by
      intro pl' out' h
      rw [wsucc (by omega)]
      exact ih (n + 1) out' pl' (by omega) (by omega)
    by_cases c0 : cmpW w (l.getD n []) = 0
    · refine Ev_pos c0 (Ev_neg (by omega) (Ev_pos (by omega) (Ev_eq (step true _ (by simp; omega)) ?_)))
      rw [if_pos rfl, List.append_assoc]
      congr 1
      cases pl with
      | true => rfl
      | false => rw [if_neg (by simp), putW, if_neg (by omega), if_pos c0]; rfl
    · refine Ev_neg c0 ?_
      by_cases c1 : cmpW w (l.getD n []) < 0
      · refine Ev_pos c1 ?_
        cases pl with
        | true =>
          refine Ev_pos rfl (Ev_pos (by omega) (Ev_eq (step true _ (by simp; omega)) ?_))
          rw [if_pos rfl, if_pos rfl, List.append_assoc]
          rfl
        | false =>
          refine Ev_neg (by simp) ?_
          simp only [Option.bind_some]
          refine Ev_pos (by simp; omega) (Ev_pos (by omega) (Ev_pos (by simp; omega) (Ev_eq (step true _ (by simp at h2 ⊢; omega)) ?_)))
          rw [if_pos rfl, if_neg (by simp), putW, if_pos c1]
          simp
      · refine Ev_neg c1 (Ev_pos (by omega) (Ev_eq (step pl _ (by rw [List.length_append, List.length_singleton]; omega)) ?_))
        rw [List.append_assoc]
        congr 1
        cases pl with
        | true => rfl
        | false => rw [if_neg (by simp), if_neg (by simp), putW, if_neg c1, if_neg c0]; rfl

theorem spec_l8Put_ev (l : List (List Int)) (w : List Int) (hw : w.length ≤ 1048576) (hl : l.length ≤ 1048576) : Ev (fun k => spec_l8Put.f k l w) (putW w l) := by
  unfold spec_l8Put.f
  exact Ev_eq (spec_l8Put_loop l w hw hl l.length 0 [] false (by omega) (by simp)) (by simp)

/-! ### spec_ConjugatesOf -/
theorem spec_l11Turn_ev (w : List Int) (i : Nat) (hw : w.length ≤ 1048576) (hi : i ≤ w.length) : spec_l11Turn.f w (i : Int) = some (rot w i) := by
  unfold spec_l11Turn.f
  simp only [Option.bind_some]
  rw [if_pos (by omega), if_pos (by omega), Int.toNat_natCast, if_pos (by rw [List.length_nil, List.length_drop]; omega), if_pos (by rw [List.nil_append, List.length_drop, List.length_take]; omega)]
  rfl

theorem spec_ConjugatesOf_loop (w : List Int) (hw : w.length ≤ 64) (d : Nat) : ∀ i : Nat, i + d = w.length →
    Ev (fun k => spec_ConjugatesOf.l0 k w (canon (rotsTo w i)) (i : Int)) (conj w) := by
  induction d with
  | zero =>
    intro i h
    refine Ev_succ ?_
    simp only [spec_ConjugatesOf.l0]
    refine Ev_neg (by omega) (Ev_succ ?_)
    simp only [spec_ConjugatesOf.j1]
    refine Ev_neg (by simp) (Ev_some ?_)
    unfold conj
    rw [if_neg (by omega), show i = w.length by omega]
  | succ d ih =>
    intro i h
    refine Ev_succ ?_
    simp only [spec_ConjugatesOf.l0]
    refine Ev_pos (by omega) (Ev_succ ?_)
    simp only [spec_ConjugatesOf.j1]
    refine Ev_pos (by simp; omega) ?_
    simp only [spec_l11Turn_ev w i (by omega) (by omega), Option.bind_some]
    have h2 := canon_length (rotsTo w i)
    rw [rotsTo_length] at h2
    refine Ev_call _ (spec_l8Put_ev _ _ (by rw [rot_length]; omega) (by omega)) ?_
    rw [← canon_snoc, ← rotsTo_succ, wsucc (by omega)]
    exact ih (i + 1) (by omega)

theorem spec_ConjugatesOf_ev (w : List Int) (hb : w.length ≤ 1048576) : Ev (fun k => spec_ConjugatesOf.f k w) (conj w) := by
  unfold spec_ConjugatesOf.f
  by_cases h : w.length ≤ 64
  · exact spec_ConjugatesOf_loop w h w.length 0 (by omega)
  · refine Ev_succ ?_
    simp only [spec_ConjugatesOf.l0]
    have e : conj w = [] := by unfold conj; rw [if_pos (by omega)]
    rw [e]
    refine Ev_pos (by omega) (Ev_succ ?_)
    simp only [spec_ConjugatesOf.j1]
    exact Ev_neg (by simp; omega) (Ev.now _)

/-! ### impl_ConjugatesOf -/
theorem impl_different_ev2 (l : List (List Int)) (h : l.length < 4611686018427387904) : Ev (fun k => impl_different.f k l) (canon l) := by
  unfold impl_different.f
  exact Ev_pos h (Ev.now _)

theorem impl_ConjugatesOf_loop (w : List Int) (hw : w.length ≤ 64) (d : Nat) : ∀ i : Nat, i + d = w.length →
    Ev (fun k => impl_ConjugatesOf.l0 k w (rotsTo w i) (w.length : Int) (i : Int)) (conj w) := by
  induction d with
  | zero =>
    intro i h
    refine Ev_succ ?_
    simp only [impl_ConjugatesOf.l0]
    refine Ev_neg (by omega) (Ev_call _ (impl_different_ev2 _ (by rw [rotsTo_length]; omega)) (Ev_some ?_))
    unfold conj
    rw [if_neg (by omega), show i = w.length by omega]
  | succ d ih =>
    intro i h
    refine Ev_succ ?_
    simp only [impl_ConjugatesOf.l0, Option.bind_some]
    rw [Int.toNat_natCast]
    refine Ev_pos (by omega) (Ev_pos (by omega) (Ev_pos (by omega) (Ev_pos (by rw [List.length_nil, List.length_drop]; omega) (Ev_pos (by rw [List.nil_append, List.length_drop, List.length_take]; omega) (Ev_pos (by rw [rotsTo_length]; omega) ?_)))))
    have e : ([] ++ List.drop i w) ++ List.take i w = rot w i := rfl
    rw [e, ← rotsTo_succ, wsucc (by omega)]
    exact ih (i + 1) (by omega)

theorem impl_ConjugatesOf_ev (w : List Int) (hb : w.length ≤ 1048576) : Ev (fun k => impl_ConjugatesOf.f k w) (conj w) := by
  unfold impl_ConjugatesOf.f
  simp only [Option.bind_some]
  refine Ev_ite (fun h => Ev_some ?_) (fun h => ?_)
  · unfold conj; rw [if_pos (by omega)]
  · exact impl_ConjugatesOf_loop w (by omega) w.length 0 (by omega)

/-! ### LeastConjugate -/
def leastC (w : List Int) : List Int := if (conj w).length = 0 then w else (conj w).getD 0 []
theorem spec_LeastConjugate_ev (w : List Int) (hb : w.length ≤ 1048576) : Ev (fun k => spec_LeastConjugate.f k w) (leastC w) := by
  unfold spec_LeastConjugate.f leastC
  refine Ev_call _ (spec_ConjugatesOf_ev w hb) ?_
  refine Ev_ite (fun h => ?_) (fun h => Ev_pos (by omega) (Ev_some ?_))
  · simp only [Option.bind_some]
    exact Ev_pos (by rw [List.length_nil]; omega) (Ev_some (by rw [if_pos (by omega)]; rfl))
  · rw [if_neg (by omega)]; rfl
theorem impl_LeastConjugate_ev (w : List Int) (hb : w.length ≤ 1048576) : Ev (fun k => impl_LeastConjugate.f k w) (leastC w) := by
  unfold impl_LeastConjugate.f leastC
  refine Ev_call _ (impl_ConjugatesOf_ev w hb) ?_
  refine Ev_ite (fun h => ?_) (fun h => Ev_pos (by omega) (Ev_some ?_))
  · simp only [Option.bind_some]
    exact Ev_pos (by rw [List.length_nil]; omega) (Ev_some (by rw [if_pos (by omega)]; rfl))
  · rw [if_neg (by omega)]; rfl
theorem leastC_length (w : List Int) : (leastC w).length = w.length := by
  unfold leastC
  split
  · rfl
  · rename_i h
    rw [getD_eq (by omega)]
    exact (conj_rows w).2 _ (List.getElem_mem _)

noncomputable def rootR (w : List Int) (a b c : Int) : List Int × Bool := if runQ w a b c = true then (leastC (cut w a.toNat (a + c).toNat), true) else ([], false)
theorem rootR_facts {w : List Int} {a b c : Int} (h : runQ w a b c = true) : 0 ≤ a ∧ 1 ≤ c ∧ a + c ≤ w.length ∧ w.length ≤ 64 := by
  obtain ⟨h0, h1, h2, h3, r⟩ := runQ_iff.1 h
  have := r.lt
  have := r.le
  have := r.twice
  have := r.pos
  omega
theorem rootR_length (w : List Int) (a b c : Int) (hw : w.length ≤ 1048576) : (rootR w a b c).1.length ≤ 1048576 := by
  unfold rootR
  split
  · rw [leastC_length]
    unfold cut
    rw [List.length_drop, List.length_take]
    omega
  · simp
theorem spec_RootOfRun_ev (w : List Int) (hw : w.length ≤ 1048576) (a b c : Int) : Ev (fun k => spec_RootOfRun.f k w a b c) (rootR w a b c) := by
  unfold spec_RootOfRun.f rootR
  refine Ev_call _ (spec_IsRun_ev w hw a b c) ?_
  by_cases h : runQ w a b c = true
  · obtain ⟨h0, h1, h2, h3⟩ := rootR_facts h
    rw [if_pos h, w64 (n := a + c) (by omega) (by omega)]
    refine Ev_pos h (Ev_pos (by omega) (Ev_pos (by omega) (Ev_pos (by omega) (Ev_call _ (spec_LeastConjugate_ev (cut w a.toNat (a + c).toNat) ?_) (Ev.now _)))))
    unfold cut
    rw [List.length_drop, List.length_take]
    omega
  · rw [if_neg h]
    exact Ev_neg h (Ev.now _)
theorem impl_RootOfRun_ev (w : List Int) (hw : w.length ≤ 1048576) (a b c : Int) : Ev (fun k => impl_RootOfRun.f k w a b c) (rootR w a b c) := by
  unfold impl_RootOfRun.f rootR
  refine Ev_call _ (impl_IsRun_ev w hw a b c) ?_
  by_cases h : runQ w a b c = true
  · obtain ⟨h0, h1, h2, h3⟩ := rootR_facts h
    rw [if_pos h, w64 (n := a + c) (by omega) (by omega)]
    refine Ev_pos h (Ev_pos (by omega) (Ev_pos (by omega) (Ev_pos (by omega) (Ev_call _ (impl_LeastConjugate_ev (cut w a.toNat (a + c).toNat) ?_) (Ev.now _)))))
    unfold cut
    rw [List.length_drop, List.length_take]
    omega
  · rw [if_neg h]
    exact Ev_neg h (Ev.now _)
theorem FnExactRootOfRun (l : List Int) (a b c : Int) : ∃ k, laws_FnExactRootOfRun.f k l a b c = some true := by
  refine Ev.rounds ?_
  unfold laws_FnExactRootOfRun.f
  refine Ev_ite (fun _ => Ev.now _) (fun h => ?_)
  have hb : l.length ≤ 1048576 := by omega
  have t1 := laws_toIntS_ev l (by omega)
  have t2 := laws_eqIntS_ev l l (by omega)
  have t3 := laws_markIntS_ev l 1 (by omega) (by omega) (by omega)
  have h1 := spec_RootOfRun_ev l hb a b c
  have h2 := impl_RootOfRun_ev l hb a b c
  have hl := rootR_length l a b c hb
  have hr : Ev (fun _ => laws_toRun.f a b c) (a, b, c) := Ev.now _
  generalize rootR l a b c = R at h1 h2 hl
  obtain ⟨R, q⟩ := R
  have hl : R.length ≤ 1048576 := hl
  have e1 := laws_eqIntS_ev R R (by omega)
  have e2 := laws_markIntS_ev R 1 (by omega) (by omega) (by omega)
  have e3 := laws_heldIntS_ev R.length 1 (by omega) (by omega) (by omega)
  refine Ev_call _ t1 (Ev_call _ hr (Ev_call _ h1 (Ev_call _ t1 (Ev_call _ hr (Ev_call _ h2 (Ev_call _ e1 (Ev_pos (by simp) (Ev_succ ?_))))))))
  simp only [laws_FnExactRootOfRun.j0]
  refine Ev_neg (by simp) (Ev_call _ t1 (Ev_call _ t2 (Ev_pos (by simp) (Ev_call _ t3 (Ev_neg (by simp; omega) (Ev_call _ e1 (Ev_pos (by simp) (Ev_succ ?_))))))))
  simp only [laws_FnExactRootOfRun.j1]
  refine Ev_neg (by simp) (Ev_call _ e2 (Ev_call _ e3 (Ev_neg (by simp; omega) (Ev_pos (by simp) (Ev_call _ t1 (Ev_call _ hr (Ev_call _ h2 (Ev_call _ e1 (Ev_pos (by simp) (Ev_succ ?_))))))))))
  simp only [laws_FnExactRootOfRun.j2]
  exact Ev_neg (by simp) (Ev_call _ e3 (Ev_neg (by simp; omega) (Ev_pos (by simp) (Ev.now _))))

end Go.Proofs.Ytolikggioekalab.Pure
