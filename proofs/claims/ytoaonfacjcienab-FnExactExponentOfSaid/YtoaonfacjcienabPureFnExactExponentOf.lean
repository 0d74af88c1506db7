/- The pure statement of FnExactExponentOf: at every list the law's answer is true. -/
import Derived.Test.YtoaonfacjcienabMFnExactExponentOfx3
import Derived.Test.YtoaonfacjcienabG0
import Derived.Test.YtoaonfacjcienabGSized
import Derived.Test.YtoaonfacjcienabG6b
import Derived.Test.YtoaonfacjcienabG6
import Derived.Test.YtoaonfacjcienabG7
namespace Go.Proofs.Ytoaonfacjcienab.Pure
open Go.RowKit Go.Proofs.Ytoaonfacjcienab.PFnExactExponentOf Go.Proofs.YtoaonfacjcienabW.PrintWords Go.Proofs.YtoaonfacjcienabW.PrintLast Go.Proofs.YtoaonfacjcienabW.PrintMore Go.Proofs.Ytoaonfacjcienab.G
set_option linter.unusedVariables false
set_option linter.unusedSimpArgs false

/-! ### laws_toIntS -/
theorem laws_toIntS_loop (l : List Int) (hb : l.length ≤ 17592186044416) (d : Nat) : ∀ (n : Nat) (acc : List Int), acc.length = l.length → n ≤ l.length → l.length - n = d → acc.take n = l.take n →
    Ev (fun k => laws_toIntS.l0 k l acc (n : Int)) l := by
  induction d with
  | zero =>
    intro n acc h0 h1 h2 h3
    refine Ev_succ ?_
    simp only [laws_toIntS.l0]
    refine Ev_neg (by omega) (Ev_some ?_)
    have : n = l.length := by omega
    subst this
    rw [List.take_length, ← h0, List.take_length] at h3
    exact h3
  | succ d ih =>
    intro n acc h0 h1 h2 h3
    refine Ev_succ ?_
    simp only [laws_toIntS.l0]
    refine Ev_pos (by omega) (Ev_pos (by omega) (Ev_pos (by omega) ?_))
    rw [rd_cast, wsucc (by omega), Int.toNat_natCast]
    refine ih (n + 1) _ (by simpa using h0) (by omega) (by omega) ?_
    rw [set_take_succ acc n _ (by omega), take_succ_getD l n 0 (by omega), h3]

theorem laws_toIntS_ev (l : List Int) (hb : l.length ≤ 17592186044416) : Ev (fun k => laws_toIntS.f k l) l := by
  unfold laws_toIntS.f
  refine Ev_pos (by omega) (Ev_pos (by omega) ?_)
  exact laws_toIntS_loop l hb _ 0 _ (by simp) (by omega) rfl (by simp)

/-! ### laws_eqIntS -/
theorem laws_eqIntS_loop (a b : List Int) (hl : a.length = b.length) (hb : a.length ≤ 17592186044416) (d : Nat) : ∀ n : Nat, n ≤ a.length → a.length - n = d → a.take n = b.take n →
    Ev (fun k => laws_eqIntS.l0 k a b (n : Int)) (decide (a = b)) := by
  induction d with
  | zero =>
    intro n h1 h2 h3
    refine Ev_succ ?_
    simp only [laws_eqIntS.l0]
    refine Ev_neg (by omega) (Ev_some ?_)
    have : n = a.length := by omega
    subst this
    rw [List.take_length, hl, List.take_length] at h3
    simp [h3]
  | succ d ih =>
    intro n h1 h2 h3
    refine Ev_succ ?_
    simp only [laws_eqIntS.l0]
    refine Ev_pos (by omega) (Ev_pos (by omega) (Ev_pos (by omega) ?_))
    rw [rd_cast, rd_cast, wsucc (by omega)]
    refine Ev_ite (fun h => ?_) (fun h => Ev_some ?_)
    · refine ih (n + 1) (by omega) (by omega) ?_
      rw [take_succ_getD a n 0 (by omega), take_succ_getD b n 0 (by omega), h3, h]
    · symm
      rw [decide_eq_false_iff_not]
      intro e
      exact h (by rw [e])

theorem laws_eqIntS_ev (a b : List Int) (hb : a.length ≤ 17592186044416) : Ev (fun k => laws_eqIntS.f k a b) (decide (a = b)) := by
  unfold laws_eqIntS.f
  refine Ev_ite (fun h => ?_) (fun h => Ev_some ?_)
  · exact laws_eqIntS_loop a b (by omega) hb _ 0 (by omega) rfl (by simp)
  · symm
    rw [decide_eq_false_iff_not]
    intro e
    exact h (by rw [e])

/-! ### spec_l9Borders -/
theorem spec_l9Borders_l1 (w : List Int) (hb : w.length ≤ 1048576) (n : Nat) (hn : 1 ≤ n) (hl : n < w.length) (out : List Int) (ho : out.length = n) (ho2 : ∀ m, m < n → out.getD m 0 = ((lb w (m + 1) : Nat) : Int)) (r : List Int)
    (hx : Ev (fun k => spec_l9Borders.l0 k w (out ++ [((lb w (n + 1) : Nat) : Int)]) ((lb w (n + 1) : Nat) : Int) ((n + 1 : Nat) : Int)) r) :
    ∀ k : Nat, Cand w (n + 1) (k + 1) → Ev (fun f => spec_l9Borders.l1 f w out (k : Int) (n : Int)) r := by
  intro k
  induction k using Nat.strongRecOn with
  | _ k ih =>
    intro hc
    have hkn : k < n := by have := hc.2.1; simp at this; omega
    refine Ev_succ ?_
    simp only [spec_l9Borders.l1]
    rw [rd_cast, rd_cast, wsucc (n := k) (by omega), wsucc (n := n) (by omega)]
    by_cases k0 : k = 0
    · subst k0
      refine Ev_neg (by omega) (Ev_pos (by omega) (Ev_pos (by omega) (Ev_pos (by omega) (Ev_pos (by omega) ?_))))
      by_cases he : w.getD n 0 = w.getD 0 0
      · have e := lb_of_cand (by omega) (by omega) hc (Or.inr (by simpa using he.symm))
        rw [e] at hx
        exact Ev_pos he (Ev_pos (by omega) hx)
      · have hnx := hc.next (by omega) (by omega) (by simpa using fun h => he h.symm)
        rw [if_pos rfl] at hnx
        have e := lb_of_cand (by omega) (by omega) hnx (Or.inl rfl)
        rw [e] at hx
        exact Ev_neg he (Ev_pos (by omega) hx)
    · refine Ev_pos (by omega) (Ev_pos (by omega) (Ev_pos (by omega) (Ev_pos (by omega) (Ev_pos (by omega) ?_))))
      by_cases he : w.getD n 0 = w.getD k 0
      · have e := lb_of_cand (by omega) (by omega) hc (Or.inr (by simpa using he.symm))
        rw [e] at hx
        exact Ev_pos he (Ev_pos (by omega) hx)
      · have hnx := hc.next (by omega) (by omega) (by simpa using fun h => he h.symm)
        rw [if_neg k0] at hnx
        have hlt := lb_lt w k (by omega) (by omega)
        have := ih _ (by omega) hnx
        rw [wnat (x := (k : Int) - 1) (k - 1) (by omega) (by omega), rd_cast, ho2 (k - 1) (by omega), show k - 1 + 1 = k by omega]
        exact Ev_neg he (Ev_pos (by omega) (Ev_pos (by omega) this))

theorem spec_l9Borders_l0 (w : List Int) (hb : w.length ≤ 1048576) (d : Nat) : ∀ (n : Nat) (out : List Int), 1 ≤ n → n + d = w.length → out.length = n → (∀ m, m < n → out.getD m 0 = ((lb w (m + 1) : Nat) : Int)) →
    ∃ r, r.length = w.length ∧ (∀ m, m < w.length → r.getD m 0 = ((lb w (m + 1) : Nat) : Int)) ∧ Ev (fun k => spec_l9Borders.l0 k w out ((lb w n : Nat) : Int) (n : Int)) r := by
  induction d with
  | zero =>
    intro n out h1 h h2 h3
    have : n = w.length := by omega
    subst this
    refine ⟨out, h2, h3, Ev_succ ?_⟩
    simp only [spec_l9Borders.l0]
    exact Ev_neg (by omega) (Ev.now _)
  | succ d ih =>
    intro n out h1 h h2 h3
    obtain ⟨r, g1, g2, g3⟩ := ih (n + 1) (out ++ [((lb w (n + 1) : Nat) : Int)]) (by omega) (by omega) (by simp; omega) (fun m hm => by
      by_cases e : m = n
      · subst e; rw [getD_append_right _ _ _ _ (by omega), h2]; simp
      · rw [getD_append_left _ _ _ _ (by omega)]; exact h3 m (by omega))
    refine ⟨r, g1, g2, Ev_succ ?_⟩
    simp only [spec_l9Borders.l0]
    refine Ev_pos (by omega) (Ev_neg (by omega) ?_)
    have hc := Cand.first (w := w) (n + 1) (by omega) (by omega)
    rw [if_neg (by omega), Nat.add_sub_cancel] at hc
    exact spec_l9Borders_l1 w hb n h1 (by omega) out h2 h3 r g3 _ hc

theorem spec_l9Borders_ev (w : List Int) (hb : w.length ≤ 1048576) : ∃ r, r.length = w.length ∧ (∀ m, m < w.length → r.getD m 0 = ((lb w (m + 1) : Nat) : Int)) ∧ Ev (fun k => spec_l9Borders.f k w) r := by
  unfold spec_l9Borders.f
  by_cases h : w.length = 0
  · refine ⟨[], by simp [h], fun m hm => by omega, Ev_succ ?_⟩
    simp only [spec_l9Borders.l0]
    exact Ev_neg (by omega) (Ev.now _)
  · have e1 : lb w 1 = 0 := by have := lb_lt w 1 (by omega) (by omega); omega
    obtain ⟨r, g1, g2, g3⟩ := spec_l9Borders_l0 w hb (w.length - 1) 1 [0] (by omega) (by omega) rfl (fun m hm => by
      have : m = 0 := by omega
      subst this; rw [e1]; rfl)
    refine ⟨r, g1, g2, Ev_succ ?_⟩
    simp only [spec_l9Borders.l0]
    rw [e1] at g3
    rw [show wrap64 (0 + 1) = ((1 : Nat) : Int) from by unfold wrap64; rfl]
    exact Ev_pos (by omega) (Ev_pos trivial (Ev_pos (by simp) g3))

/-! ### spec_BordersOf -/
theorem spec_BordersOf_loop (w : List Int) (hb : w.length ≤ 1048576) (b : List Int) (hb1 : b.length = w.length) (hb2 : ∀ m, m < w.length → b.getD m 0 = ((lb w (m + 1) : Nat) : Int)) :
    ∀ (n : Nat) (acc : List Int), n ≤ w.length → acc.length + n ≤ w.length → Ev (fun k => spec_BordersOf.l0 k acc b (n : Int)) (bc w n n ++ acc) := by
  intro n
  induction n using Nat.strongRecOn with
  | _ n ih =>
    intro acc hn ha
    refine Ev_succ ?_
    simp only [spec_BordersOf.l0]
    by_cases n0 : n = 0
    · subst n0
      exact Ev_neg (by omega) (Ev_some (by simp [bc]))
    · have hlt := lb_lt w n (by omega) hn
      rw [wnat (x := (n : Int) - 1) (n - 1) (by omega) (by omega), rd_cast, hb2 (n - 1) (by omega), show n - 1 + 1 = n by omega]
      simp only [Option.bind_some]
      refine Ev_pos (by omega) (Ev_pos (by omega) (Ev_pos (by omega) (Ev_pos (by simp; omega) ?_)))
      refine Ev_eq (ih (lb w n) hlt _ (by omega) (by simp; omega)) ?_
      rw [bc_step w n (by omega) hn]
      simp

theorem spec_BordersOf_ev (w : List Int) (hb : w.length ≤ 1048576) : Ev (fun k => spec_BordersOf.f k w) (bc w w.length w.length) := by
  unfold spec_BordersOf.f
  obtain ⟨r, h1, h2, h3⟩ := spec_l9Borders_ev w hb
  exact Ev_call _ h3 (Ev_eq (spec_BordersOf_loop w hb r h1 h2 w.length [] (by omega) (by simp)) (by simp))

/-! ### spec_PeriodsOf -/
theorem spec_PeriodsOf_loop (w : List Int) (hb : w.length ≤ 1048576) (b : List Int) (hl : b.length ≤ 1048576) (hx : ∀ x ∈ b, 0 ≤ x ∧ x < w.length) :
    ∀ (n : Nat) (acc : List Int), n ≤ b.length → acc.length + n ≤ b.length →
    Ev (fun k => spec_PeriodsOf.l0 k w acc b ((n : Int) - 1)) (acc ++ ((b.take n).map fun x => (w.length : Int) - x).reverse) := by
  intro n
  induction n with
  | zero =>
    intro acc h1 h2
    refine Ev_succ ?_
    simp only [spec_PeriodsOf.l0]
    exact Ev_neg (by omega) (Ev_some (by simp))
  | succ n ih =>
    intro acc h1 h2
    refine Ev_succ ?_
    simp only [spec_PeriodsOf.l0]
    rw [show ((n + 1 : Nat) : Int) - 1 = (n : Int) by omega, rd_cast, w64 (n := (n : Int) - 1) (by omega) (by omega)]
    have hm := hx (b.getD n 0) (by rw [getD_eq (by omega)]; exact List.getElem_mem _)
    rw [w64 (n := (w.length : Int) - b.getD n 0) (by omega) (by omega)]
    refine Ev_pos (by omega) (Ev_pos (by omega) (Ev_pos (by omega) (Ev_pos (by omega) ?_)))
    refine Ev_eq (ih _ (by omega) (by simp; omega)) ?_
    rw [take_succ_getD b n 0 (by omega)]
    simp

theorem spec_PeriodsOf_ev (w : List Int) (hb : w.length ≤ 1048576) : Ev (fun k => spec_PeriodsOf.f k w) (pers w) := by
  unfold spec_PeriodsOf.f
  have hl := bc_length w w.length w.length
  refine Ev_call _ (spec_BordersOf_ev w hb) ?_
  rw [w64 (by omega) (by omega)]
  refine Ev_eq (spec_PeriodsOf_loop w hb _ (by omega) (bc_bounds w _ _ (by omega)) _ [] (Nat.le_refl _) (by simp)) ?_
  rw [List.take_length]
  rfl

/-! ### spec_LeastPeriod -/
theorem spec_LeastPeriod_ev (w : List Int) (hb : w.length ≤ 1048576) : Ev (fun k => spec_LeastPeriod.f k w) (lper w) := by
  unfold spec_LeastPeriod.f
  refine Ev_call _ (spec_PeriodsOf_ev w hb) ?_
  unfold pers lper
  by_cases h : w.length = 0
  · rw [h, if_pos rfl]
    exact Ev_pos (by simp [bc]) (Ev.now _)
  · rw [if_neg h, bc_step w w.length (by omega) (by omega)]
    refine Ev_neg (by simp; omega) (Ev_pos (by simp) (Ev_some ?_))
    simp [rd]

/-! ### impl_borders -/
theorem impl_borders_l1 (w : List Int) (hb : w.length ≤ 1048576) (n : Nat) (hn : 1 ≤ n) (hl : n ≤ w.length) (out : List Int) (ho : BrdTo w out n) (r : List Int)
    (hx : Ev (fun k => impl_borders.l0 k w (out.set n ((lb w n : Nat) : Int)) ((n + 1 : Nat) : Int)) r) :
    ∀ k : Nat, Cand w n k → Ev (fun f => impl_borders.l1 f w out (n : Int) ((k : Int) - 1)) r := by
  intro k
  induction k using Nat.strongRecOn with
  | _ k ih =>
    intro hc
    have hkn : k < n := by have := hc.2.1; simpa using this
    refine Ev_succ ?_
    simp only [impl_borders.l1]
    have hlen := ho.1
    by_cases k0 : k = 0
    · subst k0
      have e := lb_of_cand hn hl hc (Or.inl rfl)
      rw [e] at hx
      refine Ev_neg (by omega) (Ev_pos (by omega) (Ev_pos (by omega) ?_))
      rw [wnat (x := ((0 : Nat) : Int) - 1 + 1) 0 (by omega) (by omega), wsucc (n := n) (by omega), Int.toNat_natCast]
      exact hx
    · obtain ⟨j, rfl⟩ : ∃ j, k = j + 1 := ⟨k - 1, by omega⟩
      rw [show ((j + 1 : Nat) : Int) - 1 = (j : Int) by omega, wnat (x := (n : Int) - 1) (n - 1) (by omega) (by omega), rd_cast, rd_cast]
      refine Ev_pos (by omega) (Ev_pos (by omega) (Ev_pos (by omega) (Ev_pos (by omega) (Ev_pos (by omega) ?_))))
      by_cases he : w.getD j 0 = w.getD (n - 1) 0
      · refine Ev_pos he (Ev_pos (by omega) (Ev_pos (by omega) ?_))
        have e := lb_of_cand hn hl hc (Or.inr (by simpa using he))
        rw [e] at hx
        rw [wsucc (n := j) (by omega), wsucc (n := n) (by omega), Int.toNat_natCast]
        exact hx
      · refine Ev_neg he (Ev_pos (by omega) ?_)
        have hnx := hc.next hn hl he
        rw [rd_cast]
        by_cases j0 : j = 0
        · subst j0
          rw [if_pos rfl] at hnx
          have := ih 0 (by omega) hnx
          rw [ho.2.1]
          exact this
        · rw [if_neg j0] at hnx
          have hlt := lb_lt w j (by omega) (by omega)
          have := ih _ (by omega) hnx
          rw [ho.2.2 j (by omega) (by omega)]
          rw [show ((lb w j + 1 : Nat) : Int) - 1 = ((lb w j : Nat) : Int) by omega] at this
          exact this

theorem impl_borders_l0 (w : List Int) (hb : w.length ≤ 1048576) (d : Nat) : ∀ (n : Nat) (out : List Int), n + d = w.length + 1 → 1 ≤ n → BrdTo w out n →
    ∃ r, BrdTo w r (w.length + 1) ∧ Ev (fun k => impl_borders.l0 k w out (n : Int)) r := by
  induction d with
  | zero =>
    intro n out h h1 ho
    have : n = w.length + 1 := by omega
    subst this
    refine ⟨out, ho, Ev_succ ?_⟩
    simp only [impl_borders.l0]
    exact Ev_neg (by omega) (Ev.now _)
  | succ d ih =>
    intro n out h h1 ho
    have hlen := ho.1
    have hnew : BrdTo w (out.set n ((lb w n : Nat) : Int)) (n + 1) := by
      refine ⟨by simpa using hlen, ?_, fun m hm hm2 => ?_⟩
      · rw [getD_set, if_neg (by omega)]; exact ho.2.1
      · rw [getD_set]
        by_cases e : n = m
        · subst e; rw [if_pos ⟨rfl, by omega⟩]
        · rw [if_neg (by omega)]; exact ho.2.2 m hm (by omega)
    obtain ⟨r, hr, hev⟩ := ih (n + 1) _ (by omega) (by omega) hnew
    refine ⟨r, hr, Ev_succ ?_⟩
    simp only [impl_borders.l0]
    rw [wnat (x := (n : Int) - 1) (n - 1) (by omega) (by omega), rd_cast]
    refine Ev_pos (by omega) (Ev_pos (by omega) (Ev_pos (by omega) ?_))
    have hc := Cand.first (w := w) n h1 (by omega)
    have := impl_borders_l1 w hb n h1 (by omega) out ho r hev _ hc
    by_cases e : n = 1
    · rw [if_pos e] at this
      rw [e] at this ⊢
      rw [ho.2.1]
      exact this
    · rw [if_neg e] at this
      rw [ho.2.2 (n - 1) (by omega) (by omega)]
      rw [show ((lb w (n - 1) + 1 : Nat) : Int) - 1 = ((lb w (n - 1) : Nat) : Int) by omega] at this
      exact this

theorem impl_borders_start (w : List Int) : BrdTo w ((List.replicate (w.length + 1) (0 : Int)).set 0 (-1)) 1 :=
  ⟨by simp, by simp [List.replicate_succ], fun m hm hm2 => by omega⟩

theorem impl_borders_ev (w : List Int) (hb : w.length ≤ 1048576) : ∃ r, BrdTo w r (w.length + 1) ∧ Ev (fun k => impl_borders.f k w) r := by
  obtain ⟨r, h1, h2⟩ := impl_borders_l0 w hb w.length 1 _ (by omega) (by omega) (impl_borders_start w)
  refine ⟨r, h1, ?_⟩
  unfold impl_borders.f
  have e1 : wrap64 ((w.length : Int) + 1) = ((w.length + 1 : Nat) : Int) := wsucc (by omega)
  have e2 : Int.toNat 0 = 0 := rfl
  have e3 : ((1 : Nat) : Int) = 1 := rfl
  have e4 : 0 < ((List.replicate (w.length + 1) (0 : Int)).length : Int) := by simp
  rw [e3] at h2
  simp only [Option.bind_some, e1, Int.toNat_natCast, e2]
  exact Ev_pos (by omega) (Ev_pos (by omega) (Ev_pos e4 h2))

/-! ### impl_LeastPeriod -/
theorem impl_LeastPeriod_ev (w : List Int) (hb : w.length ≤ 1048576) : Ev (fun k => impl_LeastPeriod.f k w) (lper w) := by
  unfold impl_LeastPeriod.f lper
  by_cases h : w.length = 0
  · rw [h, if_pos rfl]
    exact Ev_pos rfl (Ev.now _)
  · rw [if_neg h]
    obtain ⟨r, h1, h2⟩ := impl_borders_ev w hb
    have hlen := h1.1
    have hlt := lb_lt w w.length (by omega) (by omega)
    refine Ev_neg (by omega) (Ev_call _ h2 (Ev_pos (by omega) (Ev_pos (by omega) (Ev_some ?_))))
    rw [rd_cast, h1.2.2 w.length (by omega) (by omega), w64 (by omega) (by omega)]

/-! ### spec_l10Gcd -/
theorem spec_l10Gcd_ev : ∀ b a : Nat, Ev (fun k => spec_l10Gcd.f k (a : Int) (b : Int)) ((Nat.gcd a b : Nat) : Int) := by
  intro b
  unfold spec_l10Gcd.f
  induction b using Nat.strongRecOn with
  | _ b ih =>
    intro a
    refine Ev_succ ?_
    simp only [spec_l10Gcd.l0]
    by_cases h : b = 0
    · subst h
      exact Ev_neg (by omega) (Ev_some (by rw [Nat.gcd_zero_right]))
    · refine Ev_pos (by omega) (Ev_neg (by omega) ?_)
      rw [tmod_nat, gcd_step a b h]
      exact ih _ (Nat.mod_lt _ (by omega)) b

/-! ### impl_gcd -/
theorem impl_gcd_ev : ∀ b a : Nat, Ev (fun k => impl_gcd.f k (a : Int) (b : Int)) ((Nat.gcd a b : Nat) : Int) := by
  intro b
  unfold impl_gcd.f
  induction b using Nat.strongRecOn with
  | _ b ih =>
    intro a
    refine Ev_succ ?_
    simp only [impl_gcd.l0]
    by_cases h : b = 0
    · subst h
      exact Ev_pos (by omega) (Ev_some (by rw [Nat.gcd_zero_right]))
    · refine Ev_neg (by omega) ?_
      rw [tmod_nat, gcd_step a b h]
      exact ih _ (Nat.mod_lt _ (by omega)) b

/-! ### impl_lowest -/
theorem impl_lowest_ev (a b : Nat) (ha : a ≤ 1048576) (hb : b ≤ 1048576) (h : 0 < b) : Ev (fun k => impl_lowest.f k (a : Int) (b : Int)) (((a / Nat.gcd a b : Nat) : Int), ((b / Nat.gcd a b : Nat) : Int)) := by
  unfold impl_lowest.f
  have hg : 0 < Nat.gcd a b := Nat.gcd_pos_of_pos_right _ h
  have h1 : a / Nat.gcd a b ≤ a := Nat.div_le_self _ _
  have h2 : b / Nat.gcd a b ≤ b := Nat.div_le_self _ _
  refine Ev_call _ (impl_gcd_ev b a) (Ev_neg (by omega) (Ev_some ?_))
  rw [tdiv_nat, tdiv_nat, w64_le h1 ha, w64_le h2 hb]

noncomputable def expo (w : List Int) : Int × Int := if w.length = 0 then (0, 0) else (((w.length / Nat.gcd w.length (lper w).toNat : Nat) : Int), (((lper w).toNat / Nat.gcd w.length (lper w).toNat : Nat) : Int))

theorem spec_ExponentOf_ev (w : List Int) (hb : w.length ≤ 1048576) : Ev (fun k => spec_ExponentOf.f k w) (expo w) := by
  unfold spec_ExponentOf.f expo
  by_cases h : w.length = 0
  · rw [if_pos h]
    exact Ev_pos (by omega) (Ev.now _)
  · rw [if_neg h]
    have hp := lper_bounds w (by omega)
    have hl := spec_LeastPeriod_ev w hb
    obtain ⟨p, e⟩ := Int.eq_ofNat_of_zero_le (show 0 ≤ lper w by omega)
    rw [e] at hp hl ⊢
    rw [Int.toNat_natCast]
    have hg : 0 < Nat.gcd w.length p := Nat.gcd_pos_of_pos_right _ (by omega)
    have h1 : w.length / Nat.gcd w.length p ≤ w.length := Nat.div_le_self _ _
    have h2 : p / Nat.gcd w.length p ≤ p := Nat.div_le_self _ _
    refine Ev_neg (by omega) (Ev_call _ hl (Ev_call _ (spec_l10Gcd_ev p w.length) (Ev_neg (by omega) (Ev_some ?_))))
    rw [tdiv_nat, wnat (x := (w.length : Int) / ((Nat.gcd w.length p : Nat) : Int)) (w.length / Nat.gcd w.length p) (by rw [Int.natCast_ediv]) (Nat.lt_of_le_of_lt h1 (by omega)), w64_le h2 (by omega)]

theorem impl_ExponentOf_ev (w : List Int) (hb : w.length ≤ 1048576) : Ev (fun k => impl_ExponentOf.f k w) (expo w) := by
  unfold impl_ExponentOf.f expo
  by_cases h : w.length = 0
  · rw [if_pos h]
    exact Ev_pos (by omega) (Ev.now _)
  · rw [if_neg h]
    have hp := lper_bounds w (by omega)
    have hl := impl_LeastPeriod_ev w hb
    obtain ⟨p, e⟩ := Int.eq_ofNat_of_zero_le (show 0 ≤ lper w by omega)
    rw [e] at hp hl ⊢
    rw [Int.toNat_natCast]
    exact Ev_neg (by omega) (Ev_call _ hl (Ev_call _ (impl_lowest_ev w.length p (by omega) (by omega) (by omega)) (Ev.now _)))

theorem FnExactExponentOf : laws_FnExactExponentOf.Pure := by
  intro l _ _ _
  refine Ev.rounds ?_
  unfold laws_FnExactExponentOf.f
  refine Ev_ite (fun _ => Ev.now _) (fun h => ?_)
  have hb : l.length ≤ 1048576 := by omega
  have t1 := laws_toIntS_ev l (by omega)
  have h1 := spec_ExponentOf_ev l hb
  have h2 := impl_ExponentOf_ev l hb
  generalize expo l = r at h1 h2
  repeat (first
    | exact Ev.now _
    | (refine Ev_call _ (by with_reducible assumption) ?_; try dsimp only)
    | refine Ev_call _ (laws_eqIntS_ev _ _ (by omega)) ?_
    | (refine Ev_pos ?hc ?_; (case hc => first | with_reducible rfl | omega | (simp; done)))
    | (refine Ev_neg ?hc ?_; (case hc => first | omega | (simp; done)))
    | (refine Ev_succ ?_; simp only [laws_FnExactExponentOf.j0]))

end Go.Proofs.Ytoaonfacjcienab.Pure
