/- The pure statement of FnExactIsPalindrome: at every list the law's answer is true. -/
import Derived.Test.YtighhipoodijfaaPFnExactIsPalindromex1
import Derived.Test.YtighhipoodijfaaG0
import Derived.Test.YtighhipoodijfaaGSized
namespace Go.Proofs.Ytighhipoodijfaa.Pure
open Go.RowKit Go.Proofs.Ytighhipoodijfaa.PFnExactIsPalindrome Go.Proofs.YtighhipoodijfaaW.PrintWords Go.Proofs.YtighhipoodijfaaW.PrintLast Go.Proofs.YtighhipoodijfaaW.PrintMore Go.Proofs.Ytighhipoodijfaa.G
set_option linter.unusedVariables false
set_option linter.unusedSimpArgs false

/-! ### laws_toIntS -/
theorem laws_toIntS_loop (l : List Int) (hb : l.length ≤ 17592186044416) (d : Nat) : ∀ (n : Nat) (acc : List Int), acc.length = l.length → n ≤ l.length → l.length - n = d → acc.take n = l.take n →
    Ev (fun k => laws_toIntS.l0 k l acc (n : Int)) l := by
  induction d with
  | zero =>
    intro n acc h0 h1 h2 h3
    refine Ev_succ ?_
    simp only [laws_toIntS.l0]
    refine Ev_neg (by omega) (Ev_some ?_)
    have : n = l.length := by omega
    subst this
    rw [List.take_length, ← h0, List.take_length] at h3
    exact h3
  | succ d ih =>
    intro n acc h0 h1 h2 h3
    refine Ev_succ ?_
    simp only [laws_toIntS.l0]
    refine Ev_pos (by omega) (Ev_pos (by omega) (Ev_pos (by omega) ?_))
    rw [rd_cast, wsucc (by omega), Int.toNat_natCast]
    refine ih (n + 1) _ (by simpa using h0) (by omega) (by omega) ?_
    rw [set_take_succ acc n _ (by omega), take_succ_getD l n 0 (by omega), h3]

theorem laws_toIntS_ev (l : List Int) (hb : l.length ≤ 17592186044416) : Ev (fun k => laws_toIntS.f k l) l := by
  unfold laws_toIntS.f
  refine Ev_pos (by omega) (Ev_pos (by omega) ?_)
  exact laws_toIntS_loop l hb _ 0 _ (by simp) (by omega) rfl (by simp)

/-! ### laws_eqIntS -/
theorem laws_eqIntS_loop (a b : List Int) (hl : a.length = b.length) (hb : a.length ≤ 17592186044416) (d : Nat) : ∀ n : Nat, n ≤ a.length → a.length - n = d → a.take n = b.take n →
    Ev (fun k => laws_eqIntS.l0 k a b (n : Int)) (decide (a = b)) := by
  induction d with
  | zero =>
    intro n h1 h2 h3
    refine Ev_succ ?_
    simp only [laws_eqIntS.l0]
    refine Ev_neg (by omega) (Ev_some ?_)
    have : n = a.length := by omega
    subst this
    rw [List.take_length, hl, List.take_length] at h3
    simp [h3]
  | succ d ih =>
    intro n h1 h2 h3
    refine Ev_succ ?_
    simp only [laws_eqIntS.l0]
    refine Ev_pos (by omega) (Ev_pos (by omega) (Ev_pos (by omega) ?_))
    rw [rd_cast, rd_cast, wsucc (by omega)]
    refine Ev_ite (fun h => ?_) (fun h => Ev_some ?_)
    · refine ih (n + 1) (by omega) (by omega) ?_
      rw [take_succ_getD a n 0 (by omega), take_succ_getD b n 0 (by omega), h3, h]
    · symm
      rw [decide_eq_false_iff_not]
      intro e
      exact h (by rw [e])

theorem laws_eqIntS_ev (a b : List Int) (hb : a.length ≤ 17592186044416) : Ev (fun k => laws_eqIntS.f k a b) (decide (a = b)) := by
  unfold laws_eqIntS.f
  refine Ev_ite (fun h => ?_) (fun h => Ev_some ?_)
  · exact laws_eqIntS_loop a b (by omega) hb _ 0 (by omega) rfl (by simp)
  · symm
    rw [decide_eq_false_iff_not]
    intro e
    exact h (by rw [e])

/-! ### spec_ReverseDigits -/
theorem spec_ReverseDigits_loop (l : List Int) (hb : l.length ≤ 1048576) : ∀ (n : Nat) (acc : List Int), n ≤ l.length → acc.length + n ≤ l.length →
    Ev (fun k => spec_ReverseDigits.l0 k l acc ((n : Int) - 1)) (acc ++ (l.take n).reverse) := by
  intro n
  induction n with
  | zero =>
    intro acc h1 h2
    refine Ev_succ ?_
    simp only [spec_ReverseDigits.l0]
    refine Ev_neg (by omega) (Ev_some ?_)
    simp
  | succ n ih =>
    intro acc h1 h2
    refine Ev_succ ?_
    simp only [spec_ReverseDigits.l0]
    have e : (((n + 1 : Nat) : Int) - 1) = (n : Int) := by omega
    rw [e]
    refine Ev_pos (by omega) (Ev_pos (by omega) (Ev_pos (by omega) (Ev_pos (by omega) ?_)))
    rw [rd_cast, w64 (by omega) (by omega)]
    refine Ev_eq (ih (acc ++ [l.getD n 0]) (by omega) (by simp; omega)) ?_
    rw [take_succ_getD l n 0 (by omega)]
    simp

theorem spec_ReverseDigits_ev (l : List Int) (hb : l.length ≤ 1048576) : Ev (fun k => spec_ReverseDigits.f k l) l.reverse := by
  unfold spec_ReverseDigits.f
  rw [w64 (by omega) (by omega)]
  refine Ev_eq (spec_ReverseDigits_loop l hb l.length [] (by omega) (by simp)) ?_
  simp

/-! ### spec_l3Same -/
theorem spec_l3Same_loop (a b : List Int) (hl : a.length = b.length) (hb : a.length ≤ 17592186044416) (d : Nat) : ∀ n : Nat, n ≤ a.length → a.length - n = d → a.take n = b.take n →
    Ev (fun k => spec_l3Same.l0 k a b (n : Int)) (decide (a = b)) := by
  induction d with
  | zero =>
    intro n h1 h2 h3
    refine Ev_succ ?_
    simp only [spec_l3Same.l0]
    refine Ev_neg (by omega) (Ev_some ?_)
    have : n = a.length := by omega
    subst this
    rw [List.take_length, hl, List.take_length] at h3
    simp [h3]
  | succ d ih =>
    intro n h1 h2 h3
    refine Ev_succ ?_
    simp only [spec_l3Same.l0]
    refine Ev_pos (by omega) (Ev_pos (by omega) (Ev_pos (by omega) ?_))
    rw [rd_cast, rd_cast, wsucc (by omega)]
    refine Ev_ite (fun h => ?_) (fun h => Ev_some ?_)
    · refine ih (n + 1) (by omega) (by omega) ?_
      rw [take_succ_getD a n 0 (by omega), take_succ_getD b n 0 (by omega), h3, h]
    · symm
      rw [decide_eq_false_iff_not]
      intro e
      exact h (by rw [e])

theorem spec_l3Same_ev (a b : List Int) (hb : a.length ≤ 17592186044416) : Ev (fun k => spec_l3Same.f k a b) (decide (a = b)) := by
  unfold spec_l3Same.f
  refine Ev_ite (fun h => ?_) (fun h => Ev_some ?_)
  · exact spec_l3Same_loop a b (by omega) hb _ 0 (by omega) rfl (by simp)
  · symm
    rw [decide_eq_false_iff_not]
    intro e
    exact h (by rw [e])

/-! ### spec_IsPalindrome -/
theorem spec_IsPalindrome_ev (l : List Int) (hb : l.length ≤ 1048576) : Ev (fun k => spec_IsPalindrome.f k l) (decide (l = l.reverse)) := by
  unfold spec_IsPalindrome.f
  refine Ev_call _ (spec_ReverseDigits_ev l hb) ?_
  refine Ev_call _ (spec_l3Same_ev l _ (by omega)) ?_
  exact Ev.now _

/-! ### impl_IsPalindrome -/
theorem impl_IsPalindrome_loop (l : List Int) (hb : l.length ≤ 1048576) (d : Nat) : ∀ n : Nat, n + d = l.length / 2 → (∀ i, i < n → l.getD i 0 = l.getD (l.length - 1 - i) 0) →
    Ev (fun k => impl_IsPalindrome.l0 k l ((l.length / 2 : Nat) : Int) (n : Int)) (decide (l = l.reverse)) := by
  induction d with
  | zero =>
    intro n h h2
    refine Ev_succ ?_
    simp only [impl_IsPalindrome.l0]
    refine Ev_neg (by omega) (Ev_some ?_)
    symm
    rw [decide_eq_true_eq]
    apply ext_getD 0 (by simp)
    intro i hi
    rw [getD_reverse _ _ _ hi]
    by_cases c : i < n
    · exact h2 i c
    · by_cases c2 : l.length - 1 - i < n
      · rw [h2 (l.length - 1 - i) c2]; congr 1; omega
      · congr 1; omega
  | succ d ih =>
    intro n h h2
    refine Ev_succ ?_
    simp only [impl_IsPalindrome.l0]
    rw [w64 (n := (l.length : Int) - 1) (by omega) (by omega), wnat (l.length - 1 - n) (by omega) (by omega), wsucc (by omega), rd_cast, rd_cast]
    refine Ev_pos (by omega) (Ev_pos (by omega) (Ev_pos (by omega) (Ev_pos (by omega) (Ev_pos (by omega) ?_))))
    refine Ev_ite (fun c => ?_) (fun c => Ev_some ?_)
    · refine ih (n + 1) (by omega) ?_
      intro i hi
      by_cases e : i = n
      · subst e; exact c
      · exact h2 i (by omega)
    · symm
      rw [decide_eq_false_iff_not]
      intro e
      apply c
      have := congrArg (fun x => x.getD n 0) e
      rw [getD_reverse _ _ _ (by omega)] at this
      exact this

theorem impl_IsPalindrome_ev (l : List Int) (hb : l.length ≤ 1048576) : Ev (fun k => impl_IsPalindrome.f k l) (decide (l = l.reverse)) := by
  unfold impl_IsPalindrome.f
  rw [wnat (l.length / 2) (by omega) (by omega)]
  exact impl_IsPalindrome_loop l hb _ 0 (Nat.zero_add _) (by intro i h; omega)

theorem FnExactIsPalindrome : laws_FnExactIsPalindrome.Pure := by
  intro l _ _ _
  refine Ev.rounds ?_
  unfold laws_FnExactIsPalindrome.f
  refine Ev_ite (fun _ => Ev.now _) (fun h => ?_)
  have hb : l.length ≤ 1048576 := by omega
  refine Ev_call _ (laws_toIntS_ev l (by omega)) ?_
  refine Ev_call _ (spec_IsPalindrome_ev l hb) ?_
  refine Ev_call _ (laws_toIntS_ev l (by omega)) ?_
  refine Ev_call _ (impl_IsPalindrome_ev l hb) ?_
  refine Ev_neg (by simp) ?_
  refine Ev_call _ (laws_toIntS_ev l (by omega)) ?_
  refine Ev_call _ (laws_eqIntS_ev _ _ (by omega)) ?_
  exact Ev_pos (by simp) (Ev.now _)

end Go.Proofs.Ytighhipoodijfaa.Pure
