/- The pure statement of FnExactLongestPalindrome: at every list the law's answer is true. -/
import Derived.Test.YtoaonfacjcienaaPFnExactLongestPalindromex2
import Derived.Test.YtoaonfacjcienaaG0
import Derived.Test.YtoaonfacjcienaaGSized
import Derived.Test.YtoaonfacjcienaaG3
namespace Go.Proofs.Ytoaonfacjcienaa.Pure
open Go.RowKit Go.Proofs.Ytoaonfacjcienaa.PFnExactLongestPalindrome Go.Proofs.YtoaonfacjcienaaW.PrintWords Go.Proofs.YtoaonfacjcienaaW.PrintLast Go.Proofs.YtoaonfacjcienaaW.PrintMore Go.Proofs.Ytoaonfacjcienaa.G
set_option linter.unusedVariables false
set_option linter.unusedSimpArgs false

/-! ### laws_toIntS -/
theorem laws_toIntS_loop (l : List Int) (hb : l.length ≤ 17592186044416) (d : Nat) : ∀ (n : Nat) (acc : List Int), acc.length = l.length → n ≤ l.length → l.length - n = d → acc.take n = l.take n →
    Ev (fun k => laws_toIntS.l0 k l acc (n : Int)) l := by
  induction d with
  | zero =>
    intro n acc h0 h1 h2 h3
    refine Ev_succ ?_
    simp only [laws_toIntS.l0]
    refine Ev_neg (by omega) (Ev_some ?_)
    have : n = l.length := by omega
    subst this
    rw [List.take_length, ← h0, List.take_length] at h3
    exact h3
  | succ d ih =>
    intro n acc h0 h1 h2 h3
    refine Ev_succ ?_
    simp only [laws_toIntS.l0]
    refine Ev_pos (by omega) (Ev_pos (by omega) (Ev_pos (by omega) ?_))
    rw [rd_cast, wsucc (by omega), Int.toNat_natCast]
    refine ih (n + 1) _ (by simpa using h0) (by omega) (by omega) ?_
    rw [set_take_succ acc n _ (by omega), take_succ_getD l n 0 (by omega), h3]

theorem laws_toIntS_ev (l : List Int) (hb : l.length ≤ 17592186044416) : Ev (fun k => laws_toIntS.f k l) l := by
  unfold laws_toIntS.f
  refine Ev_pos (by omega) (Ev_pos (by omega) ?_)
  exact laws_toIntS_loop l hb _ 0 _ (by simp) (by omega) rfl (by simp)

/-! ### laws_eqIntS -/
theorem laws_eqIntS_loop (a b : List Int) (hl : a.length = b.length) (hb : a.length ≤ 17592186044416) (d : Nat) : ∀ n : Nat, n ≤ a.length → a.length - n = d → a.take n = b.take n →
    Ev (fun k => laws_eqIntS.l0 k a b (n : Int)) (decide (a = b)) := by
  induction d with
  | zero =>
    intro n h1 h2 h3
    refine Ev_succ ?_
    simp only [laws_eqIntS.l0]
    refine Ev_neg (by omega) (Ev_some ?_)
    have : n = a.length := by omega
    subst this
    rw [List.take_length, hl, List.take_length] at h3
    simp [h3]
  | succ d ih =>
    intro n h1 h2 h3
    refine Ev_succ ?_
    simp only [laws_eqIntS.l0]
    refine Ev_pos (by omega) (Ev_pos (by omega) (Ev_pos (by omega) ?_))
    rw [rd_cast, rd_cast, wsucc (by omega)]
    refine Ev_ite (fun h => ?_) (fun h => Ev_some ?_)
    · refine ih (n + 1) (by omega) (by omega) ?_
      rw [take_succ_getD a n 0 (by omega), take_succ_getD b n 0 (by omega), h3, h]
    · symm
      rw [decide_eq_false_iff_not]
      intro e
      exact h (by rw [e])

theorem laws_eqIntS_ev (a b : List Int) (hb : a.length ≤ 17592186044416) : Ev (fun k => laws_eqIntS.f k a b) (decide (a = b)) := by
  unfold laws_eqIntS.f
  refine Ev_ite (fun h => ?_) (fun h => Ev_some ?_)
  · exact laws_eqIntS_loop a b (by omega) hb _ 0 (by omega) rfl (by simp)
  · symm
    rw [decide_eq_false_iff_not]
    intro e
    exact h (by rw [e])

/-! ### spec_ReverseDigits -/
theorem spec_ReverseDigits_loop (l : List Int) (hb : l.length ≤ 1048576) : ∀ (n : Nat) (acc : List Int), n ≤ l.length → acc.length + n ≤ l.length →
    Ev (fun k => spec_ReverseDigits.l0 k l acc ((n : Int) - 1)) (acc ++ (l.take n).reverse) := by
  intro n
  induction n with
  | zero =>
    intro acc h1 h2
    refine Ev_succ ?_
    simp only [spec_ReverseDigits.l0]
    refine Ev_neg (by omega) (Ev_some ?_)
    simp
  | succ n ih =>
    intro acc h1 h2
    refine Ev_succ ?_
    simp only [spec_ReverseDigits.l0]
    have e : (((n + 1 : Nat) : Int) - 1) = (n : Int) := by omega
    rw [e]
    refine Ev_pos (by omega) (Ev_pos (by omega) (Ev_pos (by omega) (Ev_pos (by omega) ?_)))
    rw [rd_cast, w64 (by omega) (by omega)]
    refine Ev_eq (ih (acc ++ [l.getD n 0]) (by omega) (by simp; omega)) ?_
    rw [take_succ_getD l n 0 (by omega)]
    simp

theorem spec_ReverseDigits_ev (l : List Int) (hb : l.length ≤ 1048576) : Ev (fun k => spec_ReverseDigits.f k l) l.reverse := by
  unfold spec_ReverseDigits.f
  rw [w64 (by omega) (by omega)]
  refine Ev_eq (spec_ReverseDigits_loop l hb l.length [] (by omega) (by simp)) ?_
  simp

/-! ### spec_l3Same -/
theorem spec_l3Same_loop (a b : List Int) (hl : a.length = b.length) (hb : a.length ≤ 17592186044416) (d : Nat) : ∀ n : Nat, n ≤ a.length → a.length - n = d → a.take n = b.take n →
    Ev (fun k => spec_l3Same.l0 k a b (n : Int)) (decide (a = b)) := by
  induction d with
  | zero =>
    intro n h1 h2 h3
    refine Ev_succ ?_
    simp only [spec_l3Same.l0]
    refine Ev_neg (by omega) (Ev_some ?_)
    have : n = a.length := by omega
    subst this
    rw [List.take_length, hl, List.take_length] at h3
    simp [h3]
  | succ d ih =>
    intro n h1 h2 h3
    refine Ev_succ ?_
    simp only [spec_l3Same.l0]
    refine Ev_pos (by omega) (Ev_pos (by omega) (Ev_pos (by omega) ?_))
    rw [rd_cast, rd_cast, wsucc (by omega)]
    refine Ev_ite (fun h => ?_) (fun h => Ev_some ?_)
    · refine ih (n + 1) (by omega) (by omega) ?_
      rw [take_succ_getD a n 0 (by omega), take_succ_getD b n 0 (by omega), h3, h]
    · symm
      rw [decide_eq_false_iff_not]
      intro e
      exact h (by rw [e])

theorem spec_l3Same_ev (a b : List Int) (hb : a.length ≤ 17592186044416) : Ev (fun k => spec_l3Same.f k a b) (decide (a = b)) := by
  unfold spec_l3Same.f
  refine Ev_ite (fun h => ?_) (fun h => Ev_some ?_)
  · exact spec_l3Same_loop a b (by omega) hb _ 0 (by omega) rfl (by simp)
  · symm
    rw [decide_eq_false_iff_not]
    intro e
    exact h (by rw [e])

/-! ### spec_IsPalindrome -/
theorem spec_IsPalindrome_ev (l : List Int) (hb : l.length ≤ 1048576) : Ev (fun k => spec_IsPalindrome.f k l) (decide (l = l.reverse)) := by
  unfold spec_IsPalindrome.f
  refine Ev_call _ (spec_ReverseDigits_ev l hb) ?_
  refine Ev_call _ (spec_l3Same_ev l _ (by omega)) ?_
  exact Ev.now _

/-! ### spec_LongestPalindrome -/
theorem spec_LongestPalindrome_l1 (w : List Int) (hb : w.length ≤ 1048576) (n : Nat) (hn : 1 ≤ n) (hn2 : n ≤ w.length)
    (hx : (∀ s, ¬ Pal w s n) → ∃ A M : Nat, PalBest w A M ∧ Ev (fun k => spec_LongestPalindrome.l0 k w ((n - 1 : Nat) : Int)) ((A : Int), (M : Int)))
    (hm : ∀ s m, n < m → ¬ Pal w s m) (d : Nat) : ∀ s : Nat, s + n + d = w.length + 1 → (∀ s', s' < s → ¬ Pal w s' n) →
    ∃ A M : Nat, PalBest w A M ∧ Ev (fun k => spec_LongestPalindrome.l1 k w (n : Int) (s : Int)) ((A : Int), (M : Int)) := by
  induction d with
  | zero =>
    intro s hd hs
    obtain ⟨A, M, h1, h2⟩ := hx (fun s' hp => hs s' (by have := hp.1; omega) hp)
    refine ⟨A, M, h1, Ev_succ ?_⟩
    simp only [spec_LongestPalindrome.l1]
    rw [w64 (n := (s : Int) + n) (by omega) (by omega), wnat (x := (n : Int) - 1) (n - 1) (by omega) (by omega)]
    exact Ev_neg (by omega) h2
  | succ d ih =>
    intro s hd hs
    have ev := spec_IsPalindrome_ev ((w.take (s + n)).drop s) (by simp; omega)
    by_cases hp : Pal w s n
    · refine ⟨s, n, ⟨hp, fun s' m hq => ?_, fun s' hq => ?_⟩, Ev_succ ?_⟩
      · apply Nat.le_of_not_lt; intro hlt; exact hm s' m hlt hq
      · apply Nat.le_of_not_lt; intro hlt; exact hs s' hlt hq
      · simp only [spec_LongestPalindrome.l1]
        rw [wnat (x := (s : Int) + n) (s + n) (by omega) (by omega), Int.toNat_natCast, Int.toNat_natCast]
        exact Ev_pos (by omega) (Ev_pos (by omega) (Ev_pos (by omega) (Ev_call _ ev (Ev_pos (decide_eq_true ((pal_iff w s n (by omega)).2 hp)) (Ev.now _)))))
    · obtain ⟨A, M, h1, h2⟩ := ih (s + 1) (by omega) (fun s' hs' => by
        by_cases e : s' = s
        · subst e; exact hp
        · exact hs s' (by omega))
      refine ⟨A, M, h1, Ev_succ ?_⟩
      simp only [spec_LongestPalindrome.l1]
      rw [wnat (x := (s : Int) + n) (s + n) (by omega) (by omega), Int.toNat_natCast, Int.toNat_natCast, wsucc (n := s) (by omega)]
      exact Ev_pos (by omega) (Ev_pos (by omega) (Ev_pos (by omega) (Ev_call _ ev (Ev_neg (by rw [decide_eq_true_eq]; exact fun x => hp ((pal_iff w s n (by omega)).1 x)) h2))))

theorem spec_LongestPalindrome_l0 (w : List Int) (hb : w.length ≤ 1048576) : ∀ n : Nat, n ≤ w.length → (∀ s m, n < m → ¬ Pal w s m) →
    ∃ A M : Nat, PalBest w A M ∧ Ev (fun k => spec_LongestPalindrome.l0 k w (n : Int)) ((A : Int), (M : Int)) := by
  intro n
  induction n with
  | zero =>
    intro h hm
    refine ⟨0, 0, ⟨⟨by omega, fun k hk => by omega⟩, fun s m hp => ?_, fun s hp => by omega⟩, Ev_succ ?_⟩
    · apply Nat.le_of_not_lt; intro hlt; exact hm s m hlt hp
    · simp only [spec_LongestPalindrome.l0]
      exact Ev_neg (by omega) (Ev.now _)
  | succ n ih =>
    intro h hm
    obtain ⟨A, M, h1, h2⟩ := spec_LongestPalindrome_l1 w hb (n + 1) (by omega) h (fun hno => ih (by omega) (fun s m hlt hp => by
      by_cases e : m = n + 1
      · subst e; exact hno s hp
      · exact hm s m (by omega) hp)) hm (w.length + 1 - (n + 1)) 0 (by omega) (by intro s' h'; omega)
    refine ⟨A, M, h1, Ev_succ ?_⟩
    simp only [spec_LongestPalindrome.l0]
    exact Ev_pos (by omega) h2

theorem spec_LongestPalindrome_ev (w : List Int) (hb : w.length ≤ 1048576) :
    ∃ A M : Nat, PalBest w A M ∧ Ev (fun k => spec_LongestPalindrome.f k w) ((A : Int), (M : Int)) := by
  unfold spec_LongestPalindrome.f
  exact spec_LongestPalindrome_l0 w hb w.length (by omega) (fun s m hlt hp => by have := hp.1; omega)

/-! ### impl_LongestPalindrome -/
theorem impl_LongestPalindrome_fin (w : List Int) (hb : w.length ≤ 1048576) (c a n i j : Nat) (hc0 : c < 2 * w.length) (h : PalInv w c a n) (hp : Pal w i (j - i)) (hij : i ≤ j) (hj : j ≤ w.length)
    (hc : i + j = c ∨ c = 0) (hs : i = 0 ∨ w.length ≤ j ∨ ¬ w.getD (i - 1) 0 = w.getD j 0)
    (hx : ∀ a' n', PalInv w (c + 1) a' n' → ∃ A M : Nat, PalBest w A M ∧ Ev (fun k => impl_LongestPalindrome.l0 k w (a' : Int) (n' : Int) ((2 * w.length : Nat) : Int) ((c + 1 : Nat) : Int)) ((A : Int), (M : Int))) :
    ∃ A M : Nat, PalBest w A M ∧ Ev (fun k => (if (wrap64 ((wrap64 ((j : Int) - ((i : Int) - 1))) - 1)) > (n : Int) then (impl_LongestPalindrome.l0 k w (wrap64 (((i : Int) - 1) + 1)) (wrap64 ((wrap64 ((j : Int) - ((i : Int) - 1))) - 1)) ((2 * w.length : Nat) : Int) (wrap64 ((c : Int) + 1))) else (if (wrap64 ((wrap64 ((j : Int) - ((i : Int) - 1))) - 1)) = (n : Int) then (if (wrap64 (((i : Int) - 1) + 1)) < (a : Int) then (impl_LongestPalindrome.l0 k w (wrap64 (((i : Int) - 1) + 1)) (wrap64 ((wrap64 ((j : Int) - ((i : Int) - 1))) - 1)) ((2 * w.length : Nat) : Int) (wrap64 ((c : Int) + 1))) else (impl_LongestPalindrome.l0 k w (a : Int) (n : Int) ((2 * w.length : Nat) : Int) (wrap64 ((c : Int) + 1)))) else (impl_LongestPalindrome.l0 k w (a : Int) (n : Int) ((2 * w.length : Nat) : Int) (wrap64 ((c : Int) + 1)))))) ((A : Int), (M : Int)) := by
  have e1 : wrap64 ((j : Int) - ((i : Int) - 1)) = (j : Int) - ((i : Int) - 1) := w64 (by omega) (by omega)
  have e2 : wrap64 ((j : Int) - ((i : Int) - 1) - 1) = ((j - i : Nat) : Int) := wnat _ (by omega) (by omega)
  have e3 : wrap64 (((i : Int) - 1) + 1) = (i : Int) := wnat _ (by omega) (by omega)
  have e4 : wrap64 ((c : Int) + 1) = ((c + 1 : Nat) : Int) := wsucc (by omega)
  rw [e1, e2, e3, e4]
  have hn := h.next hp hij hc (Pal.stop hij hs)
  by_cases c1 : j - i > n
  · rw [if_pos c1, if_pos c1] at hn
    obtain ⟨A, M, h1, h2⟩ := hx _ _ hn
    exact ⟨A, M, h1, Ev_pos (by omega) h2⟩
  · rw [if_neg c1, if_neg c1] at hn
    by_cases c2 : j - i = n ∧ i < a
    · rw [if_pos c2] at hn
      obtain ⟨A, M, h1, h2⟩ := hx _ _ hn
      rw [c2.1]
      exact ⟨A, M, h1, Ev_neg (by omega) (Ev_pos rfl (Ev_pos (by omega) h2))⟩
    · rw [if_neg c2] at hn
      obtain ⟨A, M, h1, h2⟩ := hx _ _ hn
      refine ⟨A, M, h1, Ev_neg (by omega) ?_⟩
      by_cases c3 : j - i = n
      · exact Ev_pos (by omega) (Ev_neg (by omega) h2)
      · exact Ev_neg (by omega) h2

theorem impl_LongestPalindrome_l1 (w : List Int) (hb : w.length ≤ 1048576) (c a n : Nat) (hc0 : c < 2 * w.length) (h : PalInv w c a n)
    (hx : ∀ a' n', PalInv w (c + 1) a' n' → ∃ A M : Nat, PalBest w A M ∧ Ev (fun k => impl_LongestPalindrome.l0 k w (a' : Int) (n' : Int) ((2 * w.length : Nat) : Int) ((c + 1 : Nat) : Int)) ((A : Int), (M : Int))) :
    ∀ i j : Nat, Pal w i (j - i) → i ≤ j → j ≤ w.length → (i + j = c ∨ c = 0) →
    ∃ A M : Nat, PalBest w A M ∧ Ev (fun k => impl_LongestPalindrome.l1 k w (a : Int) (n : Int) ((i : Int) - 1) (j : Int) ((2 * w.length : Nat) : Int) (c : Int)) ((A : Int), (M : Int)) := by
  intro i
  induction i with
  | zero =>
    intro j hp hij hj hc
    obtain ⟨A, M, h1, h2⟩ := impl_LongestPalindrome_fin w hb c a n 0 j hc0 h hp hij hj hc (Or.inl rfl) hx
    refine ⟨A, M, h1, Ev_succ ?_⟩
    simp only [impl_LongestPalindrome.l1]
    exact Ev_neg (by omega) h2
  | succ i ih =>
    intro j hp hij hj hc
    by_cases hlt : j < w.length
    · by_cases he : w.getD i 0 = w.getD j 0
      · obtain ⟨A, M, h1, h2⟩ := ih (j + 1) (hp.grow hij hlt he) (by omega) (by omega) (by omega)
        refine ⟨A, M, h1, Ev_succ ?_⟩
        simp only [impl_LongestPalindrome.l1]
        have e : ((i + 1 : Nat) : Int) - 1 = (i : Int) := by omega
        rw [e, rd_cast, rd_cast, w64 (n := (i : Int) - 1) (by omega) (by omega), wsucc (n := j) (by omega)]
        exact Ev_pos (by omega) (Ev_pos (by omega) (Ev_pos (by omega) (Ev_pos (by omega) (Ev_pos (by omega) (Ev_pos he h2)))))
      · obtain ⟨A, M, h1, h2⟩ := impl_LongestPalindrome_fin w hb c a n (i + 1) j hc0 h hp hij hj hc (Or.inr (Or.inr (by simpa using he))) hx
        refine ⟨A, M, h1, Ev_succ ?_⟩
        simp only [impl_LongestPalindrome.l1]
        have e : ((i + 1 : Nat) : Int) - 1 = (i : Int) := by omega
        rw [e] at h2 ⊢
        rw [rd_cast, rd_cast]
        exact Ev_pos (by omega) (Ev_pos (by omega) (Ev_pos (by omega) (Ev_pos (by omega) (Ev_pos (by omega) (Ev_neg he h2)))))
    · obtain ⟨A, M, h1, h2⟩ := impl_LongestPalindrome_fin w hb c a n (i + 1) j hc0 h hp hij hj hc (Or.inr (Or.inl (by omega))) hx
      refine ⟨A, M, h1, Ev_succ ?_⟩
      simp only [impl_LongestPalindrome.l1]
      exact Ev_pos (by omega) (Ev_neg (by omega) h2)

theorem impl_LongestPalindrome_l0 (w : List Int) (hb : w.length ≤ 1048576) (d : Nat) : ∀ c a n : Nat, c + d = 2 * w.length → PalInv w c a n →
    ∃ A M : Nat, PalBest w A M ∧ Ev (fun k => impl_LongestPalindrome.l0 k w (a : Int) (n : Int) ((2 * w.length : Nat) : Int) (c : Int)) ((A : Int), (M : Int)) := by
  induction d with
  | zero =>
    intro c a n hd h
    have : c = 2 * w.length := by omega
    subst this
    refine ⟨a, n, h.done, Ev_succ ?_⟩
    simp only [impl_LongestPalindrome.l0]
    exact Ev_neg (by omega) (Ev.now _)
  | succ d ih =>
    intro c a n hd h
    have hx := ih (c + 1)
    have hx' : ∀ a' n', PalInv w (c + 1) a' n' → ∃ A M : Nat, PalBest w A M ∧ Ev (fun k => impl_LongestPalindrome.l0 k w (a' : Int) (n' : Int) ((2 * w.length : Nat) : Int) ((c + 1 : Nat) : Int)) ((A : Int), (M : Int)) :=
      fun a' n' => hx a' n' (by omega)
    by_cases c0 : c = 0
    · subst c0
      obtain ⟨A, M, h1, h2⟩ := impl_LongestPalindrome_l1 w hb 0 a n (by omega) h hx' 0 1 ⟨by omega, fun k hk => by congr 1; omega⟩ (by omega) (by omega) (Or.inr rfl)
      refine ⟨A, M, h1, Ev_succ ?_⟩
      simp only [impl_LongestPalindrome.l0]
      refine Ev_pos (by omega) (Ev_pos (by omega) (Ev_succ ?_))
      simp only [impl_LongestPalindrome.j1]
      refine Ev_succ ?_
      simp only [impl_LongestPalindrome.l1]
      have e : wrap64 (Int.tdiv ((0 : Nat) : Int) 2) = ((0 : Nat) : Int) := by unfold wrap64; rfl
      rw [e]
      refine Ev_pos (by omega) (Ev_pos (by omega) (Ev_pos (by omega) (Ev_pos (by omega) (Ev_pos (by omega) (Ev_pos rfl ?_)))))
      rw [wsucc (n := 0) (by omega), w64 (n := (0 : Int) - 1) (by omega) (by omega)]
      exact h2
    · have t1 : Int.tdiv (c : Int) 2 = ((c / 2 : Nat) : Int) := by rw [Int.tdiv_eq_ediv_of_nonneg (by omega)]; omega
      have t2 : Int.tdiv ((c : Int) - 1) 2 = (((c - 1) / 2 : Nat) : Int) := by rw [Int.tdiv_eq_ediv_of_nonneg (by omega)]; omega
      by_cases odd : c % 2 = 1
      · have hp : Pal w (c / 2) (c / 2 + 1 - c / 2) := ⟨by omega, fun k hk => by congr 1; omega⟩
        obtain ⟨A, M, h1, h2⟩ := impl_LongestPalindrome_l1 w hb c a n (by omega) h hx' (c / 2) (c / 2 + 1) hp (by omega) (by omega) (Or.inl (by omega))
        refine ⟨A, M, h1, Ev_succ ?_⟩
        simp only [impl_LongestPalindrome.l0]
        refine Ev_pos (by omega) (Ev_neg (by omega) (Ev_succ ?_))
        simp only [impl_LongestPalindrome.j1]
        refine Ev_succ ?_
        simp only [impl_LongestPalindrome.l1]
        rw [w64 (n := (c : Int) - 1) (by omega) (by omega), t1, t2, w64 (n := ((c / 2 : Nat) : Int)) (by omega) (by omega), w64 (n := (((c - 1) / 2 : Nat) : Int)) (by omega) (by omega)]
        have e : (c - 1) / 2 = c / 2 := by omega
        rw [e]
        refine Ev_pos (by omega) (Ev_pos (by omega) (Ev_pos (by omega) (Ev_pos (by omega) (Ev_pos (by omega) (Ev_pos rfl ?_)))))
        rw [wsucc (n := c / 2) (by omega), w64 (n := ((c / 2 : Nat) : Int) - 1) (by omega) (by omega)]
        exact h2
      · have hp : Pal w (c / 2) (c / 2 - c / 2) := ⟨by omega, fun k hk => by omega⟩
        obtain ⟨A, M, h1, h2⟩ := impl_LongestPalindrome_l1 w hb c a n (by omega) h hx' (c / 2) (c / 2) hp (by omega) (by omega) (Or.inl (by omega))
        refine ⟨A, M, h1, Ev_succ ?_⟩
        simp only [impl_LongestPalindrome.l0]
        refine Ev_pos (by omega) (Ev_neg (by omega) (Ev_succ ?_))
        simp only [impl_LongestPalindrome.j1]
        rw [w64 (n := (c : Int) - 1) (by omega) (by omega), t1, t2, w64 (n := ((c / 2 : Nat) : Int)) (by omega) (by omega), w64 (n := (((c - 1) / 2 : Nat) : Int)) (by omega) (by omega)]
        have e : (((c - 1) / 2 : Nat) : Int) = ((c / 2 : Nat) : Int) - 1 := by omega
        rw [e]
        exact h2

theorem impl_LongestPalindrome_ev (w : List Int) (hb : w.length ≤ 1048576) :
    ∃ A M : Nat, PalBest w A M ∧ Ev (fun k => impl_LongestPalindrome.f k w) ((A : Int), (M : Int)) := by
  unfold impl_LongestPalindrome.f
  rw [wnat (x := 2 * (w.length : Int)) (2 * w.length) (by omega) (by omega)]
  exact impl_LongestPalindrome_l0 w hb _ 0 0 0 (Nat.zero_add _) (PalInv.start w)

theorem FnExactLongestPalindrome : laws_FnExactLongestPalindrome.Pure := by
  intro l _ _ _
  refine Ev.rounds ?_
  unfold laws_FnExactLongestPalindrome.f
  refine Ev_ite (fun _ => Ev.now _) (fun h => ?_)
  have hb : l.length ≤ 1048576 := by omega
  have t1 := laws_toIntS_ev l (by omega)
  have t2 := laws_eqIntS_ev l l (by omega)
  obtain ⟨A, M, h1, h2⟩ := spec_LongestPalindrome_ev l hb
  obtain ⟨A', M', h3, h4⟩ := impl_LongestPalindrome_ev l hb
  obtain ⟨rfl, rfl⟩ := h1.one h3
  refine Ev_call _ t1 (Ev_call _ h2 (Ev_call _ t1 (Ev_call _ h4 (Ev_pos rfl (Ev_succ ?_)))))
  simp only [laws_FnExactLongestPalindrome.j0]
  exact Ev_neg (by simp) (Ev_call _ t1 (Ev_call _ t2 (Ev_pos (by simp) (Ev.now _))))

end Go.Proofs.Ytoaonfacjcienaa.Pure
