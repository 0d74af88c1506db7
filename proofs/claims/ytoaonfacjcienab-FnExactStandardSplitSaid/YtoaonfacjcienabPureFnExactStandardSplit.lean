/- The pure statement of FnExactStandardSplit: at every list the law's answer is true. -/
import Derived.Test.YtoaonfacjcienabMFnExactStandardSplitx5
import Derived.Test.YtoaonfacjcienabG0
import Derived.Test.YtoaonfacjcienabGSized
import Derived.Test.YtoaonfacjcienabG9
import Derived.Test.YtoaonfacjcienabG5
namespace Go.Proofs.Ytoaonfacjcienab.Pure
open Go.RowKit Go.Proofs.Ytoaonfacjcienab.PFnExactStandardSplit Go.Proofs.YtoaonfacjcienabW.PrintWords Go.Proofs.YtoaonfacjcienabW.PrintLast Go.Proofs.YtoaonfacjcienabW.PrintMore Go.Proofs.Ytoaonfacjcienab.G
set_option linter.unusedVariables false
set_option linter.unusedSimpArgs false

/-! ### laws_toIntS -/
theorem laws_toIntS_loop (l : List Int) (hb : l.length ≤ 17592186044416) (d : Nat) : ∀ (n : Nat) (acc : List Int), acc.length = l.length → n ≤ l.length → l.length - n = d → acc.take n = l.take n →
    Ev (fun k => laws_toIntS.l0 k l acc (n : Int)) l := by
  induction d with
  | zero =>
    intro n acc h0 h1 h2 h3
    refine Ev_succ ?_
    simp only [laws_toIntS.l0]
    refine Ev_neg (by omega) (Ev_some ?_)
    have : n = l.length := by omega
    subst this
    rw [List.take_length, ← h0, List.take_length] at h3
    exact h3
  | succ d ih =>
    intro n acc h0 h1 h2 h3
    refine Ev_succ ?_
    simp only [laws_toIntS.l0]
    refine Ev_pos (by omega) (Ev_pos (by omega) (Ev_pos (by omega) ?_))
    rw [rd_cast, wsucc (by omega), Int.toNat_natCast]
    refine ih (n + 1) _ (by simpa using h0) (by omega) (by omega) ?_
    rw [set_take_succ acc n _ (by omega), take_succ_getD l n 0 (by omega), h3]

theorem laws_toIntS_ev (l : List Int) (hb : l.length ≤ 17592186044416) : Ev (fun k => laws_toIntS.f k l) l := by
  unfold laws_toIntS.f
  refine Ev_pos (by omega) (Ev_pos (by omega) ?_)
  exact laws_toIntS_loop l hb _ 0 _ (by simp) (by omega) rfl (by simp)

/-! ### laws_eqIntS -/
theorem laws_eqIntS_loop (a b : List Int) (hl : a.length = b.length) (hb : a.length ≤ 17592186044416) (d : Nat) : ∀ n : Nat, n ≤ a.length → a.length - n = d → a.take n = b.take n →
    Ev (fun k => laws_eqIntS.l0 k a b (n : Int)) (decide (a = b)) := by
  induction d with
  | zero =>
    intro n h1 h2 h3
    refine Ev_succ ?_
    simp only [laws_eqIntS.l0]
    refine Ev_neg (by omega) (Ev_some ?_)
    have : n = a.length := by omega
    subst this
    rw [List.take_length, hl, List.take_length] at h3
    simp [h3]
  | succ d ih =>
    intro n h1 h2 h3
    refine Ev_succ ?_
    simp only [laws_eqIntS.l0]
    refine Ev_pos (by omega) (Ev_pos (by omega) (Ev_pos (by omega) ?_))
    rw [rd_cast, rd_cast, wsucc (by omega)]
    refine Ev_ite (fun h => ?_) (fun h => Ev_some ?_)
    · refine ih (n + 1) (by omega) (by omega) ?_
      rw [take_succ_getD a n 0 (by omega), take_succ_getD b n 0 (by omega), h3, h]
    · symm
      rw [decide_eq_false_iff_not]
      intro e
      exact h (by rw [e])

theorem laws_eqIntS_ev (a b : List Int) (hb : a.length ≤ 17592186044416) : Ev (fun k => laws_eqIntS.f k a b) (decide (a = b)) := by
  unfold laws_eqIntS.f
  refine Ev_ite (fun h => ?_) (fun h => Ev_some ?_)
  · exact laws_eqIntS_loop a b (by omega) hb _ 0 (by omega) rfl (by simp)
  · symm
    rw [decide_eq_false_iff_not]
    intro e
    exact h (by rw [e])

/-! ### laws_markIntS -/
theorem laws_markIntS_loop (L : Nat) (m : Int) (hm : 0 ≤ m) (hm2 : m ≤ 17592186044416) (hb : L ≤ 17592186044416) (d : Nat) : ∀ (n : Nat) (acc : List Int), acc.length = L → n ≤ L → L - n = d → acc.take n = iota m n →
    Ev (fun k => laws_markIntS.l0 k acc (m + n) (n : Int)) (m + L, iota m L) := by
  induction d with
  | zero =>
    intro n acc h0 h1 h2 h3
    refine Ev_succ ?_
    simp only [laws_markIntS.l0]
    refine Ev_neg (by omega) (Ev_some ?_)
    have : n = L := by omega
    subst this
    rw [← h3, ← h0, List.take_length]
  | succ d ih =>
    intro n acc h0 h1 h2 h3
    refine Ev_succ ?_
    simp only [laws_markIntS.l0]
    refine Ev_pos (by omega) (Ev_pos (by omega) ?_)
    rw [wsucc (by omega), Int.toNat_natCast, w64 (n := m + (n : Int) + 1) (by omega) (by omega)]
    have e : m + (n : Int) + 1 = m + ((n + 1 : Nat) : Int) := by omega
    rw [e]
    refine ih (n + 1) _ (by simpa using h0) (by omega) (by omega) ?_
    rw [set_take_succ acc n _ (by omega), h3, iota_succ]

theorem laws_markIntS_ev (l : List Int) (m : Int) (hm : 0 ≤ m) (hm2 : m ≤ 17592186044416) (hb : l.length ≤ 17592186044416) : Ev (fun k => laws_markIntS.f k l m) (m + l.length, iota m l.length) := by
  unfold laws_markIntS.f
  have := laws_markIntS_loop l.length m hm hm2 hb _ 0 l rfl (by omega) rfl (by simp [iota])
  simpa using this

/-! ### laws_heldIntS -/
theorem laws_heldIntS_loop (L : Nat) (m : Int) (hm : 0 ≤ m) (hm2 : m ≤ 17592186044416) (hb : L ≤ 17592186044416) (d : Nat) : ∀ (n : Nat), n ≤ L → L - n = d →
    Ev (fun k => laws_heldIntS.l0 k (iota m L) (m + n) (n : Int)) (m + L) := by
  induction d with
  | zero =>
    intro n h1 h2
    refine Ev_succ ?_
    simp only [laws_heldIntS.l0]
    refine Ev_neg (by rw [iota_length]; omega) (Ev_some ?_)
    omega
  | succ d ih =>
    intro n h1 h2
    refine Ev_succ ?_
    simp only [laws_heldIntS.l0]
    refine Ev_pos (by rw [iota_length]; omega) (Ev_pos (by omega) ?_)
    rw [rd_cast, iota_getD m L n (by omega)]
    refine Ev_pos rfl ?_
    rw [wsucc (by omega), w64 (n := m + (n : Int) + 1) (by omega) (by omega)]
    have e : m + (n : Int) + 1 = m + ((n + 1 : Nat) : Int) := by omega
    rw [e]
    exact ih (n + 1) (by omega) (by omega)

theorem laws_heldIntS_ev (L : Nat) (m : Int) (hm : 0 ≤ m) (hm2 : m ≤ 17592186044416) (hb : L ≤ 17592186044416) : Ev (fun k => laws_heldIntS.f k (iota m L) m) (m + L) := by
  unfold laws_heldIntS.f
  have := laws_heldIntS_loop L m hm hm2 hb _ 0 (by omega) rfl
  simpa using this

/-! ### spec_CompareWords -/
theorem spec_CompareWords_loop (u v : List Int) (hu : u.length ≤ 1048576) (d : Nat) : ∀ n : Nat, n + d = u.length → n ≤ v.length →
    Ev (fun k => spec_CompareWords.l0 k u v (n : Int)) (cmpW (u.drop n) (v.drop n)) := by
  induction d with
  | zero =>
    intro n h h2
    have hn : n = u.length := by omega
    subst hn
    refine Ev_succ ?_
    simp only [spec_CompareWords.l0]
    refine Ev_neg (by omega) (Ev_succ ?_)
    simp only [spec_CompareWords.j1]
    refine Ev_neg (by simp) ?_
    rw [List.drop_length, cmpW_nil_left]
    by_cases c : u.length < v.length
    · refine Ev_pos (by omega) (Ev_some ?_)
      rw [if_neg (by simp; omega)]
    · refine Ev_neg (by omega) (Ev_neg (by omega) (Ev_some ?_))
      rw [if_pos (by simp; omega)]
  | succ d ih =>
    intro n h h2
    refine Ev_succ ?_
    simp only [spec_CompareWords.l0]
    refine Ev_pos (by omega) (Ev_succ ?_)
    simp only [spec_CompareWords.j1]
    by_cases c : n < v.length
    · refine Ev_pos (by simp; omega) (Ev_pos (by omega) (Ev_pos (by omega) (Ev_pos (by omega) ?_)))
      rw [rd_cast, rd_cast, drop_cons u n 0 (by omega), drop_cons v n 0 c, cmpW_cons, wsucc (by omega)]
      refine Ev_ite (fun g => Ev_some ?_) (fun g => ?_)
      · rw [if_pos g]
      · rw [if_neg g]
        refine Ev_ite (fun g2 => Ev_some ?_) (fun g2 => ?_)
        · rw [if_pos g2]
        · rw [if_neg g2]
          exact ih (n + 1) (by omega) (by omega)
    · refine Ev_neg (by simp; omega) (Ev_neg (by omega) (Ev_pos (by omega) (Ev_some ?_)))
      rw [List.drop_eq_nil_of_le (show v.length ≤ n by omega), cmpW_nil_right, if_neg (by simp; omega)]

theorem spec_CompareWords_ev (u v : List Int) (hu : u.length ≤ 1048576) : Ev (fun k => spec_CompareWords.f k u v) (cmpW u v) := by
  unfold spec_CompareWords.f
  exact spec_CompareWords_loop u v hu _ 0 (Nat.zero_add _) (by omega)

/-! ### spec_IsLyndon -/
theorem spec_IsLyndon_loop (w : List Int) (hb : w.length ≤ 1048576) (d : Nat) : ∀ n : Nat, 1 ≤ n → w.length ≤ n + d → (∀ k, 1 ≤ k → k < n → k < w.length → cmpW w (w.drop k) < 0) →
    n ≤ w.length + 1 → ∃ b : Bool, Ev (fun k => spec_IsLyndon.l0 k w (n : Int)) b ∧ (b = true ↔ LynIx w 0 w.length) := by
  induction d with
  | zero =>
    intro n h1 h2 h3 h4
    refine ⟨decide ((w.length : Int) > 0), Ev_succ ?_, ?_⟩
    · simp only [spec_IsLyndon.l0]
      exact Ev_neg (by omega) (Ev.now _)
    · rw [decide_eq_true_eq, lynIx_iff]
      exact ⟨fun h => ⟨by omega, fun k g1 g2 => h3 k g1 (by omega) g2⟩, fun h => by omega⟩
  | succ d ih =>
    intro n h1 h2 h3 h4
    by_cases hlt : n < w.length
    · have ev := spec_CompareWords_ev w (w.drop n) hb
      by_cases c : cmpW w (w.drop n) ≥ 0
      · refine ⟨false, Ev_succ ?_, ⟨fun h => absurd h (by simp), fun h => ?_⟩⟩
        · simp only [spec_IsLyndon.l0]
          rw [Int.toNat_natCast]
          exact Ev_pos (by omega) (Ev_pos (by omega) (Ev_pos (by omega) (Ev_call _ ev (Ev_pos c (Ev.now _)))))
        · have := ((lynIx_iff w).1 h).2 n h1 hlt
          omega
      · obtain ⟨b, g1, g2⟩ := ih (n + 1) (by omega) (by omega) (fun k e1 e2 e3 => by
          by_cases e : k = n
          · subst e; omega
          · exact h3 k e1 (by omega) e3) (by omega)
        refine ⟨b, Ev_succ ?_, g2⟩
        simp only [spec_IsLyndon.l0]
        rw [Int.toNat_natCast, wsucc (n := n) (by omega)]
        exact Ev_pos (by omega) (Ev_pos (by omega) (Ev_pos (by omega) (Ev_call _ ev (Ev_neg c g1))))
    · refine ⟨decide ((w.length : Int) > 0), Ev_succ ?_, ?_⟩
      · simp only [spec_IsLyndon.l0]
        exact Ev_neg (by omega) (Ev.now _)
      · rw [decide_eq_true_eq, lynIx_iff]
        exact ⟨fun h => ⟨by omega, fun k g1 g2 => h3 k g1 (by omega) g2⟩, fun h => by omega⟩

theorem spec_IsLyndon_ev (w : List Int) (hb : w.length ≤ 1048576) : ∃ b : Bool, Ev (fun k => spec_IsLyndon.f k w) b ∧ (b = true ↔ LynIx w 0 w.length) := by
  unfold spec_IsLyndon.f
  exact spec_IsLyndon_loop w hb w.length 1 (by omega) (by omega) (fun k h1 h2 => by omega) (by omega)

/-! ### impl_lyndon -/
theorem impl_lyndon_l2 (w : List Int) (hb : w.length ≤ 1048576) (i j : Nat) (hij : i < j) (hj : j ≤ w.length) (r : List (List Int)) (f : Nat) : ∀ (a : Nat) (out : List (List Int)), i < a + f → a ≤ j → out.length ≤ a →
    Ev (fun k => impl_lyndon.l0 k w (out ++ (dpos w i (j - i) f a).1) (((dpos w i (j - i) f a).2 : Nat) : Int)) r →
    Ev (fun k => impl_lyndon.l2 k w out (a : Int) (i : Int) (j : Int)) r := by
  induction f with
  | zero =>
    intro a out h1 h2 h3 h4
    refine Ev_succ ?_
    simp only [impl_lyndon.l2]
    simp only [dpos, List.append_nil] at h4
    exact Ev_neg (by omega) h4
  | succ f ih =>
    intro a out h1 h2 h3 h4
    refine Ev_succ ?_
    simp only [impl_lyndon.l2]
    rw [dpos] at h4
    by_cases c : a ≤ i
    · rw [if_pos c] at h4
      rw [wnat (x := (a : Int) + j) (a + j) (by omega) (by omega), wnat (x := ((a + j : Nat) : Int) - i) (a + (j - i)) (by omega) (by omega), wnat (x := (j : Int) - i) (j - i) (by omega) (by omega), wnat (x := (a : Int) + ((j - i : Nat) : Int)) (a + (j - i)) (by omega) (by omega), Int.toNat_natCast, Int.toNat_natCast]
      refine Ev_pos (by omega) (Ev_pos (by omega) (Ev_pos (by omega) (Ev_pos (by omega) (Ev_pos (by omega) ?_))))
      refine ih (a + (j - i)) _ (by omega) (by omega) (by simp; omega) ?_
      simpa using h4
    · rw [if_neg c] at h4
      simp only [List.append_nil] at h4
      exact Ev_neg (by omega) h4

theorem impl_lyndon_l1 (w : List Int) (hb : w.length ≤ 1048576) (a : Nat) (out : List (List Int)) (r : List (List Int)) (f : Nat) : ∀ i j : Nat, i < j → a ≤ i → j ≤ w.length → w.length ≤ j + f →
    Ev (fun k => impl_lyndon.l2 k w out (a : Int) (((dscan w a f i j).1 : Nat) : Int) (((dscan w a f i j).2 : Nat) : Int)) r →
    Ev (fun k => impl_lyndon.l1 k w out (a : Int) (i : Int) (j : Int)) r := by
  induction f with
  | zero =>
    intro i j h1 h2 h3 h4 h5
    refine Ev_succ ?_
    simp only [impl_lyndon.l1]
    refine Ev_neg (by omega) (Ev_succ ?_)
    simp only [impl_lyndon.j2]
    exact Ev_neg (by simp) h5
  | succ f ih =>
    intro i j h1 h2 h3 h4 h5
    refine Ev_succ ?_
    simp only [impl_lyndon.l1]
    rw [dscan] at h5
    by_cases c : j < w.length
    · refine Ev_pos (by omega) (Ev_pos (by omega) (Ev_pos (by omega) (Ev_pos (by omega) (Ev_succ ?_))))
      simp only [impl_lyndon.j2]
      rw [rd_cast, rd_cast]
      by_cases c2 : w.getD i 0 ≤ w.getD j 0
      · rw [if_pos ⟨c, c2⟩] at h5
        refine Ev_pos (by simp only [decide_eq_true_eq]; exact c2) (Ev_pos (by omega) (Ev_pos (by omega) (Ev_pos (by omega) (Ev_pos (by omega) ?_))))
        rw [wsucc (n := i) (by omega), wsucc (n := j) (by omega)]
        by_cases c3 : w.getD i 0 < w.getD j 0
        · rw [if_pos c3] at h5
          exact Ev_pos c3 (ih a (j + 1) (by omega) (by omega) (by omega) (by omega) h5)
        · rw [if_neg c3] at h5
          exact Ev_neg c3 (ih (i + 1) (j + 1) (by omega) (by omega) (by omega) (by omega) h5)
      · rw [if_neg (by intro h; exact c2 h.2)] at h5
        exact Ev_neg (by simp only [decide_eq_true_eq]; exact c2) h5
    · rw [if_neg (by intro h; exact c h.1)] at h5
      refine Ev_neg (by omega) (Ev_succ ?_)
      simp only [impl_lyndon.j2]
      exact Ev_neg (by simp) h5

theorem dpos_facts (w : List Int) (i p : Nat) (hp : 1 ≤ p) (f : Nat) : ∀ a : Nat, (a ≤ i → i < a + f) → i + p ≤ w.length → a ≤ i + p →
    a + (dpos w i p f a).1.length ≤ (dpos w i p f a).2 ∧ (dpos w i p f a).2 ≤ i + p ∧ (1 ≤ f → a ≤ i → a < (dpos w i p f a).2) := by
  induction f with
  | zero => intro a h1 h2 h3; simp [dpos]; omega
  | succ f ih =>
    intro a h1 h2 h3
    rw [dpos]
    by_cases c : a ≤ i
    · rw [if_pos c]
      have := ih (a + p) (fun _ => by omega) h2 (by omega)
      simp only [List.length_cons]
      omega
    · rw [if_neg c]
      simp
      omega

theorem impl_lyndon_l0 (w : List Int) (hb : w.length ≤ 1048576) (f : Nat) : ∀ (a : Nat) (out : List (List Int)), w.length ≤ a + f → a ≤ w.length → out.length ≤ a →
    Ev (fun k => impl_lyndon.l0 k w out (a : Int)) (out ++ duv w f a) := by
  induction f with
  | zero =>
    intro a out h1 h2 h3
    refine Ev_succ ?_
    simp only [impl_lyndon.l0]
    exact Ev_neg (by omega) (Ev_some (by simp [duv]))
  | succ f ih =>
    intro a out h1 h2 h3
    refine Ev_succ ?_
    simp only [impl_lyndon.l0]
    by_cases c : a < w.length
    · have he := dscan_end w a w.length a (a + 1) (DInv.start c) (by omega)
      rw [duv, if_pos c]
      generalize hs : dscan w a w.length a (a + 1) = s at he
      have l1 := he.1.le
      have l2 := he.1.lt
      have l3 := he.1.len
      have hf := dpos_facts w s.1 (s.2 - s.1) (by omega) w.length a (fun _ => by omega) (by omega) (by omega)
      rw [wsucc (n := a) (by omega)]
      refine Ev_pos (by omega) ?_
      refine impl_lyndon_l1 w hb a out _ w.length a (a + 1) (by omega) (by omega) (by omega) (by omega) ?_
      rw [hs]
      refine impl_lyndon_l2 w hb s.1 s.2 l2 l3 _ w.length a out (by omega) (by omega) h3 ?_
      rw [← List.append_assoc]
      exact ih _ _ (by omega) (by omega) (by simp; omega)
    · rw [duv, if_neg c]
      exact Ev_neg (by omega) (Ev_some (by simp))

theorem impl_lyndon_ev (w : List Int) (hb : w.length ≤ 1048576) : Ev (fun k => impl_lyndon.f k w) (duv w w.length 0) := by
  unfold impl_lyndon.f
  exact impl_lyndon_l0 w hb w.length 0 [] (by omega) (by omega) (by simp)

/-! ### impl_IsLyndon -/
theorem impl_IsLyndon_ev (w : List Int) (hb : w.length ≤ 1048576) : ∃ b : Bool, Ev (fun k => impl_IsLyndon.f k w) b ∧ (b = true ↔ LynIx w 0 w.length) := by
  unfold impl_IsLyndon.f
  by_cases h : w.length = 0
  · exact ⟨false, Ev_neg (by omega) (Ev.now _), ⟨fun h => absurd h (by simp), fun g => by have := g.1; omega⟩⟩
  · have he := dscan_end w 0 w.length 0 1 (DInv.start (by omega)) (by omega)
    have hl := impl_lyndon_ev w hb
    obtain ⟨m, hm⟩ : ∃ m, w.length = m + 1 := ⟨w.length - 1, by omega⟩
    have e : ∃ rest, duv w w.length 0 = (w.take (0 + ((dscan w 0 w.length 0 1).2 - (dscan w 0 w.length 0 1).1))).drop 0 :: rest := by
      conv => arg 1; ext rest; lhs; arg 2; rw [hm]
      rw [duv, if_pos (by omega)]
      conv => arg 1; ext rest; lhs; lhs; arg 1; arg 4; rw [hm]
      rw [dpos, if_pos (by have := he.1.le; exact this)]
      exact ⟨_, rfl⟩
    obtain ⟨rest, e⟩ := e
    rw [e] at hl
    generalize hs : dscan w 0 w.length 0 1 = s at he hl
    have l1 := he.1.le
    have l2 := he.1.lt
    have l3 := he.1.len
    refine ⟨_, Ev_pos (by omega) (Ev_call _ hl (Ev_pos (by simp) (Ev.now _))), ?_⟩
    rw [beq_iff_eq, ← he.whole]
    simp [rd_L1]
    omega

open Classical in
/-- The split at the first place from n on behind which a Lyndon word stands. -/
noncomputable def split (w : List Int) : Nat → Nat → List Int × List Int × Bool
  | 0, _ => ([], [], false)
  | f + 1, n => if LynIx (w.drop n) 0 (w.drop n).length then (w.take n, w.drop n, true) else split w f (n + 1)

theorem last_lyndon (w : List Int) (h : 1 ≤ w.length) : LynIx (w.drop (w.length - 1)) 0 (w.drop (w.length - 1)).length := by
  have hl : (w.drop (w.length - 1)).length = 1 := by simp; omega
  rw [hl]
  exact ⟨by omega, fun k h1 h2 => by omega⟩

theorem split_sizes (w : List Int) (f : Nat) : ∀ n, (split w f n).1.length ≤ w.length ∧ (split w f n).2.1.length ≤ w.length := by
  induction f with
  | zero => intro n; simp [split]
  | succ f ih =>
    intro n
    rw [split]
    split
    · simp; omega
    · exact ih (n + 1)

theorem impl_StandardSplit_l0 (w : List Int) (hb : w.length ≤ 1048576) (f : Nat) : ∀ n : Nat, 1 ≤ n → n + f = w.length → 1 ≤ f →
    Ev (fun k => impl_StandardSplit.l0 k w (n : Int)) (split w f n) := by
  induction f with
  | zero => intro n _ _ h; omega
  | succ f ih =>
    intro n h1 h2 _
    refine Ev_succ ?_
    simp only [impl_StandardSplit.l0, Option.bind_some, List.nil_append, List.length_nil, Int.toNat_natCast]
    obtain ⟨b, g1, g2⟩ := impl_IsLyndon_ev (w.drop n) (by simp; omega)
    refine Ev_pos (by omega) (Ev_pos (by omega) (Ev_call _ g1 ?_))
    rw [split]
    cases b with
    | true =>
      rw [if_pos (g2.1 rfl)]
      exact Ev_pos rfl (Ev_pos (by simp; omega) (Ev_pos (by simp; omega) (Ev.now _)))
    | false =>
      have hn : ¬ LynIx (w.drop n) 0 (w.drop n).length := fun h => absurd (g2.2 h) (by simp)
      rw [if_neg hn, wsucc (n := n) (by omega)]
      refine Ev_neg (by simp) (ih (n + 1) (by omega) (by omega) ?_)
      apply Nat.one_le_iff_ne_zero.2
      intro e
      apply hn
      rw [show n = w.length - 1 by omega]
      exact last_lyndon w (by omega)

theorem spec_StandardSplit_l0 (w : List Int) (hb : w.length ≤ 1048576) (hl : LynIx w 0 w.length) (f : Nat) : ∀ n : Nat, 1 ≤ n → n + f = w.length →
    Ev (fun k => spec_StandardSplit.l0 k w (n : Int)) (split w f n) := by
  obtain ⟨b0, e1, e2⟩ := spec_IsLyndon_ev w hb
  have e3 := e2.2 hl
  subst e3
  induction f with
  | zero =>
    intro n h1 h2
    refine Ev_succ ?_
    simp only [spec_StandardSplit.l0]
    refine Ev_neg (by omega) (Ev_succ ?_)
    simp only [spec_StandardSplit.j1]
    exact Ev_neg (by simp) (Ev.now _)
  | succ f ih =>
    intro n h1 h2
    refine Ev_succ ?_
    simp only [spec_StandardSplit.l0]
    refine Ev_pos (by omega) (Ev_call _ e1 (Ev_succ ?_))
    simp only [spec_StandardSplit.j1, Option.bind_some, List.nil_append, List.length_nil, Int.toNat_natCast]
    obtain ⟨b, g1, g2⟩ := spec_IsLyndon_ev (w.drop n) (by simp; omega)
    refine Ev_pos (by simp) (Ev_pos (by omega) (Ev_pos (by omega) (Ev_call _ g1 ?_)))
    rw [split]
    cases b with
    | true =>
      rw [if_pos (g2.1 rfl)]
      exact Ev_pos rfl (Ev_pos (by simp; omega) (Ev_pos (by simp; omega) (Ev.now _)))
    | false =>
      have hn : ¬ LynIx (w.drop n) 0 (w.drop n).length := fun h => absurd (g2.2 h) (by simp)
      rw [if_neg hn, wsucc (n := n) (by omega)]
      exact Ev_neg (by simp) (ih (n + 1) (by omega) (by omega))

theorem both_StandardSplit (w : List Int) (hb : w.length ≤ 1048576) : ∃ r : List Int × List Int × Bool, r.1.length ≤ w.length ∧ r.2.1.length ≤ w.length ∧
    Ev (fun k => spec_StandardSplit.f k w) r ∧ Ev (fun k => impl_StandardSplit.f k w) r := by
  unfold spec_StandardSplit.f impl_StandardSplit.f
  obtain ⟨b, g1, g2⟩ := impl_IsLyndon_ev w hb
  obtain ⟨b0, e1, e2⟩ := spec_IsLyndon_ev w hb
  by_cases h : LynIx w 0 w.length
  · have hb1 := g2.2 h
    subst hb1
    by_cases h2 : w.length < 2
    · refine ⟨([], [], false), by simp, by simp, Ev_succ ?_, Ev_pos (by omega) (Ev_succ ?_)⟩
      · simp only [spec_StandardSplit.l0]
        refine Ev_neg (by omega) (Ev_succ ?_)
        simp only [spec_StandardSplit.j1]
        exact Ev_neg (by simp) (Ev.now _)
      · simp only [impl_StandardSplit.j0]
        exact Ev_pos (by simp) (Ev.now _)
    · refine ⟨split w (w.length - 1) 1, (split_sizes w _ _).1, (split_sizes w _ _).2, spec_StandardSplit_l0 w hb h _ 1 (by omega) (by omega), Ev_neg (by omega) (Ev_call _ g1 (Ev_succ ?_))⟩
      simp only [impl_StandardSplit.j0]
      exact Ev_neg (by simp) (impl_StandardSplit_l0 w hb _ 1 (by omega) (by omega) (by omega))
  · have hb1 : b = false := by
      cases b with
      | true => exact absurd (g2.1 rfl) h
      | false => rfl
    have hb2 : b0 = false := by
      cases b0 with
      | true => exact absurd (e2.1 rfl) h
      | false => rfl
    subst hb1
    subst hb2
    refine ⟨([], [], false), by simp, by simp, Ev_succ ?_, ?_⟩
    · simp only [spec_StandardSplit.l0]
      refine Ev_ite (fun _ => Ev_call _ e1 (Ev_succ ?_)) (fun _ => Ev_succ ?_)
      · simp only [spec_StandardSplit.j1]
        exact Ev_neg (by simp) (Ev.now _)
      · simp only [spec_StandardSplit.j1]
        exact Ev_neg (by simp) (Ev.now _)
    · refine Ev_ite (fun _ => Ev_succ ?_) (fun _ => Ev_call _ g1 (Ev_succ ?_))
      · simp only [impl_StandardSplit.j0]
        exact Ev_pos (by simp) (Ev.now _)
      · simp only [impl_StandardSplit.j0]
        exact Ev_pos (by simp) (Ev.now _)

theorem FnExactStandardSplit : laws_FnExactStandardSplit.Pure := by
  intro l _ _ _
  refine Ev.rounds ?_
  unfold laws_FnExactStandardSplit.f
  refine Ev_ite (fun _ => Ev.now _) (fun h => ?_)
  have hb : l.length ≤ 1048576 := by omega
  have t1 := laws_toIntS_ev l (by omega)
  obtain ⟨⟨r1, r2, r3⟩, s1, s2, h1, h2⟩ := both_StandardSplit l hb
  simp only [] at s1 s2
  repeat (first
    | exact Ev.now _
    | (refine Ev_call _ (by with_reducible assumption) ?_; try dsimp only)
    | (refine Ev_call _ (laws_markIntS_ev _ _ (by omega) (by omega) (by omega)) ?_; try dsimp only)
    | (refine Ev_call _ (laws_heldIntS_ev _ _ (by omega) (by omega) (by omega)) ?_; try dsimp only)
    | refine Ev_call _ (laws_eqIntS_ev _ _ (by omega)) ?_
    | (refine Ev_pos ?hc ?_; (case hc => first | with_reducible rfl | omega | (simp; done)))
    | (refine Ev_neg ?hc ?_; (case hc => first | omega | (simp; done)))
    | (refine Ev_succ ?_; simp only [laws_FnExactStandardSplit.j0, laws_FnExactStandardSplit.j1, laws_FnExactStandardSplit.j2]))

end Go.Proofs.Ytoaonfacjcienab.Pure
