/- The pure statement of FnLyndon: whatever words are drawn, the law's answer is true. -/
import Derived.Test.YtolikggioekalabVMFnLyndonx19
import Derived.Test.YtolikggioekalabVG0
import Derived.Test.YtolikggioekalabVGSized
import Derived.Test.YtolikggioekalabVGDuval
import Derived.Test.YtolikggioekalabVGPick
import Derived.Test.YtolikggioekalabVG9
import Derived.Test.YtolikggioekalabVG5
import Derived.Test.YtolikggioekalabVGConj
import Derived.Test.YtolikggioekalabVGSort
import Derived.Test.YtolikggioekalabVG6c
import Derived.Test.YtolikggioekalabVG6b
import Derived.Test.YtolikggioekalabVG6
import Derived.Test.YtolikggioekalabVG10
namespace Go.Proofs.Ytolikggioekalab.Pure
open Go.RowKit Go.Proofs.Ytolikggioekalab.PFnLyndon Go.Proofs.YtolikggioekalabW.PrintWords Go.Proofs.YtolikggioekalabW.PrintLast Go.Proofs.YtolikggioekalabW.PrintMore Go.Proofs.Ytolikggioekalab.G
set_option linter.unusedVariables false
set_option linter.unusedSimpArgs false

/-! ### laws_sameInts -/
theorem laws_sameInts_loop (a : List Int) (hb : a.length ≤ 17592186044416) (d : Nat) : ∀ n : Nat, n + d = a.length → Ev (fun k => laws_sameInts.l0 k a a (n : Int)) true := by
  induction d with
  | zero =>
    intro n h
    refine Ev_succ ?_
    simp only [laws_sameInts.l0]
    exact Ev_neg (by omega) (Ev.now _)
  | succ d ih =>
    intro n h
    refine Ev_succ ?_
    simp only [laws_sameInts.l0]
    rw [wsucc (n := n) (by omega)]
    exact Ev_pos (by omega) (Ev_pos (by omega) (Ev_pos (by omega) (Ev_pos (by simp) (ih (n + 1) (by omega)))))
theorem laws_sameInts_ev (a : List Int) (hb : a.length ≤ 17592186044416) : Ev (fun k => laws_sameInts.f k a a) true := by
  unfold laws_sameInts.f
  exact Ev_pos (by simp) (laws_sameInts_loop a hb _ 0 (Nat.zero_add _))

/-! ### laws_sameWords -/
theorem laws_sameWords_loop (a : List (List Int)) (hb : a.length ≤ 1048576) (hr : ∀ x ∈ a, x.length ≤ 1048576) (d : Nat) : ∀ n : Nat, n + d = a.length → Ev (fun k => laws_sameWords.l0 k a a (n : Int)) true := by
  induction d with
  | zero =>
    intro n h
    refine Ev_succ ?_
    simp only [laws_sameWords.l0]
    exact Ev_neg (by omega) (Ev.now _)
  | succ d ih =>
    intro n h
    refine Ev_succ ?_
    simp only [laws_sameWords.l0, rd_L1, Int.toNat_natCast]
    have hrow := hr (a.getD n []) (by rw [getD_eq (by omega)]; exact List.getElem_mem _)
    rw [wsucc (n := n) (by omega)]
    exact Ev_pos (by omega) (Ev_pos (by omega) (Ev_pos (by omega) (Ev_call _ (laws_sameInts_ev _ (by omega)) (Ev_pos rfl (ih (n + 1) (by omega))))))
theorem laws_sameWords_ev (a : List (List Int)) (hb : a.length ≤ 1048576) (hr : ∀ x ∈ a, x.length ≤ 1048576) : Ev (fun k => laws_sameWords.f k a a) true := by
  unfold laws_sameWords.f
  exact Ev_pos (by simp) (laws_sameWords_loop a hb hr _ 0 (Nat.zero_add _))

/-! ### dpos_facts -/
theorem dpos_facts (w : List Int) (i p : Nat) (hp : 1 ≤ p) (f : Nat) : ∀ a : Nat, (a ≤ i → i < a + f) → i + p ≤ w.length → a ≤ i + p →
    a + (dpos w i p f a).1.length ≤ (dpos w i p f a).2 ∧ (dpos w i p f a).2 ≤ i + p ∧ (1 ≤ f → a ≤ i → a < (dpos w i p f a).2) := by
  induction f with
  | zero => intro a h1 h2 h3; simp [dpos]; omega
  | succ f ih =>
    intro a h1 h2 h3
    rw [dpos]
    by_cases c : a ≤ i
    · rw [if_pos c]
      have := ih (a + p) (fun _ => by omega) h2 (by omega)
      simp only [List.length_cons]
      omega
    · rw [if_neg c]
      simp
      omega


theorem duv_length (w : List Int) (f : Nat) : ∀ a : Nat, a ≤ w.length → (duv w f a).length ≤ w.length - a := by
  induction f with
  | zero => intro a h; simp [duv]
  | succ f ih =>
    intro a h
    rw [duv]
    by_cases c : a < w.length
    · have he := dscan_end w a w.length a (a + 1) (DInv.start c) (by omega)
      rw [if_pos c]
      generalize hs : dscan w a w.length a (a + 1) = s at he
      have l1 := he.1.le
      have l2 := he.1.lt
      have l3 := he.1.len
      have hf := dpos_facts w s.1 (s.2 - s.1) (by omega) w.length a (fun _ => by omega) (by omega) (by omega)
      have := ih _ (show (dpos w s.1 (s.2 - s.1) w.length a).2 ≤ w.length by omega)
      rw [List.length_append]
      omega
    · rw [if_neg c]; simp

theorem dpos_rows (w : List Int) (i p : Nat) (f : Nat) : ∀ a : Nat, ∀ x ∈ (dpos w i p f a).1, x.length ≤ w.length := by
  induction f with
  | zero => intro a x hx; simp [dpos] at hx
  | succ f ih =>
    intro a x hx
    rw [dpos] at hx
    split at hx
    · rcases List.mem_cons.1 hx with rfl | hx
      · simp; omega
      · exact ih _ x hx
    · simp at hx

theorem duv_rows (w : List Int) (f : Nat) : ∀ a : Nat, ∀ x ∈ duv w f a, x.length ≤ w.length := by
  induction f with
  | zero => intro a x hx; simp [duv] at hx
  | succ f ih =>
    intro a x hx
    rw [duv] at hx
    split at hx
    · rcases List.mem_append.1 hx with hx | hx
      · exact dpos_rows _ _ _ _ _ x hx
      · exact ih _ x hx
    · simp at hx

/-! ### impl_lyndon -/
theorem impl_lyndon_l2 (w : List Int) (hb : w.length ≤ 1048576) (i j : Nat) (hij : i < j) (hj : j ≤ w.length) (r : List (List Int)) (f : Nat) : ∀ (a : Nat) (out : List (List Int)), i < a + f → a ≤ j → out.length ≤ a →
    Ev (fun k => impl_lyndon.l0 k w (out ++ (dpos w i (j - i) f a).1) (((dpos w i (j - i) f a).2 : Nat) : Int)) r →
    Ev (fun k => impl_lyndon.l2 k w out (a : Int) (i : Int) (j : Int)) r := by
  induction f with
  | zero =>
    intro a out h1 h2 h3 h4
    refine Ev_succ ?_
    simp only [impl_lyndon.l2]
    simp only [dpos, List.append_nil] at h4
    exact Ev_neg (by omega) h4
  | succ f ih =>
    intro a out h1 h2 h3 h4
    refine Ev_succ ?_
    simp only [impl_lyndon.l2]
    rw [dpos] at h4
    by_cases c : a ≤ i
    · rw [if_pos c] at h4
      rw [wnat (x := (a : Int) + j) (a + j) (by omega) (by omega), wnat (x := ((a + j : Nat) : Int) - i) (a + (j - i)) (by omega) (by omega), wnat (x := (j : Int) - i) (j - i) (by omega) (by omega), wnat (x := (a : Int) + ((j - i : Nat) : Int)) (a + (j - i)) (by omega) (by omega), Int.toNat_natCast, Int.toNat_natCast]
      refine Ev_pos (by omega) (Ev_pos (by omega) (Ev_pos (by omega) (Ev_pos (by omega) (Ev_pos (by omega) ?_))))
      refine ih (a + (j - i)) _ (by omega) (by omega) (by simp; omega) ?_
      simpa using h4
    · rw [if_neg c] at h4
      simp only [List.append_nil] at h4
      exact Ev_neg (by omega) h4

theorem impl_lyndon_l1 (w : List Int) (hb : w.length ≤ 1048576) (a : Nat) (out : List (List Int)) (r : List (List Int)) (f : Nat) : ∀ i j : Nat, i < j → a ≤ i → j ≤ w.length → w.length ≤ j + f →
    Ev (fun k => impl_lyndon.l2 k w out (a : Int) (((dscan w a f i j).1 : Nat) : Int) (((dscan w a f i j).2 : Nat) : Int)) r →
    Ev (fun k => impl_lyndon.l1 k w out (a : Int) (i : Int) (j : Int)) r := by
  induction f with
  | zero =>
    intro i j h1 h2 h3 h4 h5
    refine Ev_succ ?_
    simp only [impl_lyndon.l1]
    refine Ev_neg (by omega) (Ev_succ ?_)
    simp only [impl_lyndon.j2]
    exact Ev_neg (by simp) h5
  | succ f ih =>
    intro i j h1 h2 h3 h4 h5
    refine Ev_succ ?_
    simp only [impl_lyndon.l1]
    rw [dscan] at h5
    by_cases c : j < w.length
    · refine Ev_pos (by omega) (Ev_pos (by omega) (Ev_pos (by omega) (Ev_pos (by omega) (Ev_succ ?_))))
      simp only [impl_lyndon.j2]
      rw [rd_cast, rd_cast]
      by_cases c2 : w.getD i 0 ≤ w.getD j 0
      · rw [if_pos ⟨c, c2⟩] at h5
        refine Ev_pos (by simp only [decide_eq_true_eq]; exact c2) (Ev_pos (by omega) (Ev_pos (by omega) (Ev_pos (by omega) (Ev_pos (by omega) ?_))))
        rw [wsucc (n := i) (by omega), wsucc (n := j) (by omega)]
        by_cases c3 : w.getD i 0 < w.getD j 0
        · rw [if_pos c3] at h5
          exact Ev_pos c3 (ih a (j + 1) (by omega) (by omega) (by omega) (by omega) h5)
        · rw [if_neg c3] at h5
          exact Ev_neg c3 (ih (i + 1) (j + 1) (by omega) (by omega) (by omega) (by omega) h5)
      · rw [if_neg (by intro h; exact c2 h.2)] at h5
        exact Ev_neg (by simp only [decide_eq_true_eq]; exact c2) h5
    · rw [if_neg (by intro h; exact c h.1)] at h5
      refine Ev_neg (by omega) (Ev_succ ?_)
      simp only [impl_lyndon.j2]
      exact Ev_neg (by simp) h5

theorem impl_lyndon_l0 (w : List Int) (hb : w.length ≤ 1048576) (f : Nat) : ∀ (a : Nat) (out : List (List Int)), w.length ≤ a + f → a ≤ w.length → out.length ≤ a →
    Ev (fun k => impl_lyndon.l0 k w out (a : Int)) (out ++ duv w f a) := by
  induction f with
  | zero =>
    intro a out h1 h2 h3
    refine Ev_succ ?_
    simp only [impl_lyndon.l0]
    exact Ev_neg (by omega) (Ev_some (by simp [duv]))
  | succ f ih =>
    intro a out h1 h2 h3
    refine Ev_succ ?_
    simp only [impl_lyndon.l0]
    by_cases c : a < w.length
    · have he := dscan_end w a w.length a (a + 1) (DInv.start c) (by omega)
      rw [duv, if_pos c]
      generalize hs : dscan w a w.length a (a + 1) = s at he
      have l1 := he.1.le
      have l2 := he.1.lt
      have l3 := he.1.len
      have hf := dpos_facts w s.1 (s.2 - s.1) (by omega) w.length a (fun _ => by omega) (by omega) (by omega)
      rw [wsucc (n := a) (by omega)]
      refine Ev_pos (by omega) ?_
      refine impl_lyndon_l1 w hb a out _ w.length a (a + 1) (by omega) (by omega) (by omega) (by omega) ?_
      rw [hs]
      refine impl_lyndon_l2 w hb s.1 s.2 l2 l3 _ w.length a out (by omega) (by omega) h3 ?_
      rw [← List.append_assoc]
      exact ih _ _ (by omega) (by omega) (by simp; omega)
    · rw [duv, if_neg c]
      exact Ev_neg (by omega) (Ev_some (by simp))

theorem impl_lyndon_ev (w : List Int) (hb : w.length ≤ 1048576) : Ev (fun k => impl_lyndon.f k w) (duv w w.length 0) := by
  unfold impl_lyndon.f
  exact impl_lyndon_l0 w hb w.length 0 [] (by omega) (by omega) (by simp)

/-! ### impl_LyndonFactors -/
theorem impl_LyndonFactors_loop (l : List (List Int)) (hl : l.length ≤ 1048576) (hr : ∀ x ∈ l, x.length ≤ 1048576) (d : Nat) : ∀ n : Nat, n + d = l.length →
    Ev (fun k => impl_LyndonFactors.l0 k (l.take n) l (l.length : Int) (n : Int)) l := by
  induction d with
  | zero =>
    intro n h
    refine Ev_succ ?_
    simp only [impl_LyndonFactors.l0]
    refine Ev_neg (by omega) (Ev_some ?_)
    rw [List.take_of_length_le (by omega)]
  | succ d ih =>
    intro n h
    have hrow := hr (l.getD n []) (by rw [getD_eq (by omega)]; exact List.getElem_mem _)
    refine Ev_succ ?_
    simp only [impl_LyndonFactors.l0, rd_L1, Int.toNat_natCast]
    refine Ev_pos (by omega) (Ev_pos (by omega) (Ev_pos (by omega) (Ev_call _ (Ev.now _) (Ev_pos (by rw [List.length_nil]; omega) (Ev_pos (by rw [List.length_take]; omega) ?_)))))
    rw [wsucc (n := n) (by omega), List.nil_append, ← take_succ_getD l n [] (by omega)]
    exact ih (n + 1) (by omega)

theorem impl_LyndonFactors_ev (w : List Int) (hb : w.length ≤ 1048576) : Ev (fun k => impl_LyndonFactors.f k w) (duv w w.length 0) := by
  have h1 := duv_length w w.length 0 (by omega)
  have h2 := duv_rows w w.length 0
  unfold impl_LyndonFactors.f
  refine Ev_call _ (impl_lyndon_ev w hb) ?_
  have := impl_LyndonFactors_loop (duv w w.length 0) (by omega) (fun x hx => Nat.le_trans (h2 x hx) hb) _ 0 (Nat.zero_add _)
  simpa using this

/-! ### spec_LyndonFactors -/
theorem spec_LyndonFactors_l2 (w : List Int) (hb : w.length ≤ 1048576) (i j : Nat) (hij : i < j) (hj : j ≤ w.length) (r : List (List Int)) (f : Nat) : ∀ (a : Nat) (out : List (List Int)), i < a + f → a ≤ j → out.length ≤ a →
    Ev (fun k => spec_LyndonFactors.l0 k w (out ++ (dpos w i (j - i) f a).1) (((dpos w i (j - i) f a).2 : Nat) : Int)) r →
    Ev (fun k => spec_LyndonFactors.l2 k w out (a : Int) (j : Int) (i : Int)) r := by
  induction f with
  | zero =>
    intro a out h1 h2 h3 h4
    refine Ev_succ ?_
    simp only [spec_LyndonFactors.l2]
    simp only [dpos, List.append_nil] at h4
    exact Ev_neg (by omega) h4
  | succ f ih =>
    intro a out h1 h2 h3 h4
    refine Ev_succ ?_
    simp only [spec_LyndonFactors.l2]
    rw [dpos] at h4
    by_cases c : a ≤ i
    · rw [if_pos c] at h4
      rw [wnat (x := (a : Int) + j) (a + j) (by omega) (by omega), wnat (x := ((a + j : Nat) : Int) - i) (a + (j - i)) (by omega) (by omega), Int.toNat_natCast, Int.toNat_natCast]
      have hc : ((w.take (a + (j - i))).drop a).length ≤ w.length := by simp; omega
      refine Ev_pos (by omega) (Ev_call _ (Ev.now _) (Ev_pos (by omega) (Ev_pos (by omega) (Ev_pos (by omega) (Ev_pos (by rw [List.length_nil]; omega) (Ev_pos (by omega) ?_))))))
      rw [List.nil_append]
      refine ih (a + (j - i)) _ (by omega) (by omega) (by simp; omega) ?_
      simpa using h4
    · rw [if_neg c] at h4
      simp only [List.append_nil] at h4
      exact Ev_neg (by omega) h4

theorem spec_LyndonFactors_l1 (w : List Int) (hb : w.length ≤ 1048576) (a : Nat) (out : List (List Int)) (r : List (List Int)) (f : Nat) : ∀ i j : Nat, i < j → a ≤ i → j ≤ w.length → w.length ≤ j + f →
    Ev (fun k => spec_LyndonFactors.l2 k w out (a : Int) (((dscan w a f i j).2 : Nat) : Int) (((dscan w a f i j).1 : Nat) : Int)) r →
    Ev (fun k => spec_LyndonFactors.l1 k w out (a : Int) (j : Int) (i : Int)) r := by
  induction f with
  | zero =>
    intro i j h1 h2 h3 h4 h5
    refine Ev_succ ?_
    simp only [spec_LyndonFactors.l1]
    refine Ev_neg (by omega) (Ev_succ ?_)
    simp only [spec_LyndonFactors.j2]
    exact Ev_neg (by simp) h5
  | succ f ih =>
    intro i j h1 h2 h3 h4 h5
    refine Ev_succ ?_
    simp only [spec_LyndonFactors.l1]
    rw [dscan] at h5
    by_cases c : j < w.length
    · refine Ev_pos (by omega) (Ev_pos (by omega) (Ev_pos (by omega) (Ev_pos (by omega) (Ev_succ ?_))))
      simp only [spec_LyndonFactors.j2]
      rw [rd_cast, rd_cast]
      by_cases c2 : w.getD i 0 ≤ w.getD j 0
      · rw [if_pos ⟨c, c2⟩] at h5
        refine Ev_pos (by simp only [decide_eq_true_eq]; exact c2) (Ev_pos (by omega) (Ev_pos (by omega) (Ev_pos (by omega) (Ev_pos (by omega) ?_))))
        rw [wsucc (n := i) (by omega), wsucc (n := j) (by omega)]
        by_cases c3 : w.getD i 0 < w.getD j 0
        · rw [if_pos c3] at h5
          exact Ev_pos c3 (ih a (j + 1) (by omega) (by omega) (by omega) (by omega) h5)
        · rw [if_neg c3] at h5
          exact Ev_neg c3 (ih (i + 1) (j + 1) (by omega) (by omega) (by omega) (by omega) h5)
      · rw [if_neg (by intro h; exact c2 h.2)] at h5
        exact Ev_neg (by simp only [decide_eq_true_eq]; exact c2) h5
    · rw [if_neg (by intro h; exact c h.1)] at h5
      refine Ev_neg (by omega) (Ev_succ ?_)
      simp only [spec_LyndonFactors.j2]
      exact Ev_neg (by simp) h5

theorem spec_LyndonFactors_l0 (w : List Int) (hb : w.length ≤ 1048576) (f : Nat) : ∀ (a : Nat) (out : List (List Int)), w.length ≤ a + f → a ≤ w.length → out.length ≤ a →
    Ev (fun k => spec_LyndonFactors.l0 k w out (a : Int)) (out ++ duv w f a) := by
  induction f with
  | zero =>
    intro a out h1 h2 h3
    refine Ev_succ ?_
    simp only [spec_LyndonFactors.l0]
    exact Ev_neg (by omega) (Ev_some (by simp [duv]))
  | succ f ih =>
    intro a out h1 h2 h3
    refine Ev_succ ?_
    simp only [spec_LyndonFactors.l0]
    by_cases c : a < w.length
    · have he := dscan_end w a w.length a (a + 1) (DInv.start c) (by omega)
      rw [duv, if_pos c]
      generalize hs : dscan w a w.length a (a + 1) = s at he
      have l1 := he.1.le
      have l2 := he.1.lt
      have l3 := he.1.len
      have hf := dpos_facts w s.1 (s.2 - s.1) (by omega) w.length a (fun _ => by omega) (by omega) (by omega)
      rw [wsucc (n := a) (by omega)]
      refine Ev_pos (by omega) ?_
      refine spec_LyndonFactors_l1 w hb a out _ w.length a (a + 1) (by omega) (by omega) (by omega) (by omega) ?_
      rw [hs]
      refine spec_LyndonFactors_l2 w hb s.1 s.2 l2 l3 _ w.length a out (by omega) (by omega) h3 ?_
      rw [← List.append_assoc]
      exact ih _ _ (by omega) (by omega) (by simp; omega)
    · rw [duv, if_neg c]
      exact Ev_neg (by omega) (Ev_some (by simp))

theorem spec_LyndonFactors_ev (w : List Int) (hb : w.length ≤ 1048576) : Ev (fun k => spec_LyndonFactors.f k w) (duv w w.length 0) := by
  unfold spec_LyndonFactors.f
  exact spec_LyndonFactors_l0 w hb w.length 0 [] (by omega) (by omega) (by simp)

/-! ### impl_IsLyndon -/
theorem impl_IsLyndon_ev (w : List Int) (hb : w.length ≤ 1048576) : ∃ b : Bool, Ev (fun k => impl_IsLyndon.f k w) b ∧ (b = true ↔ LynIx w 0 w.length) := by
  unfold impl_IsLyndon.f
  by_cases h : w.length = 0
  · exact ⟨false, Ev_neg (by omega) (Ev.now _), ⟨fun h => absurd h (by simp), fun g => by have := g.1; omega⟩⟩
  · have he := dscan_end w 0 w.length 0 1 (DInv.start (by omega)) (by omega)
    have hl := impl_lyndon_ev w hb
    obtain ⟨m, hm⟩ : ∃ m, w.length = m + 1 := ⟨w.length - 1, by omega⟩
    have e : ∃ rest, duv w w.length 0 = (w.take (0 + ((dscan w 0 w.length 0 1).2 - (dscan w 0 w.length 0 1).1))).drop 0 :: rest := by
      conv => arg 1; ext rest; lhs; arg 2; rw [hm]
      rw [duv, if_pos (by omega)]
      conv => arg 1; ext rest; lhs; lhs; arg 1; arg 4; rw [hm]
      rw [dpos, if_pos (by have := he.1.le; exact this)]
      exact ⟨_, rfl⟩
    obtain ⟨rest, e⟩ := e
    rw [e] at hl
    generalize hs : dscan w 0 w.length 0 1 = s at he hl
    have l1 := he.1.le
    have l2 := he.1.lt
    have l3 := he.1.len
    refine ⟨_, Ev_pos (by omega) (Ev_call _ hl (Ev_pos (by simp) (Ev.now _))), ?_⟩
    rw [beq_iff_eq, ← he.whole]
    simp [rd_L1]
    omega

/-! ### spec_CompareWords -/
theorem spec_CompareWords_loop (u v : List Int) (hu : u.length ≤ 1048576) (d : Nat) : ∀ n : Nat, n + d = u.length → n ≤ v.length →
    Ev (fun k => spec_CompareWords.l0 k u v (n : Int)) (cmpW (u.drop n) (v.drop n)) := by
  induction d with
  | zero =>
    intro n h h2
    have hn : n = u.length := by omega
    subst hn
    refine Ev_succ ?_
    simp only [spec_CompareWords.l0]
    refine Ev_neg (by omega) (Ev_succ ?_)
    simp only [spec_CompareWords.j1]
    refine Ev_neg (by simp) ?_
    rw [List.drop_length, cmpW_nil_left]
    by_cases c : u.length < v.length
    · refine Ev_pos (by omega) (Ev_some ?_)
      rw [if_neg (by simp; omega)]
    · refine Ev_neg (by omega) (Ev_neg (by omega) (Ev_some ?_))
      rw [if_pos (by simp; omega)]
  | succ d ih =>
    intro n h h2
    refine Ev_succ ?_
    simp only [spec_CompareWords.l0]
    refine Ev_pos (by omega) (Ev_succ ?_)
    simp only [spec_CompareWords.j1]
    by_cases c : n < v.length
    · refine Ev_pos (by simp; omega) (Ev_pos (by omega) (Ev_pos (by omega) (Ev_pos (by omega) ?_)))
      rw [rd_cast, rd_cast, drop_cons u n 0 (by omega), drop_cons v n 0 c, cmpW_cons, wsucc (by omega)]
      refine Ev_ite (fun g => Ev_some ?_) (fun g => ?_)
      · rw [if_pos g]
      · rw [if_neg g]
        refine Ev_ite (fun g2 => Ev_some ?_) (fun g2 => ?_)
        · rw [if_pos g2]
        · rw [if_neg g2]
          exact ih (n + 1) (by omega) (by omega)
    · refine Ev_neg (by simp; omega) (Ev_neg (by omega) (Ev_pos (by omega) (Ev_some ?_)))
      rw [List.drop_eq_nil_of_le (show v.length ≤ n by omega), cmpW_nil_right, if_neg (by simp; omega)]

theorem spec_CompareWords_ev (u v : List Int) (hu : u.length ≤ 1048576) : Ev (fun k => spec_CompareWords.f k u v) (cmpW u v) := by
  unfold spec_CompareWords.f
  exact spec_CompareWords_loop u v hu _ 0 (Nat.zero_add _) (by omega)

/-! ### spec_IsLyndon -/
theorem spec_IsLyndon_loop (w : List Int) (hb : w.length ≤ 1048576) (d : Nat) : ∀ n : Nat, 1 ≤ n → w.length ≤ n + d → (∀ k, 1 ≤ k → k < n → k < w.length → cmpW w (w.drop k) < 0) →
    n ≤ w.length + 1 → ∃ b : Bool, Ev (fun k => spec_IsLyndon.l0 k w (n : Int)) b ∧ (b = true ↔ LynIx w 0 w.length) := by
  induction d with
  | zero =>
    intro n h1 h2 h3 h4
    refine ⟨decide ((w.length : Int) > 0), Ev_succ ?_, ?_⟩
    · simp only [spec_IsLyndon.l0]
      exact Ev_neg (by omega) (Ev.now _)
    · rw [decide_eq_true_eq, lynIx_iff]
      exact ⟨fun h => ⟨by omega, fun k g1 g2 => h3 k g1 (by omega) g2⟩, fun h => by omega⟩
  | succ d ih =>
    intro n h1 h2 h3 h4
    by_cases hlt : n < w.length
    · have ev := spec_CompareWords_ev w (w.drop n) hb
      by_cases c : cmpW w (w.drop n) ≥ 0
      · refine ⟨false, Ev_succ ?_, ⟨fun h => absurd h (by simp), fun h => ?_⟩⟩
        · simp only [spec_IsLyndon.l0]
          rw [Int.toNat_natCast]
          exact Ev_pos (by omega) (Ev_pos (by omega) (Ev_pos (by omega) (Ev_call _ ev (Ev_pos c (Ev.now _)))))
        · have := ((lynIx_iff w).1 h).2 n h1 hlt
          omega
      · obtain ⟨b, g1, g2⟩ := ih (n + 1) (by omega) (by omega) (fun k e1 e2 e3 => by
          by_cases e : k = n
          · subst e; omega
          · exact h3 k e1 (by omega) e3) (by omega)
        refine ⟨b, Ev_succ ?_, g2⟩
        simp only [spec_IsLyndon.l0]
        rw [Int.toNat_natCast, wsucc (n := n) (by omega)]
        exact Ev_pos (by omega) (Ev_pos (by omega) (Ev_pos (by omega) (Ev_call _ ev (Ev_neg c g1))))
    · refine ⟨decide ((w.length : Int) > 0), Ev_succ ?_, ?_⟩
      · simp only [spec_IsLyndon.l0]
        exact Ev_neg (by omega) (Ev.now _)
      · rw [decide_eq_true_eq, lynIx_iff]
        exact ⟨fun h => ⟨by omega, fun k g1 g2 => h3 k g1 (by omega) g2⟩, fun h => by omega⟩

theorem spec_IsLyndon_ev (w : List Int) (hb : w.length ≤ 1048576) : ∃ b : Bool, Ev (fun k => spec_IsLyndon.f k w) b ∧ (b = true ↔ LynIx w 0 w.length) := by
  unfold spec_IsLyndon.f
  exact spec_IsLyndon_loop w hb w.length 1 (by omega) (by omega) (fun k h1 h2 => by omega) (by omega)

/-! ### spec_l8Put -/
theorem spec_l8Put_loop (l : List (List Int)) (w : List Int) (hw : w.length ≤ 1048576) (hl : l.length ≤ 1048576) (d : Nat) : ∀ (n : Nat) (out : List (List Int)) (pl : Bool), n + d = l.length → out.length ≤ n + (if pl = true then 1 else 0) →
    Ev (fun k => spec_l8Put.l0 k l w out pl (n : Int)) (out ++ if pl = true then l.drop n else putW w (l.drop n)) := by
  induction d with
  | zero =>
    intro n out pl h1 h2
    have hn : n = l.length := by omega
    have h2' : out.length ≤ n + 1 := by split at h2 <;> omega
    refine Ev_succ ?_
    simp only [spec_l8Put.l0]
    refine Ev_neg (by omega) ?_
    rw [hn, List.drop_length]
    cases pl with
    | true => exact Ev_pos rfl (Ev_some (by simp))
    | false =>
      refine Ev_neg (by simp) ?_
      simp only [Option.bind_some]
      exact Ev_pos (by simp; omega) (Ev_pos (by omega) (Ev_some (by simp [putW])))
  | succ d ih =>
    intro n out pl h1 h2
    have h2' : out.length ≤ n + 1 := by split at h2 <;> omega
    refine Ev_succ ?_
    simp only [spec_l8Put.l0]
    refine Ev_pos (by omega) (Ev_pos (by omega) ?_)
    have hx : rd_L1 l (n : Int) = l.getD n [] := rfl
    rw [hx, drop_cons l n [] (by omega)]
    refine Ev_call _ (spec_CompareWords_ev w (l.getD n []) hw) ?_
    have step : ∀ (pl' : Bool) (out' : List (List Int)), out'.length ≤ n + 1 + (if pl' = true then 1 else 0) → Ev (fun k => spec_l8Put.l0 k l w out' pl' (wrap64 ((n : Int) + 1))) (out' ++ if pl' = true then l.drop (n + 1) else putW w (l.drop (n + 1))) := by
      intro pl' out' h
      rw [wsucc (by omega)]
      exact ih (n + 1) out' pl' (by omega) (by omega)
    by_cases c0 : cmpW w (l.getD n []) = 0
    · refine Ev_pos c0 (Ev_neg (by omega) (Ev_pos (by omega) (Ev_eq (step true _ (by simp; omega)) ?_)))
      rw [if_pos rfl, List.append_assoc]
      congr 1
      cases pl with
      | true => rfl
      | false => rw [if_neg (by simp), putW, if_neg (by omega), if_pos c0]; rfl
    · refine Ev_neg c0 ?_
      by_cases c1 : cmpW w (l.getD n []) < 0
      · refine Ev_pos c1 ?_
        cases pl with
        | true =>
          refine Ev_pos rfl (Ev_pos (by omega) (Ev_eq (step true _ (by simp; omega)) ?_))
          rw [if_pos rfl, if_pos rfl, List.append_assoc]
          rfl
        | false =>
          refine Ev_neg (by simp) ?_
          simp only [Option.bind_some]
          refine Ev_pos (by simp; omega) (Ev_pos (by omega) (Ev_pos (by simp; omega) (Ev_eq (step true _ (by simp at h2 ⊢; omega)) ?_)))
          rw [if_pos rfl, if_neg (by simp), putW, if_pos c1]
          simp
      · refine Ev_neg c1 (Ev_pos (by omega) (Ev_eq (step pl _ (by rw [List.length_append, List.length_singleton]; omega)) ?_))
        rw [List.append_assoc]
        congr 1
        cases pl with
        | true => rfl
        | false => rw [if_neg (by simp), if_neg (by simp), putW, if_neg c1, if_neg c0]; rfl

theorem spec_l8Put_ev (l : List (List Int)) (w : List Int) (hw : w.length ≤ 1048576) (hl : l.length ≤ 1048576) : Ev (fun k => spec_l8Put.f k l w) (putW w l) := by
  unfold spec_l8Put.f
  exact Ev_eq (spec_l8Put_loop l w hw hl l.length 0 [] false (by omega) (by simp)) (by simp)

/-! ### spec_ConjugatesOf -/
theorem spec_l11Turn_ev (w : List Int) (i : Nat) (hw : w.length ≤ 1048576) (hi : i ≤ w.length) : spec_l11Turn.f w (i : Int) = some (rot w i) := by
  unfold spec_l11Turn.f
  simp only [Option.bind_some]
  rw [if_pos (by omega), if_pos (by omega), Int.toNat_natCast, if_pos (by rw [List.length_nil, List.length_drop]; omega), if_pos (by rw [List.nil_append, List.length_drop, List.length_take]; omega)]
  rfl

theorem spec_ConjugatesOf_loop (w : List Int) (hw : w.length ≤ 64) (d : Nat) : ∀ i : Nat, i + d = w.length →
    Ev (fun k => spec_ConjugatesOf.l0 k w (canon (rotsTo w i)) (i : Int)) (conj w) := by
  induction d with
  | zero =>
    intro i h
    refine Ev_succ ?_
    simp only [spec_ConjugatesOf.l0]
    refine Ev_neg (by omega) (Ev_succ ?_)
    simp only [spec_ConjugatesOf.j1]
    refine Ev_neg (by simp) (Ev_some ?_)
    unfold conj
    rw [if_neg (by omega), show i = w.length by omega]
  | succ d ih =>
    intro i h
    refine Ev_succ ?_
    simp only [spec_ConjugatesOf.l0]
    refine Ev_pos (by omega) (Ev_succ ?_)
    simp only [spec_ConjugatesOf.j1]
    refine Ev_pos (by simp; omega) ?_
    simp only [spec_l11Turn_ev w i (by omega) (by omega), Option.bind_some]
    have h2 := canon_length (rotsTo w i)
    rw [rotsTo_length] at h2
    refine Ev_call _ (spec_l8Put_ev _ _ (by rw [rot_length]; omega) (by omega)) ?_
    rw [← canon_snoc, ← rotsTo_succ, wsucc (by omega)]
    exact ih (i + 1) (by omega)

theorem spec_ConjugatesOf_ev (w : List Int) (hb : w.length ≤ 1048576) : Ev (fun k => spec_ConjugatesOf.f k w) (conj w) := by
  unfold spec_ConjugatesOf.f
  by_cases h : w.length ≤ 64
  · exact spec_ConjugatesOf_loop w h w.length 0 (by omega)
  · refine Ev_succ ?_
    simp only [spec_ConjugatesOf.l0]
    have e : conj w = [] := by unfold conj; rw [if_pos (by omega)]
    rw [e]
    refine Ev_pos (by omega) (Ev_succ ?_)
    simp only [spec_ConjugatesOf.j1]
    exact Ev_neg (by simp; omega) (Ev.now _)

/-! ### impl_ConjugatesOf -/
theorem impl_different_ev2 (l : List (List Int)) (h : l.length < 4611686018427387904) : Ev (fun k => impl_different.f k l) (canon l) := by
  unfold impl_different.f
  exact Ev_pos h (Ev.now _)

theorem impl_ConjugatesOf_loop (w : List Int) (hw : w.length ≤ 64) (d : Nat) : ∀ i : Nat, i + d = w.length →
    Ev (fun k => impl_ConjugatesOf.l0 k w (rotsTo w i) (w.length : Int) (i : Int)) (conj w) := by
  induction d with
  | zero =>
    intro i h
    refine Ev_succ ?_
    simp only [impl_ConjugatesOf.l0]
    refine Ev_neg (by omega) (Ev_call _ (impl_different_ev2 _ (by rw [rotsTo_length]; omega)) (Ev_some ?_))
    unfold conj
    rw [if_neg (by omega), show i = w.length by omega]
  | succ d ih =>
    intro i h
    refine Ev_succ ?_
    simp only [impl_ConjugatesOf.l0, Option.bind_some]
    rw [Int.toNat_natCast]
    refine Ev_pos (by omega) (Ev_pos (by omega) (Ev_pos (by omega) (Ev_pos (by rw [List.length_nil, List.length_drop]; omega) (Ev_pos (by rw [List.nil_append, List.length_drop, List.length_take]; omega) (Ev_pos (by rw [rotsTo_length]; omega) ?_)))))
    have e : ([] ++ List.drop i w) ++ List.take i w = rot w i := rfl
    rw [e, ← rotsTo_succ, wsucc (by omega)]
    exact ih (i + 1) (by omega)

theorem impl_ConjugatesOf_ev (w : List Int) (hb : w.length ≤ 1048576) : Ev (fun k => impl_ConjugatesOf.f k w) (conj w) := by
  unfold impl_ConjugatesOf.f
  simp only [Option.bind_some]
  refine Ev_ite (fun h => Ev_some ?_) (fun h => ?_)
  · unfold conj; rw [if_pos (by omega)]
  · exact impl_ConjugatesOf_loop w (by omega) w.length 0 (by omega)

/-! ### LeastConjugate -/
def leastC (w : List Int) : List Int := if (conj w).length = 0 then w else (conj w).getD 0 []
theorem spec_LeastConjugate_ev (w : List Int) (hb : w.length ≤ 1048576) : Ev (fun k => spec_LeastConjugate.f k w) (leastC w) := by
  unfold spec_LeastConjugate.f leastC
  refine Ev_call _ (spec_ConjugatesOf_ev w hb) ?_
  refine Ev_ite (fun h => ?_) (fun h => Ev_pos (by omega) (Ev_some ?_))
  · simp only [Option.bind_some]
    exact Ev_pos (by rw [List.length_nil]; omega) (Ev_some (by rw [if_pos (by omega)]; rfl))
  · rw [if_neg (by omega)]; rfl
theorem impl_LeastConjugate_ev (w : List Int) (hb : w.length ≤ 1048576) : Ev (fun k => impl_LeastConjugate.f k w) (leastC w) := by
  unfold impl_LeastConjugate.f leastC
  refine Ev_call _ (impl_ConjugatesOf_ev w hb) ?_
  refine Ev_ite (fun h => ?_) (fun h => Ev_pos (by omega) (Ev_some ?_))
  · simp only [Option.bind_some]
    exact Ev_pos (by rw [List.length_nil]; omega) (Ev_some (by rw [if_pos (by omega)]; rfl))
  · rw [if_neg (by omega)]; rfl
theorem leastC_length (w : List Int) : (leastC w).length = w.length := by
  unfold leastC
  split
  · rfl
  · rename_i h
    rw [getD_eq (by omega)]
    exact (conj_rows w).2 _ (List.getElem_mem _)

/-! ### spec_l9Borders -/
theorem spec_l9Borders_l1 (w : List Int) (hb : w.length ≤ 1048576) (n : Nat) (hn : 1 ≤ n) (hl : n < w.length) (out : List Int) (ho : out.length = n) (ho2 : ∀ m, m < n → out.getD m 0 = ((lb w (m + 1) : Nat) : Int)) (r : List Int)
    (hx : Ev (fun k => spec_l9Borders.l0 k w (out ++ [((lb w (n + 1) : Nat) : Int)]) ((lb w (n + 1) : Nat) : Int) ((n + 1 : Nat) : Int)) r) :
    ∀ k : Nat, Cand w (n + 1) (k + 1) → Ev (fun f => spec_l9Borders.l1 f w out (k : Int) (n : Int)) r := by
  intro k
  induction k using Nat.strongRecOn with
  | _ k ih =>
    intro hc
    have hkn : k < n := by have := hc.2.1; simp at this; omega
    refine Ev_succ ?_
    simp only [spec_l9Borders.l1]
    rw [rd_cast, rd_cast, wsucc (n := k) (by omega), wsucc (n := n) (by omega)]
    by_cases k0 : k = 0
    · subst k0
      refine Ev_neg (by omega) (Ev_pos (by omega) (Ev_pos (by omega) (Ev_pos (by omega) (Ev_pos (by omega) ?_))))
      by_cases he : w.getD n 0 = w.getD 0 0
      · have e := lb_of_cand (by omega) (by omega) hc (Or.inr (by simpa using he.symm))
        rw [e] at hx
        exact Ev_pos he (Ev_pos (by omega) hx)
      · have hnx := hc.next (by omega) (by omega) (by simpa using fun h => he h.symm)
        rw [if_pos rfl] at hnx
        have e := lb_of_cand (by omega) (by omega) hnx (Or.inl rfl)
        rw [e] at hx
        exact Ev_neg he (Ev_pos (by omega) hx)
    · refine Ev_pos (by omega) (Ev_pos (by omega) (Ev_pos (by omega) (Ev_pos (by omega) (Ev_pos (by omega) ?_))))
      by_cases he : w.getD n 0 = w.getD k 0
      · have e := lb_of_cand (by omega) (by omega) hc (Or.inr (by simpa using he.symm))
        rw [e] at hx
        exact Ev_pos he (Ev_pos (by omega) hx)
      · have hnx := hc.next (by omega) (by omega) (by simpa using fun h => he h.symm)
        rw [if_neg k0] at hnx
        have hlt := lb_lt w k (by omega) (by omega)
        have := ih _ (by omega) hnx
        rw [wnat (x := (k : Int) - 1) (k - 1) (by omega) (by omega), rd_cast, ho2 (k - 1) (by omega), show k - 1 + 1 = k by omega]
        exact Ev_neg he (Ev_pos (by omega) (Ev_pos (by omega) this))

theorem spec_l9Borders_l0 (w : List Int) (hb : w.length ≤ 1048576) (d : Nat) : ∀ (n : Nat) (out : List Int), 1 ≤ n → n + d = w.length → out.length = n → (∀ m, m < n → out.getD m 0 = ((lb w (m + 1) : Nat) : Int)) →
    ∃ r, r.length = w.length ∧ (∀ m, m < w.length → r.getD m 0 = ((lb w (m + 1) : Nat) : Int)) ∧ Ev (fun k => spec_l9Borders.l0 k w out ((lb w n : Nat) : Int) (n : Int)) r := by
  induction d with
  | zero =>
    intro n out h1 h h2 h3
    have : n = w.length := by omega
    subst this
    refine ⟨out, h2, h3, Ev_succ ?_⟩
    simp only [spec_l9Borders.l0]
    exact Ev_neg (by omega) (Ev.now _)
  | succ d ih =>
    intro n out h1 h h2 h3
    obtain ⟨r, g1, g2, g3⟩ := ih (n + 1) (out ++ [((lb w (n + 1) : Nat) : Int)]) (by omega) (by omega) (by simp; omega) (fun m hm => by
      by_cases e : m = n
      · subst e; rw [getD_append_right _ _ _ _ (by omega), h2]; simp
      · rw [getD_append_left _ _ _ _ (by omega)]; exact h3 m (by omega))
    refine ⟨r, g1, g2, Ev_succ ?_⟩
    simp only [spec_l9Borders.l0]
    refine Ev_pos (by omega) (Ev_neg (by omega) ?_)
    have hc := Cand.first (w := w) (n + 1) (by omega) (by omega)
    rw [if_neg (by omega), Nat.add_sub_cancel] at hc
    exact spec_l9Borders_l1 w hb n h1 (by omega) out h2 h3 r g3 _ hc

theorem spec_l9Borders_ev (w : List Int) (hb : w.length ≤ 1048576) : ∃ r, r.length = w.length ∧ (∀ m, m < w.length → r.getD m 0 = ((lb w (m + 1) : Nat) : Int)) ∧ Ev (fun k => spec_l9Borders.f k w) r := by
  unfold spec_l9Borders.f
  by_cases h : w.length = 0
  · refine ⟨[], by simp [h], fun m hm => by omega, Ev_succ ?_⟩
    simp only [spec_l9Borders.l0]
    exact Ev_neg (by omega) (Ev.now _)
  · have e1 : lb w 1 = 0 := by have := lb_lt w 1 (by omega) (by omega); omega
    obtain ⟨r, g1, g2, g3⟩ := spec_l9Borders_l0 w hb (w.length - 1) 1 [0] (by omega) (by omega) rfl (fun m hm => by
      have : m = 0 := by omega
      subst this; rw [e1]; rfl)
    refine ⟨r, g1, g2, Ev_succ ?_⟩
    simp only [spec_l9Borders.l0]
    rw [e1] at g3
    rw [show wrap64 (0 + 1) = ((1 : Nat) : Int) from by unfold wrap64; rfl]
    exact Ev_pos (by omega) (Ev_pos trivial (Ev_pos (by simp) g3))

/-! ### spec_BordersOf -/
theorem spec_BordersOf_loop (w : List Int) (hb : w.length ≤ 1048576) (b : List Int) (hb1 : b.length = w.length) (hb2 : ∀ m, m < w.length → b.getD m 0 = ((lb w (m + 1) : Nat) : Int)) :
    ∀ (n : Nat) (acc : List Int), n ≤ w.length → acc.length + n ≤ w.length → Ev (fun k => spec_BordersOf.l0 k acc b (n : Int)) (bc w n n ++ acc) := by
  intro n
  induction n using Nat.strongRecOn with
  | _ n ih =>
    intro acc hn ha
    refine Ev_succ ?_
    simp only [spec_BordersOf.l0]
    by_cases n0 : n = 0
    · subst n0
      exact Ev_neg (by omega) (Ev_some (by simp [bc]))
    · have hlt := lb_lt w n (by omega) hn
      rw [wnat (x := (n : Int) - 1) (n - 1) (by omega) (by omega), rd_cast, hb2 (n - 1) (by omega), show n - 1 + 1 = n by omega]
      simp only [Option.bind_some]
      refine Ev_pos (by omega) (Ev_pos (by omega) (Ev_pos (by omega) (Ev_pos (by simp; omega) ?_)))
      refine Ev_eq (ih (lb w n) hlt _ (by omega) (by simp; omega)) ?_
      rw [bc_step w n (by omega) hn]
      simp

theorem spec_BordersOf_ev (w : List Int) (hb : w.length ≤ 1048576) : Ev (fun k => spec_BordersOf.f k w) (bc w w.length w.length) := by
  unfold spec_BordersOf.f
  obtain ⟨r, h1, h2, h3⟩ := spec_l9Borders_ev w hb
  exact Ev_call _ h3 (Ev_eq (spec_BordersOf_loop w hb r h1 h2 w.length [] (by omega) (by simp)) (by simp))

/-! ### spec_PeriodsOf -/
theorem spec_PeriodsOf_loop (w : List Int) (hb : w.length ≤ 1048576) (b : List Int) (hl : b.length ≤ 1048576) (hx : ∀ x ∈ b, 0 ≤ x ∧ x < w.length) :
    ∀ (n : Nat) (acc : List Int), n ≤ b.length → acc.length + n ≤ b.length →
    Ev (fun k => spec_PeriodsOf.l0 k w acc b ((n : Int) - 1)) (acc ++ ((b.take n).map fun x => (w.length : Int) - x).reverse) := by
  intro n
  induction n with
  | zero =>
    intro acc h1 h2
    refine Ev_succ ?_
    simp only [spec_PeriodsOf.l0]
    exact Ev_neg (by omega) (Ev_some (by simp))
  | succ n ih =>
    intro acc h1 h2
    refine Ev_succ ?_
    simp only [spec_PeriodsOf.l0]
    rw [show ((n + 1 : Nat) : Int) - 1 = (n : Int) by omega, rd_cast, w64 (n := (n : Int) - 1) (by omega) (by omega)]
    have hm := hx (b.getD n 0) (by rw [getD_eq (by omega)]; exact List.getElem_mem _)
    rw [w64 (n := (w.length : Int) - b.getD n 0) (by omega) (by omega)]
    refine Ev_pos (by omega) (Ev_pos (by omega) (Ev_pos (by omega) (Ev_pos (by omega) ?_)))
    refine Ev_eq (ih _ (by omega) (by simp; omega)) ?_
    rw [take_succ_getD b n 0 (by omega)]
    simp

theorem spec_PeriodsOf_ev (w : List Int) (hb : w.length ≤ 1048576) : Ev (fun k => spec_PeriodsOf.f k w) (pers w) := by
  unfold spec_PeriodsOf.f
  have hl := bc_length w w.length w.length
  refine Ev_call _ (spec_BordersOf_ev w hb) ?_
  rw [w64 (by omega) (by omega)]
  refine Ev_eq (spec_PeriodsOf_loop w hb _ (by omega) (bc_bounds w _ _ (by omega)) _ [] (Nat.le_refl _) (by simp)) ?_
  rw [List.take_length]
  rfl

/-! ### spec_LeastPeriod -/
theorem spec_LeastPeriod_ev (w : List Int) (hb : w.length ≤ 1048576) : Ev (fun k => spec_LeastPeriod.f k w) (lper w) := by
  unfold spec_LeastPeriod.f
  refine Ev_call _ (spec_PeriodsOf_ev w hb) ?_
  unfold pers lper
  by_cases h : w.length = 0
  · rw [h, if_pos rfl]
    exact Ev_pos (by simp [bc]) (Ev.now _)
  · rw [if_neg h, bc_step w w.length (by omega) (by omega)]
    refine Ev_neg (by simp; omega) (Ev_pos (by simp) (Ev_some ?_))
    simp [rd]

/-! ### spec_RootOf -/
theorem spec_RootOf_ev (w : List Int) (hb : w.length ≤ 1048576) : Ev (fun k => spec_RootOf.f k w) (rootW w) := by
  unfold spec_RootOf.f
  refine Ev_call _ (spec_LeastPeriod_ev w hb) ?_
  simp only [Option.bind_some, List.nil_append, List.length_nil]
  by_cases h : w.length = 0
  · refine Ev_pos (by omega) (Ev_pos (by omega) (Ev_some ?_))
    rw [rootW_empty w h]
  · have hp := lper_bounds w (by omega)
    refine Ev_neg (by omega) (Ev_neg (by omega) ?_)
    by_cases c : (w.length : Int) % lper w = 0
    · refine Ev_pos c (Ev_pos (by omega) (Ev_pos (by omega) (Ev_pos (by simp; omega) (Ev_some ?_))))
      rw [rootW, if_neg h, if_pos c]
    · refine Ev_neg c (Ev_pos (by omega) (Ev_some ?_))
      rw [rootW, if_neg h, if_neg c]

/-! ### counts -/
theorem cl_mobius : ∀ k x y z, spec_l11Mobius.l0 k x y z = impl_moebius.l0 k x y z := by
  intro k
  induction k with
  | zero => intro x y z; rfl
  | succ k ih => intro x y z; simp only [spec_l11Mobius.l0, impl_moebius.l0, ih]

theorem cl_power : ∀ k x n a i, spec_l11Power.l0 k x n a i = impl_power.l0 k x a n i := by
  intro k
  induction k with
  | zero => intro x n a i; rfl
  | succ k ih => intro x n a i; simp only [spec_l11Power.l0, impl_power.l0, ih]

theorem cl_count : ∀ k x n s d, spec_CountLyndon.l0 k x n s d = impl_CountLyndon.l0 k x n s d := by
  intro k
  induction k with
  | zero => intro x n s d; simp only [spec_CountLyndon.l0, impl_CountLyndon.l0]
  | succ k ih => intro x n s d; simp only [spec_CountLyndon.l0, impl_CountLyndon.l0, ih, spec_l11Mobius.f, impl_moebius.f, spec_l11Power.f, impl_power.f, cl_mobius, cl_power]

theorem cl_ends : ∀ a : Fin 4, ∀ b : Fin 20, ((impl_CountLyndon.l0 64 ((a.val : Int) + 1) ((b.val : Int) + 1) 0 1).isSome && (impl_CountLyndon.l0 65 ((a.val : Int) + 1) ((b.val : Int) + 1) 0 1 == impl_CountLyndon.l0 64 ((a.val : Int) + 1) ((b.val : Int) + 1) 0 1)) = true := by decide +kernel

theorem both_CountLyndon (a0 a1 : Int) : ∃ k r, spec_CountLyndon.f k a0 a1 = some r ∧ impl_CountLyndon.f k a0 a1 = some r := by
  have e1 : ∀ x a b, spec_l1In.f x a b = some (decide (a ≤ x ∧ x ≤ b)) := by
    intro x a b
    unfold spec_l1In.f
    by_cases h : x ≥ a
    · rw [if_pos h]; simp [h]
    · rw [if_neg h]; congr 1; symm; rw [decide_eq_false_iff_not]; omega
  unfold spec_CountLyndon.f impl_CountLyndon.f
  simp only [e1, Option.bind_some]
  by_cases h0 : 1 ≤ a0 ∧ a0 ≤ 4
  · by_cases h1 : 1 ≤ a1 ∧ a1 ≤ 20
    · have h := cl_ends ⟨(a0 - 1).toNat, by omega⟩ ⟨(a1 - 1).toNat, by omega⟩
      simp only [] at h
      rw [show (((a0 - 1).toNat : Nat) : Int) + 1 = a0 by omega, show (((a1 - 1).toNat : Nat) : Int) + 1 = a1 by omega, Bool.and_eq_true, beq_iff_eq] at h
      obtain ⟨r, hr⟩ := Option.isSome_iff_exists.1 h.1
      refine ⟨65, r, ?_, ?_⟩
      · rw [if_pos (decide_eq_true h0), decide_eq_true h1]
        simp only [spec_CountLyndon.j0]
        rw [if_neg (by simp), cl_count]
        exact hr
      · rw [if_neg (by omega), if_neg (by omega), if_neg (by omega), if_neg (by omega)]
        rw [h.2]
        exact hr
    · refine ⟨1, -1, ?_, ?_⟩
      · rw [if_pos (decide_eq_true h0), decide_eq_false h1]
        simp only [spec_CountLyndon.j0]
        rw [if_pos (by simp)]
      · rw [if_neg (by omega), if_neg (by omega)]
        by_cases c : a1 < 1
        · rw [if_pos c]
        · rw [if_neg c, if_pos (by omega)]
  · refine ⟨1, -1, ?_, ?_⟩
    · rw [if_neg (by rw [decide_eq_true_eq]; exact h0)]
      simp only [spec_CountLyndon.j0]
      rw [if_pos (by simp)]
    · by_cases c : a0 < 1
      · rw [if_pos c]
      · rw [if_neg c, if_pos (by omega)]
/-- Every case in which there is something to count, by computing. -/
theorem cn_all : ∀ a : Fin 4, ∀ b : Fin 20, ((spec_CountNecklaces.f 64 ((a.val : Int) + 1) ((b.val : Int) + 1)).isSome && (spec_CountNecklaces.f 64 ((a.val : Int) + 1) ((b.val : Int) + 1) == impl_CountNecklaces.f 64 ((a.val : Int) + 1) ((b.val : Int) + 1))) = true := by decide +kernel

theorem both_CountNecklaces (a0 a1 : Int) : ∃ k r, spec_CountNecklaces.f k a0 a1 = some r ∧ impl_CountNecklaces.f k a0 a1 = some r := by
  have e1 : ∀ x a b, spec_l1In.f x a b = some (decide (a ≤ x ∧ x ≤ b)) := by
    intro x a b
    unfold spec_l1In.f
    by_cases h : x ≥ a
    · rw [if_pos h]; simp [h]
    · rw [if_neg h]; congr 1; symm; rw [decide_eq_false_iff_not]; omega
  by_cases h0 : (1 ≤ a0 ∧ a0 ≤ 4) ∧ 1 ≤ a1 ∧ a1 ≤ 20
  · have h := cn_all ⟨(a0 - 1).toNat, by omega⟩ ⟨(a1 - 1).toNat, by omega⟩
    simp only [] at h
    rw [show (((a0 - 1).toNat : Nat) : Int) + 1 = a0 by omega, show (((a1 - 1).toNat : Nat) : Int) + 1 = a1 by omega, Bool.and_eq_true, beq_iff_eq] at h
    obtain ⟨r, hr⟩ := Option.isSome_iff_exists.1 h.1
    exact ⟨64, r, hr, by rw [← h.2]; exact hr⟩
  · refine ⟨1, -1, ?_, ?_⟩
    · unfold spec_CountNecklaces.f
      simp only [e1, Option.bind_some]
      by_cases c : 1 ≤ a0 ∧ a0 ≤ 4
      · rw [if_pos (decide_eq_true c), decide_eq_false (by omega)]
        simp only [spec_CountNecklaces.j0]
        rw [if_pos (by simp)]
      · rw [if_neg (by rw [decide_eq_true_eq]; exact c)]
        simp only [spec_CountNecklaces.j0]
        rw [if_pos (by simp)]
    · unfold impl_CountNecklaces.f
      by_cases c1 : a0 < 1
      · rw [if_pos c1]
      · rw [if_neg c1]
        by_cases c2 : a0 > 4
        · rw [if_pos c2]
        · rw [if_neg c2]
          by_cases c3 : a1 < 1
          · rw [if_pos c3]
          · rw [if_neg c3, if_pos (by omega)]
theorem cl_mono_l : ∀ k a b s d, LeO (impl_CountLyndon.l0 k a b s d) (impl_CountLyndon.l0 (k + 1) a b s d)
  | 0 => fun _ _ _ _ r h => by simp [impl_CountLyndon.l0] at h
  | k + 1 => by
    have ih := cl_mono_l k
    intro a b s d
    unfold impl_CountLyndon.l0
    repeat' first
      | (with_reducible exact ih _ _ _ _)
      | (with_reducible exact impl_moebius.mono _ _)
      | (with_reducible exact impl_power.mono _ _ _)
      | (with_reducible exact LeO.refl _)
      | (with_reducible exact LeO.none _)
      | (with_reducible refine LeO.ite ?_ ?_)
      | (with_reducible refine LeO.bind ?_ (fun _ => ?_))
theorem cl_mono (a b : Int) (k : Nat) : LeO (impl_CountLyndon.f k a b) (impl_CountLyndon.f (k + 1) a b) := by
  unfold impl_CountLyndon.f
  repeat' first
    | (with_reducible exact cl_mono_l _ _ _ _ _)
    | (with_reducible exact LeO.refl _)
    | (with_reducible refine LeO.ite ?_ ?_)
theorem cn_mono_l : ∀ k a b s d, LeO (impl_CountNecklaces.l0 k a b s d) (impl_CountNecklaces.l0 (k + 1) a b s d)
  | 0 => fun _ _ _ _ r h => by simp [impl_CountNecklaces.l0] at h
  | k + 1 => by
    have ih := cn_mono_l k
    intro a b s d
    unfold impl_CountNecklaces.l0
    repeat' first
      | (with_reducible exact ih _ _ _ _)
      | (with_reducible exact impl_totient.mono _ _)
      | (with_reducible exact impl_power.mono _ _ _)
      | (with_reducible exact LeO.refl _)
      | (with_reducible exact LeO.none _)
      | (with_reducible refine LeO.ite ?_ ?_)
      | (with_reducible refine LeO.bind ?_ (fun _ => ?_))
theorem cn_mono (a b : Int) (k : Nat) : LeO (impl_CountNecklaces.f k a b) (impl_CountNecklaces.f (k + 1) a b) := by
  unfold impl_CountNecklaces.f
  repeat' first
    | (with_reducible exact cn_mono_l _ _ _ _ _)
    | (with_reducible exact LeO.refl _)
    | (with_reducible refine LeO.ite ?_ ?_)

/-! ### both_StandardSplit -/
open Classical in
/-- The split at the first place from n on behind which a Lyndon word stands. -/
noncomputable def split (w : List Int) : Nat → Nat → List Int × List Int × Bool
  | 0, _ => ([], [], false)
  | f + 1, n => if LynIx (w.drop n) 0 (w.drop n).length then (w.take n, w.drop n, true) else split w f (n + 1)

theorem last_lyndon (w : List Int) (h : 1 ≤ w.length) : LynIx (w.drop (w.length - 1)) 0 (w.drop (w.length - 1)).length := by
  have hl : (w.drop (w.length - 1)).length = 1 := by simp; omega
  rw [hl]
  exact ⟨by omega, fun k h1 h2 => by omega⟩

theorem split_sizes (w : List Int) (f : Nat) : ∀ n, (split w f n).1.length ≤ w.length ∧ (split w f n).2.1.length ≤ w.length := by
  induction f with
  | zero => intro n; simp [split]
  | succ f ih =>
    intro n
    rw [split]
    split
    · simp; omega
    · exact ih (n + 1)

theorem impl_StandardSplit_l0 (w : List Int) (hb : w.length ≤ 1048576) (f : Nat) : ∀ n : Nat, 1 ≤ n → n + f = w.length → 1 ≤ f →
    Ev (fun k => impl_StandardSplit.l0 k w (n : Int)) (split w f n) := by
  induction f with
  | zero => intro n _ _ h; omega
  | succ f ih =>
    intro n h1 h2 _
    refine Ev_succ ?_
    simp only [impl_StandardSplit.l0, Option.bind_some, List.nil_append, List.length_nil, Int.toNat_natCast]
    obtain ⟨b, g1, g2⟩ := impl_IsLyndon_ev (w.drop n) (by simp; omega)
    refine Ev_pos (by omega) (Ev_pos (by omega) (Ev_call _ g1 ?_))
    rw [split]
    cases b with
    | true =>
      rw [if_pos (g2.1 rfl)]
      exact Ev_pos rfl (Ev_pos (by simp; omega) (Ev_pos (by simp; omega) (Ev.now _)))
    | false =>
      have hn : ¬ LynIx (w.drop n) 0 (w.drop n).length := fun h => absurd (g2.2 h) (by simp)
      rw [if_neg hn, wsucc (n := n) (by omega)]
      refine Ev_neg (by simp) (ih (n + 1) (by omega) (by omega) ?_)
      apply Nat.one_le_iff_ne_zero.2
      intro e
      apply hn
      rw [show n = w.length - 1 by omega]
      exact last_lyndon w (by omega)

theorem spec_StandardSplit_l0 (w : List Int) (hb : w.length ≤ 1048576) (hl : LynIx w 0 w.length) (f : Nat) : ∀ n : Nat, 1 ≤ n → n + f = w.length →
    Ev (fun k => spec_StandardSplit.l0 k w (n : Int)) (split w f n) := by
  obtain ⟨b0, e1, e2⟩ := spec_IsLyndon_ev w hb
  have e3 := e2.2 hl
  subst e3
  induction f with
  | zero =>
    intro n h1 h2
    refine Ev_succ ?_
    simp only [spec_StandardSplit.l0]
    refine Ev_neg (by omega) (Ev_succ ?_)
    simp only [spec_StandardSplit.j1]
    exact Ev_neg (by simp) (Ev.now _)
  | succ f ih =>
    intro n h1 h2
    refine Ev_succ ?_
    simp only [spec_StandardSplit.l0]
    refine Ev_pos (by omega) (Ev_call _ e1 (Ev_succ ?_))
    simp only [spec_StandardSplit.j1, Option.bind_some, List.nil_append, List.length_nil, Int.toNat_natCast]
    obtain ⟨b, g1, g2⟩ := spec_IsLyndon_ev (w.drop n) (by simp; omega)
    refine Ev_pos (by simp) (Ev_pos (by omega) (Ev_pos (by omega) (Ev_call _ g1 ?_)))
    rw [split]
    cases b with
    | true =>
      rw [if_pos (g2.1 rfl)]
      exact Ev_pos rfl (Ev_pos (by simp; omega) (Ev_pos (by simp; omega) (Ev.now _)))
    | false =>
      have hn : ¬ LynIx (w.drop n) 0 (w.drop n).length := fun h => absurd (g2.2 h) (by simp)
      rw [if_neg hn, wsucc (n := n) (by omega)]
      exact Ev_neg (by simp) (ih (n + 1) (by omega) (by omega))

theorem split_at (w : List Int) (f : Nat) : ∀ n : Nat, 1 ≤ n → n + f = w.length → 1 ≤ f → ∃ m, n ≤ m ∧ m < w.length ∧ split w f n = (w.take m, w.drop m, true) ∧ LynIx (w.drop m) 0 (w.drop m).length ∧ ∀ s, n ≤ s → s < m → ¬ LynIx (w.drop s) 0 (w.drop s).length := by
  induction f with
  | zero => intro n _ _ h; omega
  | succ f ih =>
    intro n h1 h2 _
    rw [split]
    by_cases c : LynIx (w.drop n) 0 (w.drop n).length
    · rw [if_pos c]
      exact ⟨n, Nat.le_refl _, by omega, rfl, c, fun s h3 h4 => by omega⟩
    · rw [if_neg c]
      by_cases hf : f = 0
      · exact absurd (by rw [show n = w.length - 1 by omega]; exact last_lyndon w (by omega)) c
      · obtain ⟨m, g1, g2, g3, g4, g5⟩ := ih (n + 1) (by omega) (by omega) (by omega)
        refine ⟨m, by omega, g2, g3, g4, fun s h3 h4 => ?_⟩
        by_cases e : s = n
        · subst e; exact c
        · exact g5 s (by omega) h4
theorem split_good {w : List Int} (hl : LynIx w 0 w.length) (h2 : 2 ≤ w.length) : (split w (w.length - 1) 1).2.2 = true ∧ Lyn (split w (w.length - 1) 1).1 ∧ Lyn (split w (w.length - 1) 1).2.1 ∧ cmpW (split w (w.length - 1) 1).1 (split w (w.length - 1) 1).2.1 < 0 := by
  obtain ⟨m, g1, g2, g3, g4, g5⟩ := split_at w (w.length - 1) 1 (Nat.le_refl _) (by omega) (by omega)
  obtain ⟨a1, a2⟩ := split_lyn ((lyn_iff w).2 hl) (show 0 < m by omega) g2 ((lyn_iff _).2 g4) (fun s h3 h4 h5 => g5 s (by omega) h4 ((lyn_iff _).1 h5))
  rw [g3]
  exact ⟨rfl, a1, (lyn_iff _).2 g4, a2⟩
theorem both_StandardSplit (w : List Int) (hb : w.length ≤ 1048576) : ∃ r : List Int × List Int × Bool, (r.1.length ≤ w.length ∧ r.2.1.length ≤ w.length ∧ (r.2.2 = true ↔ (LynIx w 0 w.length ∧ 2 ≤ w.length)) ∧ (r.2.2 = true → Lyn r.1 ∧ Lyn r.2.1 ∧ cmpW r.1 r.2.1 < 0)) ∧
    Ev (fun k => spec_StandardSplit.f k w) r ∧ Ev (fun k => impl_StandardSplit.f k w) r := by
  unfold spec_StandardSplit.f impl_StandardSplit.f
  obtain ⟨b, g1, g2⟩ := impl_IsLyndon_ev w hb
  obtain ⟨b0, e1, e2⟩ := spec_IsLyndon_ev w hb
  by_cases h : LynIx w 0 w.length
  · have hb1 := g2.2 h
    subst hb1
    by_cases h2 : w.length < 2
    · refine ⟨([], [], false), ⟨by simp, by simp, ⟨fun h_ => absurd h_ (by simp), fun h_ => by omega⟩, fun h_ => absurd h_ (by simp)⟩, Ev_succ ?_, Ev_pos (by omega) (Ev_succ ?_)⟩
      · simp only [spec_StandardSplit.l0]
        refine Ev_neg (by omega) (Ev_succ ?_)
        simp only [spec_StandardSplit.j1]
        exact Ev_neg (by simp) (Ev.now _)
      · simp only [impl_StandardSplit.j0]
        exact Ev_pos (by simp) (Ev.now _)
    · refine ⟨split w (w.length - 1) 1, ⟨(split_sizes w _ _).1, (split_sizes w _ _).2, ⟨fun _ => ⟨h, by omega⟩, fun _ => (split_good h (by omega)).1⟩, fun _ => (split_good h (by omega)).2⟩, spec_StandardSplit_l0 w hb h _ 1 (by omega) (by omega), Ev_neg (by omega) (Ev_call _ g1 (Ev_succ ?_))⟩
      simp only [impl_StandardSplit.j0]
      exact Ev_neg (by simp) (impl_StandardSplit_l0 w hb _ 1 (by omega) (by omega) (by omega))
  · have hb1 : b = false := by
      cases b with
      | true => exact absurd (g2.1 rfl) h
      | false => rfl
    have hb2 : b0 = false := by
      cases b0 with
      | true => exact absurd (e2.1 rfl) h
      | false => rfl
    subst hb1
    subst hb2
    refine ⟨([], [], false), ⟨by simp, by simp, ⟨fun h_ => absurd h_ (by simp), fun h_ => absurd h_.1 h⟩, fun h_ => absurd h_ (by simp)⟩, Ev_succ ?_, ?_⟩
    · simp only [spec_StandardSplit.l0]
      refine Ev_ite (fun _ => Ev_call _ e1 (Ev_succ ?_)) (fun _ => Ev_succ ?_)
      · simp only [spec_StandardSplit.j1]
        exact Ev_neg (by simp) (Ev.now _)
      · simp only [spec_StandardSplit.j1]
        exact Ev_neg (by simp) (Ev.now _)
    · refine Ev_ite (fun _ => Ev_succ ?_) (fun _ => Ev_call _ g1 (Ev_succ ?_))
      · simp only [impl_StandardSplit.j0]
        exact Ev_pos (by simp) (Ev.now _)
      · simp only [impl_StandardSplit.j0]
        exact Ev_pos (by simp) (Ev.now _)

/-! ### spec_l1In -/
theorem spec_l1In_eq (x a b : Int) : spec_l1In.f x a b = some (decide (a ≤ x ∧ x ≤ b)) := by
  unfold spec_l1In.f
  by_cases h : x ≥ a
  · rw [if_pos h]; simp [h]
  · rw [if_neg h]; congr 1; symm; rw [decide_eq_false_iff_not]; omega

/-! ### spec_l11Power -/
theorem spec_l11Power_loop (b n : Nat) (hb : b ≤ 4) (hn : n ≤ 20) (d : Nat) : ∀ i : Nat, i + d = n → Ev (fun k => spec_l11Power.l0 k (b : Int) (n : Int) ((b ^ i : Nat) : Int) (i : Int)) ((b ^ n : Nat) : Int) := by
  induction d with
  | zero =>
    intro i h
    have : i = n := by omega
    subst this
    refine Ev_succ ?_
    simp only [spec_l11Power.l0]
    exact Ev_neg (by omega) (Ev.now _)
  | succ d ih =>
    intro i h
    refine Ev_succ ?_
    simp only [spec_l11Power.l0]
    rw [pow_step b i hb (by omega), wsucc (n := i) (by omega)]
    exact Ev_pos (by omega) (ih (i + 1) (by omega))

theorem spec_l11Power_ev (b n : Nat) (hb : b ≤ 4) (hn : n ≤ 20) : Ev (fun k => spec_l11Power.f k (b : Int) (n : Int)) ((b ^ n : Nat) : Int) := by
  unfold spec_l11Power.f
  have := spec_l11Power_loop b n hb hn n 0 (Nat.zero_add _)
  simpa using this

/-! ### impl_power -/
theorem impl_power_loop (b n : Nat) (hb : b ≤ 4) (hn : n ≤ 20) (d : Nat) : ∀ i : Nat, i + d = n → Ev (fun k => impl_power.l0 k (b : Int) ((b ^ i : Nat) : Int) (n : Int) (i : Int)) ((b ^ n : Nat) : Int) := by
  induction d with
  | zero =>
    intro i h
    have : i = n := by omega
    subst this
    refine Ev_succ ?_
    simp only [impl_power.l0]
    exact Ev_neg (by omega) (Ev.now _)
  | succ d ih =>
    intro i h
    refine Ev_succ ?_
    simp only [impl_power.l0]
    rw [pow_step b i hb (by omega), wsucc (n := i) (by omega)]
    exact Ev_pos (by omega) (ih (i + 1) (by omega))

theorem impl_power_ev (b n : Nat) (hb : b ≤ 4) (hn : n ≤ 20) : Ev (fun k => impl_power.f k (b : Int) (n : Int)) ((b ^ n : Nat) : Int) := by
  unfold impl_power.f
  have := impl_power_loop b n hb hn n 0 (Nat.zero_add _)
  simpa using this

/-! ### both_LyndonWords -/
/-- One case, by computing both. -/
def lwOk (a n : Nat) : Bool := match spec_LyndonWords.f 3000 (a : Int) (n : Int), impl_LyndonWords.f 3000 (a : Int) (n : Int) with
  | some x, some y => x == y && decide (x.1.length ≤ 1048576) && spec_CountLyndon.f 3000 (a : Int) (n : Int) == some (x.1.length : Int) && x.1.all (fun r => decide (r.length ≤ 1048576))
  | _, _ => false
def lwCases : List (Nat × Nat) := [(1, 1), (1, 2), (1, 3), (1, 4), (1, 5), (1, 6), (1, 7), (1, 8), (2, 1), (2, 2), (2, 3), (2, 4), (2, 5), (2, 6), (2, 7), (2, 8), (3, 1), (3, 2), (3, 3), (3, 4), (3, 5), (4, 1), (4, 2), (4, 3), (4, 4)]
set_option maxRecDepth 100000 in
theorem lw_all : lwCases.all (fun c => lwOk c.1 c.2) = true := by decide +kernel
set_option maxRecDepth 100000 in
theorem lw_far : ((List.range 5).flatMap fun a => (List.range 9).map fun n => (a, n)).all (fun c => decide (c.1 = 0 ∨ c.2 = 0 ∨ 300 < c.1 ^ c.2 ∨ (c.1, c.2) ∈ lwCases)) = true := by decide +kernel
theorem LeO_up {α : Type} {g : Nat → Option α} (h : ∀ k, LeO (g k) (g (k + 1))) {k : Nat} {r : α} (e : g k = some r) : Ev g r := by
  refine ⟨k, fun n hn => ?_⟩
  induction n with
  | zero => have : k = 0 := by omega
            subst this; exact e
  | succ n ih =>
    by_cases c : k = n + 1
    · subst c; exact e
    · exact h n r (ih (by omega))
theorem lw_case (a n : Nat) (h : lwOk a n = true) : ∃ (R : List (List Int)) (b : Bool), (b = true → Ev (fun k => spec_CountLyndon.f k (a : Int) (n : Int)) (R.length : Int)) ∧ Ev (fun k => spec_LyndonWords.f k (a : Int) (n : Int)) (R, b) ∧ Ev (fun k => impl_LyndonWords.f k (a : Int) (n : Int)) (R, b) ∧ R.length ≤ 1048576 ∧ ∀ x ∈ R, x.length ≤ 1048576 := by
  unfold lwOk at h
  split at h
  · next x y hx hy =>
    simp only [Bool.and_eq_true, beq_iff_eq, decide_eq_true_eq, List.all_eq_true] at h
    obtain ⟨⟨⟨h1, h2⟩, hc⟩, h3⟩ := h
    subst h1
    obtain ⟨R, b⟩ := x
    exact ⟨R, b, fun _ => LeO_up (fun k => spec_CountLyndon.mono _ _ k) hc, LeO_up (fun k => spec_LyndonWords.mono _ _ k) hx, LeO_up (fun k => impl_LyndonWords.mono _ _ k) hy, h2, h3⟩
  · cases h
theorem both_LyndonWords (a n : Int) : ∃ (R : List (List Int)) (b : Bool), (b = true → Ev (fun k => spec_CountLyndon.f k a n) (R.length : Int)) ∧ Ev (fun k => spec_LyndonWords.f k a n) (R, b) ∧ Ev (fun k => impl_LyndonWords.f k a n) (R, b) ∧ R.length ≤ 1048576 ∧ ∀ x ∈ R, x.length ≤ 1048576 := by
  have no : Ev (fun k => spec_LyndonWords.j0 k a n [] true) ([], false) := by
    refine Ev_succ ?_
    simp only [spec_LyndonWords.j0]
    exact Ev_pos (by simp) (Ev.now _)
  have no2 : Ev (fun k => impl_LyndonWords.j0 k a n true) ([], false) := by
    refine Ev_succ ?_
    simp only [impl_LyndonWords.j0]
    exact Ev_pos (by simp) (Ev.now _)
  by_cases c : (1 ≤ a ∧ a ≤ 4) ∧ 1 ≤ n ∧ n ≤ 8
  · obtain ⟨a, rfl⟩ := Int.eq_ofNat_of_zero_le (show 0 ≤ a by omega)
    obtain ⟨n, rfl⟩ := Int.eq_ofNat_of_zero_le (show 0 ≤ n by omega)
    by_cases m : (a, n) ∈ lwCases
    · exact lw_case a n (List.all_eq_true.1 lw_all _ m)
    · have hp : 300 < a ^ n := by
        have := List.all_eq_true.1 lw_far (a, n) (by rw [List.mem_flatMap]; exact ⟨a, by rw [List.mem_range]; omega, by rw [List.mem_map]; exact ⟨n, by rw [List.mem_range]; omega, rfl⟩⟩)
        rw [decide_eq_true_eq] at this
        rcases this with h | h | h | h
        · simp only at h; omega
        · simp only at h; omega
        · exact h
        · exact absurd h m
      refine ⟨[], false, fun h_ => absurd h_ (by simp), ?_, ?_, by simp, by simp⟩
      · unfold spec_LyndonWords.f
        refine Ev_call _ (Ev.now _) (Ev_call _ (Ev_const (spec_l1In_eq _ _ _)) (Ev_pos (by simp; omega) (Ev_call _ (Ev_const (spec_l1In_eq _ _ _)) (Ev_pos (by simp; omega) (Ev_call _ (spec_l11Power_ev a n (by omega) (by omega)) ?_)))))
        rw [decide_eq_true (by have : ((a ^ n : Nat) : Int) > 300 := by omega
                               simpa using this)]
        exact no
      · unfold impl_LyndonWords.f
        refine Ev_neg (by omega) (Ev_neg (by omega) (Ev_neg (by omega) (Ev_neg (by omega) (Ev_call _ (impl_power_ev a n (by omega) (by omega)) ?_))))
        rw [decide_eq_true (by have : ((a ^ n : Nat) : Int) > 300 := by omega
                               simpa using this)]
        exact no2
  · refine ⟨[], false, fun h_ => absurd h_ (by simp), ?_, ?_, by simp, by simp⟩
    · unfold spec_LyndonWords.f
      refine Ev_call _ (Ev.now _) (Ev_call _ (Ev_const (spec_l1In_eq _ _ _)) (Ev_ite (fun h1 => Ev_call _ (Ev_const (spec_l1In_eq _ _ _)) (Ev_neg ?_ no)) (fun h1 => no)))
      rw [decide_eq_true_eq] at *
      omega
    · unfold impl_LyndonWords.f
      refine Ev_ite (fun h => no2) (fun h1 => Ev_ite (fun h => no2) (fun h2 => Ev_ite (fun h => no2) (fun h3 => Ev_ite (fun h => no2) (fun h4 => absurd ⟨⟨by omega, by omega⟩, by omega, by omega⟩ c))))

theorem lyn_dec {b : Bool} {w : List Int} (h : b = true ↔ LynIx w 0 w.length) (hl : Lyn w) : b = true := h.2 ((lyn_iff w).1 hl)
theorem FnLyndon_j3 (code : List Int) : Ev (fun k => laws_FnLyndon.j3 k code false) true := by
  refine Ev_succ ?_
  simp only [laws_FnLyndon.j3]
  refine Ev_neg (by simp) (Ev_const (draw_in ?_))
  intro s hs
  have hs : s.length ≤ 1001 := hs
  refine Ev.rounds ?_
  obtain ⟨⟨u, v, b⟩, ⟨q1, q2, q3, q4⟩, h1, h2⟩ := both_StandardSplit s (by omega)
  simp only [] at q1 q2 q3 q4
  obtain ⟨c, g1, g2⟩ := spec_IsLyndon_ev s (by omega)
  refine Ev_call _ h2 (Ev_call _ h1 (Ev_pos (by simp) (Ev_call _ (laws_sameInts_ev u (by omega)) (Ev_pos rfl (Ev_call _ (laws_sameInts_ev v (by omega)) (Ev_pos rfl (Ev_call _ g1 ?_)))))))
  have hend : b = true → Ev (fun k => (impl_IsLyndon.f k u).bind fun t968 => (if t968 = true then ((impl_IsLyndon.f k v).bind fun t969 => (if t969 = true then ((spec_CompareWords.f k u v).bind fun t970 => (some (decide (t970 < 0)))) else (some false))) else (some false))) true := by
    intro hb
    obtain ⟨lu, lv, lc⟩ := q4 hb
    obtain ⟨b1, e1, e2⟩ := impl_IsLyndon_ev u (by omega)
    obtain ⟨b2, e3, e4⟩ := impl_IsLyndon_ev v (by omega)
    exact Ev_call _ e1 (Ev_pos (lyn_dec e2 lu) (Ev_call _ e3 (Ev_pos (lyn_dec e4 lv) (Ev_call _ (spec_CompareWords_ev u v (by omega)) (Ev_some (by simpa using lc))))))
  refine Ev_ite (fun hc => ?_) (fun hc => ?_)
  · refine Ev_pos ?_ (Ev_ite (fun hb => hend hb) (fun _ => Ev.now _))
    rw [beq_iff_eq, Bool.eq_iff_iff, q3, decide_eq_true_eq]
    have := g2.1 hc
    constructor
    · intro h; omega
    · intro h; exact ⟨this, by omega⟩
  · refine Ev_pos ?_ (Ev_ite (fun hb => hend hb) (fun _ => Ev.now _))
    rw [beq_iff_eq]
    cases b with
    | false => rfl
    | true => exact absurd (g2.2 (q3.1 rfl).1) hc
theorem FnLyndon_j2 (code : List Int) : Ev (fun k => laws_FnLyndon.j2 k code false) true := by
  have hj := FnLyndon_j3 code
  refine Ev_succ ?_
  simp only [laws_FnLyndon.j2]
  refine Ev_neg (by simp) (Ev_const (draw_in ?_))
  rintro ⟨a, n⟩ _
  refine Ev.rounds ?_
  obtain ⟨R, b, hc, h1, h2, hl, hx⟩ := both_LyndonWords a n
  obtain ⟨K1, c, c1, c2⟩ := both_CountLyndon a n
  obtain ⟨K2, m, m1, m2⟩ := both_CountNecklaces a n
  have c1 := LeO_up (fun k => spec_CountLyndon.mono a n k) c1
  have c2 := LeO_up (fun k => cl_mono a n k) c2
  have m1 := LeO_up (fun k => spec_CountNecklaces.mono a n k) m1
  have m2 := LeO_up (fun k => cn_mono a n k) m2
  refine Ev_call _ h2 (Ev_call _ h1 (Ev_neg (by simp) (Ev_call _ (laws_sameWords_ev R hl hx) (Ev_pos rfl ?_))))
  refine Ev_ite (fun hb => ?_) (fun _ => ?_)
  · have e := Ev_unique c1 (hc hb)
    exact Ev_call _ c2 (Ev_pos e (Ev_call _ c2 (Ev_call _ c1 (Ev_pos rfl (Ev_call _ m2 (Ev_call _ m1 (by simpa using hj)))))))
  · exact Ev_call _ c2 (Ev_call _ c1 (Ev_pos rfl (Ev_call _ m2 (Ev_call _ m1 (by simpa using hj)))))
theorem flat_take {l : List (List Int)} {n : Nat} (h : n < l.length) : (l.take n).flatten ++ l.getD n [] = (l.take (n + 1)).flatten := by
  rw [take_succ_getD l n [] h, List.flatten_append]
  simp
theorem flat_le (l : List (List Int)) (n : Nat) : (l.take n).flatten.length ≤ l.flatten.length := by
  conv => rhs; rw [← List.take_append_drop n l, List.flatten_append, List.length_append]
  omega
theorem FnLyndon_loop (code w : List Int) (hb : w.length ≤ 1048576) (l : List (List Int)) (hl : l = duv w w.length 0) (d : Nat) : ∀ n : Nat, n + d = l.length → Ev (fun k => laws_FnLyndon.l0 k code w l (l.take n).flatten (n : Int)) true := by
  obtain ⟨f1, f2, f3⟩ := duv_good w w.length 0 (by omega) (by omega)
  have f4 := fun h => duv_one w h
  rw [← hl] at f1 f2 f3 f4
  rw [List.drop_zero] at f1
  have hlen : l.length ≤ w.length := by
    rw [← f1]
    clear f1 f3 f4 hl
    induction l with
    | nil => simp
    | cons x l ih =>
      have := (f2 x List.mem_cons_self).1
      have := ih (fun y hy => f2 y (List.mem_cons_of_mem _ hy))
      simp only [List.length_cons, List.flatten_cons, List.length_append]
      omega
  have hrow : ∀ n, n < l.length → (l.take n).flatten.length + (l.getD n []).length ≤ w.length := by
    intro n hn
    rw [← List.length_append, flat_take hn, ← f1]
    exact flat_le l (n + 1)
  induction d with
  | zero =>
    intro n h
    refine Ev_succ ?_
    simp only [laws_FnLyndon.l0]
    rw [show n = l.length by omega, List.take_length, f1]
    refine Ev_neg (by omega) (Ev_call _ (laws_sameInts_ev w (by omega)) (Ev_pos rfl ?_))
    refine Ev_ite (fun hw => ?_) (fun _ => FnLyndon_j2 code)
    obtain ⟨b, g1, g2⟩ := spec_IsLyndon_ev w hb
    refine Ev_call _ g1 ?_
    have e : (((l.length : Int) == 1) != b) = false := by
      rw [bne_eq_false_iff_eq, Bool.eq_iff_iff, beq_iff_eq, g2, ← lyn_iff, ← f4 (by omega)]
      omega
    rw [e]
    exact FnLyndon_j2 code
  | succ d ih =>
    intro n h
    refine Ev_succ ?_
    simp only [laws_FnLyndon.l0, rd_L1, Int.toNat_natCast]
    have hn : n < l.length := by omega
    have hr := hrow n hn
    have hx : l.getD n [] ∈ l := by rw [getD_eq hn]; exact List.getElem_mem _
    have i := ih (n + 1) (by omega)
    rw [← flat_take hn] at i
    obtain ⟨b, g1, g2⟩ := impl_IsLyndon_ev (l.getD n []) (by omega)
    rw [wsucc (n := n) (by omega)]
    refine Ev_pos (by omega) (Ev_pos (by omega) (Ev_pos (by omega) (Ev_call _ (Ev.now _) (Ev_call _ g1 (Ev_pos (lyn_dec g2 (f2 _ hx)) ?_)))))
    refine Ev_ite (fun h0 => ?_) (fun _ => i)
    obtain ⟨m, rfl⟩ : ∃ m, n = m + 1 := ⟨n - 1, by omega⟩
    rw [show wrap64 (((m + 1 : Nat) : Int) - 1) = (m : Int) from wnat m (by omega) (by omega)]
    simp only [Int.toNat_natCast]
    have hm := hrow m (by omega)
    refine Ev_pos (by omega) (Ev_pos (by omega) (Ev_call _ (spec_CompareWords_ev _ _ (by omega)) (Ev_neg ?_ i)))
    have hp := List.pairwise_iff_getElem.1 f3 m (m + 1) (by omega) hn (by omega)
    rw [← getD_eq (d := []) (show m + 1 < l.length from hn), ← getD_eq (d := []) (show m < l.length by omega)] at hp
    intro hlt
    have := cmpW_anti (l.getD m []) (l.getD (m + 1) [])
    omega
theorem FnLyndon_word (code w : List Int) (hb : w.length ≤ 1048576) : Ev (fun k => (impl_LyndonFactors.f k w).bind fun t891 => ((spec_LyndonFactors.f k w).bind fun t894 => ((laws_sameWords.f k t891 t894).bind fun t897 => (if t897 = true then ((impl_IsLyndon.f k w).bind fun t898 => ((spec_IsLyndon.f k w).bind fun t899 => (if (t898 != t899) = true then (laws_FnLyndon.j0 k code w t891 true) else ((impl_LeastConjugate.f k w).bind fun t900 => ((spec_LeastConjugate.f k w).bind fun t903 => ((laws_sameInts.f k t900 t903).bind fun t906 => (if t906 = true then ((impl_ConjugatesOf.f k w).bind fun t907 => ((spec_ConjugatesOf.f k w).bind fun t910 => ((laws_sameWords.f k t907 t910).bind fun t913 => (laws_FnLyndon.j0 k code w t891 (!t913))))) else (laws_FnLyndon.j0 k code w t891 true)))))))) else (laws_FnLyndon.j0 k code w t891 true))))) true := by
  obtain ⟨f1, f2, f3⟩ := duv_good w w.length 0 (by omega) (by omega)
  rw [List.drop_zero] at f1
  have hrow : ∀ x ∈ duv w w.length 0, x.length ≤ 1048576 := by
    intro x hx
    have := (List.sublist_flatten_of_mem hx).length_le
    rw [f1] at this
    omega
  have hlen : (duv w w.length 0).length ≤ 1048576 := by
    have : ∀ l : List (List Int), (∀ x ∈ l, Lyn x) → l.length ≤ l.flatten.length := by
      intro l
      induction l with
      | nil => simp
      | cons x l ih =>
        intro h
        have := (h x List.mem_cons_self).1
        have := ih (fun y hy => h y (List.mem_cons_of_mem _ hy))
        simp only [List.length_cons, List.flatten_cons, List.length_append]
        omega
    have := this _ f2
    rw [f1] at this
    omega
  obtain ⟨b, g1, g2⟩ := impl_IsLyndon_ev w hb
  obtain ⟨b', g3, g4⟩ := spec_IsLyndon_ev w hb
  have e : b = b' := by rw [Bool.eq_iff_iff, g2, g4]
  subst e
  have hc := conj_rows w
  refine Ev_call _ (impl_LyndonFactors_ev w hb) (Ev_call _ (spec_LyndonFactors_ev w hb) (Ev_call _ (laws_sameWords_ev _ hlen hrow) (Ev_pos rfl (Ev_call _ g1 (Ev_call _ g3 (Ev_neg (by simp) ?_))))))
  refine Ev_call _ (impl_LeastConjugate_ev w hb) (Ev_call _ (spec_LeastConjugate_ev w hb) (Ev_call _ (laws_sameInts_ev _ (by rw [leastC_length]; omega)) (Ev_pos rfl ?_)))
  refine Ev_call _ (impl_ConjugatesOf_ev w hb) (Ev_call _ (spec_ConjugatesOf_ev w hb) (Ev_call _ (laws_sameWords_ev _ (by have := hc.1; omega) (fun x hx => by have := hc.2 x hx; omega)) ?_))
  refine Ev_succ ?_
  simp only [laws_FnLyndon.j0]
  exact Ev_neg (by simp) (FnLyndon_loop code w hb _ rfl _ 0 (Nat.zero_add _))
theorem FnLyndon : laws_FnLyndon.Pure := by
  refine ⟨⟨fun u hu => ?_, fun u hu => ?_⟩, ?_⟩
  · obtain ⟨K, h⟩ := spec_LeastConjugate_ev u (by omega)
    exact ⟨K, _, h K (Nat.le_refl _), by rw [leastC_length]; exact hu⟩
  · obtain ⟨K, h⟩ := spec_RootOf_ev u (by omega)
    exact ⟨K, _, h K (Nat.le_refl _), Nat.le_trans (rootW_length u) hu⟩
  intro l _ _ _
  refine Ev.rounds ?_
  unfold laws_FnLyndon.f
  have hbig : ∃ b, laws_big.f l = some b := ⟨_, rfl⟩
  obtain ⟨b, hb⟩ := hbig
  simp only [hb, Option.bind_some]
  refine Ev_ite (fun _ => Ev.now _) (fun h => Ev_const (draw_in ?_))
  intro t ht
  exact Ev.rounds (FnLyndon_word l t (by have : t.length ≤ 1001 := ht; omega))

end Go.Proofs.Ytolikggioekalab.Pure
