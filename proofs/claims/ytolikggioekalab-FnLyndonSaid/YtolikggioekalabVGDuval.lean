/- Duval's factors: Lyndon words that do not increase and make up the word; one of them just where the word is a Lyndon word. The parts of a Lyndon word's standard split are Lyndon words. No condition. -/
import Derived.Test.YtolikggioekalabVG9
import Derived.Test.YtolikggioekalabVGLet
namespace Go.Proofs.Ytolikggioekalab.G
open Go.RowKit
set_option linter.unusedVariables false

theorem lyn_iff (u : List Int) : Lyn u ↔ LynIx u 0 u.length := by
  rw [lynIx_iff]
  unfold Lyn
  exact ⟨fun h => ⟨h.1, fun k h1 h2 => h.2 k h1 h2⟩, fun h => ⟨h.1, fun k h1 h2 => h.2 k h1 h2⟩⟩
def part (w : List Int) (a p : Nat) : List Int := (w.take (a + p)).drop a
theorem part_length {w : List Int} {a p : Nat} (h : a + p ≤ w.length) : (part w a p).length = p := by unfold part; rw [List.length_drop, List.length_take]; omega
theorem part_getD {w : List Int} {a p t : Nat} (h : t < p) : (part w a p).getD t 0 = w.getD (a + t) 0 := by unfold part; rw [getD_drop, getD_take _ _ _ _ (by omega)]
theorem part_rest (w : List Int) (a p : Nat) : part w a p ++ w.drop (a + p) = w.drop a := by
  unfold part
  rw [List.drop_take, Nat.add_sub_cancel_left, ← List.drop_drop, List.take_append_drop]
theorem part_lyn {w : List Int} {a p : Nat} (h : a + p ≤ w.length) (hl : LynIx w a p) : Lyn (part w a p) := by
  rw [lyn_iff, part_length h]
  refine ⟨hl.1, fun k h1 h2 => ?_⟩
  obtain ⟨j, g1, g2, g3⟩ := hl.2 k h1 h2
  refine ⟨j, g1, fun i hi => ?_, ?_⟩
  · rw [part_getD (by omega), part_getD (by omega)]
    have := g2 i hi
    rw [show a + (0 + i) = a + i by omega, show a + (0 + k + i) = a + k + i by omega]
    exact this
  · rw [part_getD (by omega), part_getD (by omega)]
    rw [show a + (0 + j) = a + j by omega, show a + (0 + k + j) = a + k + j by omega]
    exact g3

theorem dpos_ends (w : List Int) (i p : Nat) (hp : 1 ≤ p) (f : Nat) : ∀ a : Nat, (a ≤ i → i < a + f) → i + p ≤ w.length → a ≤ i + p →
    a + (dpos w i p f a).1.length ≤ (dpos w i p f a).2 ∧ (dpos w i p f a).2 ≤ i + p ∧ (1 ≤ f → a ≤ i → a < (dpos w i p f a).2) := by
  induction f with
  | zero => intro a h1 h2 h3; simp [dpos]; omega
  | succ f ih =>
    intro a h1 h2 h3
    rw [dpos]
    by_cases c : a ≤ i
    · rw [if_pos c]
      have := ih (a + p) (fun _ => by omega) h2 (by omega)
      simp only [List.length_cons]
      omega
    · rw [if_neg c]
      simp
      omega
theorem dpos_flat (w : List Int) (i p : Nat) (f : Nat) : ∀ a : Nat, (dpos w i p f a).1.flatten ++ w.drop (dpos w i p f a).2 = w.drop a := by
  induction f with
  | zero => intro a; simp [dpos]
  | succ f ih =>
    intro a
    rw [dpos]
    by_cases c : a ≤ i
    · rw [if_pos c]
      simp only [List.flatten_cons, List.append_assoc]
      rw [ih (a + p)]
      exact part_rest w a p
    · rw [if_neg c]; simp
theorem DInv.again {w : List Int} {a i j : Nat} (h : DInv w a i j) (n : Nat) (hn : a + n * (j - i) ≤ i) : part w (a + n * (j - i)) (j - i) = part w a (j - i) := by
  have l2 := h.lt
  have l3 := h.len
  apply ext_getD 0
  · rw [part_length (by omega), part_length (by omega)]
  · intro t ht
    rw [part_length (by omega)] at ht
    rw [part_getD ht, part_getD ht, h.pers n (a + t) (by omega) (by omega)]
    congr 1
    omega
theorem dpos_all {w : List Int} {a i j : Nat} (h : DInv w a i j) (f : Nat) : ∀ n : Nat, i < a + n * (j - i) + f →
    (∀ x ∈ (dpos w i (j - i) f (a + n * (j - i))).1, x = part w a (j - i)) ∧ ∃ m, n ≤ m ∧ (dpos w i (j - i) f (a + n * (j - i))).2 = a + m * (j - i) ∧ i < a + m * (j - i) := by
  have l2 := h.lt
  induction f with
  | zero => intro n hn; simp [dpos]; exact ⟨n, Nat.le_refl _, rfl, by omega⟩
  | succ f ih =>
    intro n hn
    rw [dpos]
    by_cases c : a + n * (j - i) ≤ i
    · rw [if_pos c]
      have e : a + n * (j - i) + (j - i) = a + (n + 1) * (j - i) := by rw [Nat.succ_mul]; omega
      obtain ⟨g1, m, g2, g3, g4⟩ := ih (n + 1) (by rw [← e]; omega)
      rw [e]
      refine ⟨fun x hx => ?_, m, by omega, g3, g4⟩
      rcases List.mem_cons.1 hx with rfl | hx
      · rw [← e]; exact h.again n c
      · exact g1 x hx
    · rw [if_neg c]
      exact ⟨fun x hx => by simp at hx, n, Nat.le_refl _, rfl, by omega⟩

/-- What begins behind the factors of one root is not greater than it. -/
theorem DEnd.less {w : List Int} {a i j : Nat} (h : DEnd w a i j) {m p : Nat} (hm : i < a + m * (j - i)) (hm2 : a + m * (j - i) ≤ j) (hp : 0 < p) (hp2 : a + m * (j - i) + p ≤ w.length) :
    cmpW (part w (a + m * (j - i)) p) (part w a (j - i)) < 0 := by
  obtain ⟨h, hs⟩ := h
  have l1 := h.le
  have l2 := h.lt
  have l3 := h.len
  have hm0 : m ≠ 0 := fun e => by subst e; simp at hm; omega
  obtain ⟨n, rfl⟩ : ∃ n, m = n + 1 := ⟨m - 1, by omega⟩
  have hu : (part w a (j - i)).length = j - i := part_length (by omega)
  have hz := part_length hp2
  generalize hb : a + (n + 1) * (j - i) = b at *
  have hsame : ∀ t, b + t < j → w.getD (b + t) 0 = w.getD (a + t) 0 := by
    intro t ht
    rw [h.pers (n + 1) (a + t) (by omega) (by omega)]
    congr 1
    omega
  by_cases c : b + p ≤ j
  · refine ltAt_cmpW _ _ p ⟨by omega, by omega, fun t ht => ?_, .inl hz.symm⟩
    rw [part_getD ht, part_getD (by omega), hsame t (by omega)]
  · rcases hs with e | e
    · omega
    · refine ltAt_cmpW _ _ (j - b) ⟨by omega, by omega, fun t ht => ?_, .inr ?_⟩
      · rw [part_getD (by omega), part_getD (by omega), hsame t (by omega)]
      · rw [part_getD (by omega), part_getD (by omega), show b + (j - b) = j by omega]
        have e2 := h.pers n (a + (j - b)) (by omega) (by rw [Nat.succ_mul] at hb; omega)
        rw [show a + (j - b) + n * (j - i) = i by rw [Nat.succ_mul] at hb; omega] at e2
        rw [e2]
        exact e

theorem duv_head {w : List Int} {f a : Nat} {x : List Int} {l : List (List Int)} (h : duv w f a = x :: l) : ∃ p, 0 < p ∧ a + p ≤ w.length ∧ x = part w a p := by
  cases f with
  | zero => simp [duv] at h
  | succ f =>
    rw [duv] at h
    by_cases c : a < w.length
    · rw [if_pos c] at h
      have he := dscan_end w a w.length a (a + 1) (DInv.start c) (by omega)
      generalize dscan w a w.length a (a + 1) = s at he h
      have l1 := he.1.le
      have l2 := he.1.lt
      have l3 := he.1.len
      obtain ⟨n, hn⟩ : ∃ n, w.length = n + 1 := ⟨w.length - 1, by omega⟩
      have e : (dpos w s.1 (s.2 - s.1) w.length a).1 = part w a (s.2 - s.1) :: (dpos w s.1 (s.2 - s.1) n (a + (s.2 - s.1))).1 := by
        conv => lhs; rw [hn]
        rw [dpos, if_pos l1]
        rfl
      rw [e, List.cons_append] at h
      injection h with h1 h2
      exact ⟨s.2 - s.1, by omega, by omega, h1.symm⟩
    · rw [if_neg c] at h; cases h

theorem duv_good (w : List Int) (f : Nat) : ∀ a : Nat, a ≤ w.length → w.length ≤ a + f →
    (duv w f a).flatten = w.drop a ∧ (∀ x ∈ duv w f a, Lyn x) ∧ (duv w f a).Pairwise (fun x y => cmpW y x ≤ 0) := by
  induction f with
  | zero =>
    intro a h1 h2
    have : w.drop a = [] := List.drop_eq_nil_of_le (by omega)
    simp [duv, this]
  | succ f ih =>
    intro a h1 h2
    rw [duv]
    by_cases c : a < w.length
    · rw [if_pos c]
      have he := dscan_end w a w.length a (a + 1) (DInv.start c) (by omega)
      generalize dscan w a w.length a (a + 1) = s at he
      have l1 := he.1.le
      have l2 := he.1.lt
      have l3 := he.1.len
      have hf := dpos_ends w s.1 (s.2 - s.1) (by omega) w.length a (fun _ => by omega) (by omega) (by omega)
      have hA := dpos_all he.1 w.length 0 (by simp; omega)
      simp only [Nat.zero_mul, Nat.add_zero] at hA
      obtain ⟨g1, m, _, g3, g4⟩ := hA
      have hfl := dpos_flat w s.1 (s.2 - s.1) w.length a
      have hb : (dpos w s.1 (s.2 - s.1) w.length a).2 ≤ s.2 := by omega
      have hgt : a < (dpos w s.1 (s.2 - s.1) w.length a).2 := hf.2.2 (by omega) (by omega)
      obtain ⟨k1, k2, k3⟩ := ih (dpos w s.1 (s.2 - s.1) w.length a).2 (by omega) (by omega)
      have hul : Lyn (part w a (s.2 - s.1)) := part_lyn (by omega) he.1.lyn
      refine ⟨by rw [List.flatten_append, k1, hfl], fun x hx => ?_, List.pairwise_append.2 ⟨?_, k3, fun x hx y hy => ?_⟩⟩
      · rcases List.mem_append.1 hx with hx | hx
        · rw [g1 x hx]; exact hul
        · exact k2 x hx
      · refine List.Pairwise.imp_of_mem (R := fun _ _ => True) (fun {x y} hx hy _ => ?_) (List.pairwise_of_forall (fun _ _ => trivial))
        rw [g1 x hx, g1 y hy, cmpW_refl]
        omega
      · rw [g1 x hx]
        rw [g3] at k3 hy hb
        cases hd : duv w f (a + m * (s.2 - s.1)) with
        | nil => rw [hd] at hy; cases hy
        | cons z l =>
          obtain ⟨p, p1, p2, p3⟩ := duv_head hd
          have hz : cmpW z (part w a (s.2 - s.1)) ≤ 0 := by
            rw [p3]
            have := he.less g4 hb p1 p2
            omega
          rw [hd] at hy k3
          rcases List.mem_cons.1 hy with rfl | hy
          · exact hz
          · exact cmpW_le_trans ((List.pairwise_cons.1 k3).1 y hy) hz
    · rw [if_neg c]
      have : w.drop a = [] := List.drop_eq_nil_of_le (by omega)
      simp [this]

/-- One factor just where the word is a Lyndon word. -/
theorem duv_one (w : List Int) (hw : 0 < w.length) : (duv w w.length 0).length = 1 ↔ Lyn w := by
  obtain ⟨g1, g2, g3⟩ := duv_good w w.length 0 (by omega) (by omega)
  rw [List.drop_zero] at g1
  cases hd : duv w w.length 0 with
  | nil => rw [hd] at g1; simp at g1; rw [g1] at hw; simp at hw
  | cons x l =>
    rw [hd] at g1 g2 g3
    rw [List.flatten_cons] at g1
    constructor
    · intro h
      have : l = [] := List.length_eq_zero_iff.1 (by simpa using h)
      subst this
      simp at g1
      rw [← g1]
      exact g2 x List.mem_cons_self
    · intro h
      cases l with
      | nil => rfl
      | cons y l =>
        exfalso
        have hy := g2 y (by simp)
        obtain ⟨z, l', e⟩ : ∃ z l', y :: l = l' ++ [z] := ⟨_, _, (List.dropLast_concat_getLast (List.cons_ne_nil y l)).symm⟩
        have hz := g2 z (by rw [List.mem_cons, e]; right; simp)
        have hzx := (List.pairwise_cons.1 g3).1 z (by rw [e]; simp)
        have hx := (g2 x List.mem_cons_self).1
        rw [e] at g1
        simp only [List.flatten_append, List.flatten_cons, List.flatten_nil, List.append_nil] at g1
        have h1 : cmpW x w < 0 := by
          rw [← g1]
          refine cmpW_longer _ _ (fun e2 => ?_)
          have h5 := congrArg List.length e2
          have h6 := hz.1
          rw [List.length_append, List.length_nil] at h5
          omega
        have hl := congrArg List.length g1
        simp only [List.length_append] at hl
        have hzl := hz.1
        have h2 := h.2 (x.length + l'.flatten.length) (by omega) (by omega)
        have e3 : w.drop (x.length + l'.flatten.length) = z := by
          rw [← g1, ← List.append_assoc, ← List.length_append, List.drop_left]
        rw [e3] at h2
        have h3 := cmpW_trans _ _ _ h1 h2
        rw [cmpW_anti] at h3
        omega

/-! The standard split. -/
/-- Two Lyndon words, the first one less: they make a Lyndon word. -/
theorem lyn_concat {x y : List Int} (hx : Lyn x) (hy : Lyn y) (h : cmpW x y < 0) : Lyn (x ++ y) := by
  have hxp := hx.1
  have hyp := hy.1
  have key : cmpW (x ++ y) y < 0 := by
    rcases cmpW_cases x y h with ⟨c, hc, e⟩ | g
    · have hcl : 0 < c.length := by
        cases c with
        | nil => exact absurd rfl hc
        | cons => simp
      have h1 := hy.2 x.length hxp (by rw [e, List.length_append]; omega)
      have e2 : y.drop x.length = c := by rw [e, List.drop_left]
      rw [e2] at h1
      have := cmpW_left x y c
      rw [← e] at this
      rw [this]
      exact h1
    · have := g y []
      rwa [List.append_nil] at this
  refine ⟨by rw [List.length_append]; omega, fun k h0 hk => ?_⟩
  rw [List.length_append] at hk
  rcases Nat.lt_trichotomy k x.length with c | c | c
  · rw [List.drop_append_of_le_length (by omega)]
    have h1 := hx.2 k h0 c
    rcases cmpW_cases x (x.drop k) h1 with ⟨d, hd, e⟩ | g
    · have := congrArg List.length e
      rw [List.length_append, List.length_drop] at this
      omega
    · exact g y y
  · subst c
    rw [List.drop_left]
    exact key
  · obtain ⟨m, rfl⟩ : ∃ m, k = x.length + m := ⟨k - x.length, by omega⟩
    rw [← List.drop_drop, List.drop_left]
    exact cmpW_trans _ _ _ key (hy.2 m (by omega) (by omega))

/-- The first part of a Lyndon word's split at its longest proper Lyndon end. -/
theorem split_lyn {w : List Int} (h : Lyn w) {k : Nat} (h0 : 0 < k) (hk : k < w.length) (hv : Lyn (w.drop k)) (hl : ∀ s, 0 < s → s < k → ¬ Lyn (w.drop s)) :
    Lyn (w.take k) ∧ cmpW (w.take k) (w.drop k) < 0 := by
  have hu : (w.take k).length = k := by rw [List.length_take]; omega
  have huv : w.take k ++ w.drop k = w := List.take_append_drop k w
  have h1 : cmpW (w.take k) w < 0 := by
    have := cmpW_longer (w.take k) (w.drop k) (fun e => by
      have := congrArg List.length e
      rw [List.length_drop] at this
      simp at this
      omega)
    rwa [huv] at this
  have h2 := cmpW_trans _ _ _ h1 (h.2 k h0 hk)
  refine ⟨?_, h2⟩
  obtain ⟨s, hs, hm⟩ := cmpW_least (fun s => (w.take k).drop s) k h0
  have hsl : ((w.take k).drop s).length = k - s := by rw [List.length_drop, hu]
  have hL : Lyn ((w.take k).drop s) := by
    refine ⟨by omega, fun t t0 ht => ?_⟩
    rw [List.drop_drop]
    have := hm (s + t) (by omega)
    have hne : cmpW ((w.take k).drop s) ((w.take k).drop (s + t)) ≠ 0 := fun e => by
      have := congrArg List.length ((cmpW_zero _ _).1 e)
      rw [List.length_drop, List.length_drop, hu] at this
      omega
    omega
  by_cases c : s = 0
  · subst c
    simpa using hL
  · exfalso
    have h3 := hm 0 h0
    simp only [List.drop_zero] at h3
    have h4 : cmpW ((w.take k).drop s) (w.drop k) < 0 := by
      by_cases e : cmpW ((w.take k).drop s) (w.take k) = 0
      · rw [(cmpW_zero _ _).1 e]; exact h2
      · exact cmpW_trans _ _ _ (by omega) h2
    have h5 := lyn_concat hL hv h4
    refine hl s (by omega) hs ?_
    have e : (w.take k).drop s ++ w.drop k = w.drop s := by
      conv => rhs; rw [← huv]
      rw [List.drop_append_of_le_length (by omega)]
    rwa [e] at h5

end Go.Proofs.Ytolikggioekalab.G
