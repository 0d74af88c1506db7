/- Runs of a word: what they are, and that a scan by period and place finds each. No condition. -/
import Derived.Test.YtolikggioekalabGreatVG6b
import Derived.Test.YtolikggioekalabGreatVGKeys
namespace Go.Proofs.YtolikggioekalabGreat.G
open Go.RowKit
set_option linter.unusedVariables false
def cut (w : List Int) (i k : Nat) : List Int := (w.take k).drop i
theorem cut_length {w : List Int} {i k : Nat} (hk : k ≤ w.length) : (cut w i k).length = k - i := by unfold cut; rw [List.length_drop, List.length_take]; omega
theorem cut_getD {w : List Int} {i k t : Nat} (h : i + t < k) : (cut w i k).getD t 0 = w.getD (i + t) 0 := by unfold cut; rw [getD_drop, getD_take _ _ _ _ h]
def Per (w : List Int) (i k p : Nat) : Prop := ∀ t, i ≤ t → t + p < k → w.getD t 0 = w.getD (t + p) 0
theorem lper_is (v : List Int) (h : 1 ≤ v.length) : ∀ t, t + (lper v).toNat < v.length → v.getD t 0 = v.getD (t + (lper v).toNat) 0 := by
  intro t ht
  have hb := (lb_is v v.length h (Nat.le_refl _)).1
  have e : (lper v).toNat = v.length - lb v v.length := by
    unfold lper
    rw [if_neg (by omega)]
    omega
  have hlt := hb.1
  rw [e] at ht ⊢
  have := hb.2.2 t (by omega)
  rw [this]
  congr 1
  omega
theorem lper_least (v : List Int) (h : 1 ≤ v.length) (q : Nat) (hq : 1 ≤ q) (hp : ∀ t, t + q < v.length → v.getD t 0 = v.getD (t + q) 0) : (lper v).toNat ≤ q := by
  have hl := lb_is v v.length h (Nat.le_refl _)
  have e : (lper v).toNat = v.length - lb v v.length := by
    unfold lper
    rw [if_neg (by omega)]
    omega
  by_cases c : q < v.length
  · have := hl.2 (v.length - q) ⟨by omega, Nat.le_refl _, fun i hi => by
      rw [hp i (by omega)]
      congr 1
      omega⟩
    omega
  · omega
noncomputable def lpN (w : List Int) (i k : Nat) : Nat := (lper (cut w i k)).toNat
theorem lpN_pos {w : List Int} {i k : Nat} (h : i < k) (hk : k ≤ w.length) : 1 ≤ lpN w i k ∧ lpN w i k ≤ k - i ∧ lper (cut w i k) = (lpN w i k : Int) := by
  have hl := cut_length (i := i) hk
  have := lper_bounds (cut w i k) (by omega)
  unfold lpN
  omega
theorem lpN_per {w : List Int} {i k : Nat} (h : i < k) (hk : k ≤ w.length) : Per w i k (lpN w i k) := by
  intro t h1 h2
  have hl := cut_length (i := i) hk
  have := lper_is (cut w i k) (by omega) (t - i) (by unfold lpN at h2; omega)
  unfold lpN at h2 ⊢
  rw [cut_getD (by omega), cut_getD (by omega)] at this
  rw [show i + (t - i) = t by omega, show i + (t - i + (lper (cut w i k)).toNat) = t + (lper (cut w i k)).toNat by omega] at this
  exact this
theorem lpN_least {w : List Int} {i k q : Nat} (h : i < k) (hk : k ≤ w.length) (hq : 1 ≤ q) (hp : Per w i k q) : lpN w i k ≤ q := by
  have hl := cut_length (i := i) hk
  refine lper_least (cut w i k) (by omega) q hq (fun t ht => ?_)
  rw [cut_getD (by omega), cut_getD (by omega), hp (i + t) (by omega) (by omega)]
  congr 1
  omega
structure RunN (w : List Int) (i k q : Nat) : Prop where
  lt : i < k
  le : k ≤ w.length
  per : lpN w i k = q
  twice : i + 2 * q ≤ k
  left : i = 0 ∨ w.getD (i - 1) 0 ≠ w.getD (i - 1 + q) 0
  right : k = w.length ∨ w.getD k 0 ≠ w.getD (k - q) 0
theorem RunN.pos {w : List Int} {i k q : Nat} (h : RunN w i k q) : 1 ≤ q := by have := (lpN_pos h.lt h.le).1; rw [h.per] at this; exact this
theorem RunN.isPer {w : List Int} {i k q : Nat} (h : RunN w i k q) : Per w i k q := by have := lpN_per h.lt h.le; rwa [h.per] at this
structure Ext (w : List Int) (i p k : Nat) : Prop where
  ge : i + p ≤ k
  le : k ≤ w.length
  per : Per w i k p
  stop : k = w.length ∨ w.getD k 0 ≠ w.getD (k - p) 0
theorem Ext.one {w : List Int} {i p k : Nat} (h : Ext w i p k) {k' q : Nat} (r : RunN w i k' q) (e : q = p) : k' = k := by
  subst e
  rcases Nat.lt_trichotomy k' k with g | g | g
  · rcases r.right with h1 | h1
    · have := h.le; omega
    · exfalso
      refine h1 ?_
      have h2 := r.twice
      have h3 := h.per (k' - q) (by omega) (by have := r.pos; omega)
      rw [show k' - q + q = k' by omega] at h3
      exact h3.symm
  · exact g
  · rcases h.stop with h1 | h1
    · have := r.le; omega
    · exfalso
      refine h1 ?_
      have h2 := h.ge
      have h3 := r.isPer (k - q) (by omega) (by have := r.pos; omega)
      rw [show k - q + q = k by omega] at h3
      exact h3.symm
theorem Ext.none {w : List Int} {i p k : Nat} (h : Ext w i p k) {i' k' : Nat} (r : RunN w i' k' p) (h1 : i < i') (h2 : i' < k - p + 1) : False := by
  have hg := h.ge
  rcases r.left with e | e
  · omega
  · have := h.per (i' - 1) (by omega) (by omega)
    exact e this
def Scan {α : Type} (mk : Nat → Nat → Nat → α) (key : α → List Int) (w : List Int) (p m : Nat) (l : List α) : Prop :=
  (∀ x, x ∈ l ↔ ∃ i k q, RunN w i k q ∧ x = mk i k q ∧ (q < p ∨ q = p ∧ i < m)) ∧ l.Pairwise (fun x y => key x ≠ key y)
def Fresh (w : List Int) (p m : Nat) : Prop := m = 0 ∨ w.getD (m - 1) 0 ≠ w.getD (m - 1 + p) 0
theorem Scan.start {α : Type} (mk : Nat → Nat → Nat → α) (key : α → List Int) (w : List Int) : Scan mk key w 1 0 [] := by
  refine ⟨fun x => ?_, List.Pairwise.nil⟩
  simp only [List.not_mem_nil, false_iff]
  rintro ⟨i, k, q, r, _, h⟩
  have := r.pos
  omega
theorem Scan.next {α : Type} {mk : Nat → Nat → Nat → α} {key : α → List Int} {w : List Int} {p m : Nat} {l : List α} (h : Scan mk key w p m l) (hm : w.length ≤ m + p) : Scan mk key w (p + 1) 0 l := by
  refine ⟨fun x => (h.1 x).trans ?_, h.2⟩
  constructor
  · rintro ⟨i, k, q, r, e, c⟩
    exact ⟨i, k, q, r, e, by omega⟩
  · rintro ⟨i, k, q, r, e, c⟩
    refine ⟨i, k, q, r, e, ?_⟩
    have := r.twice
    have := r.le
    have := r.pos
    omega
theorem Scan.step {α : Type} {mk : Nat → Nat → Nat → α} {key : α → List Int} {w : List Int} {p m k : Nat} {l : List α} (h : Scan mk key w p m l) (hp : 1 ≤ p) (he : Ext w m p k) (hf : Fresh w p m)
    (hkey : ∀ i k q i' k' q', key (mk i k q) = key (mk i' k' q') → i = i' ∧ k = k') :
    (k - m ≥ 2 * p → lpN w m k = p → Scan mk key w p (k - p + 1) (l ++ [mk m k p])) ∧ (¬ (k - m ≥ 2 * p ∧ lpN w m k = p) → Scan mk key w p (k - p + 1) l) := by
  have hge := he.ge
  have hle := he.le
  refine ⟨fun h1 h2 => ?_, fun h1 => ?_⟩
  · have hr : RunN w m k p := ⟨by omega, he.le, h2, by omega, hf, he.stop⟩
    refine ⟨fun x => ?_, ?_⟩
    · rw [List.mem_append, h.1, List.mem_singleton]
      constructor
      · rintro (⟨i, k', q, r, e, c⟩ | e)
        · exact ⟨i, k', q, r, e, by omega⟩
        · exact ⟨m, k, p, hr, e, by omega⟩
      · rintro ⟨i, k', q, r, e, c⟩
        by_cases c2 : q < p ∨ q = p ∧ i < m
        · exact .inl ⟨i, k', q, r, e, c2⟩
        · have hq : q = p := by omega
          subst hq
          by_cases c3 : i = m
          · subst c3
            have := he.one r rfl
            subst this
            exact .inr e
          · exact (he.none r (by omega) (by omega)).elim
    · refine List.pairwise_append.2 ⟨h.2, by simp, fun x hx y hy => ?_⟩
      rw [List.mem_singleton] at hy
      subst hy
      obtain ⟨i, k', q, r, e, c⟩ := (h.1 x).1 hx
      subst e
      intro e2
      obtain ⟨e3, e4⟩ := hkey _ _ _ _ _ _ e2
      subst e3 e4
      have := r.per
      omega
  · refine ⟨fun x => (h.1 x).trans ?_, h.2⟩
    constructor
    · rintro ⟨i, k', q, r, e, c⟩
      exact ⟨i, k', q, r, e, by omega⟩
    · rintro ⟨i, k', q, r, e, c⟩
      refine ⟨i, k', q, r, e, ?_⟩
      by_cases c2 : q < p ∨ q = p ∧ i < m
      · exact c2
      · exfalso
        have hq : q = p := by omega
        subst hq
        by_cases c3 : i = m
        · subst c3
          have := he.one r rfl
          subst this
          have h3 := r.twice
          exact h1 ⟨by omega, r.per⟩
        · exact he.none r (by omega) (by omega)
theorem Ext.fresh {w : List Int} {i p k : Nat} (h : Ext w i p k) (hk : k - p + 1 + p < w.length + 1) (hp : 1 ≤ p) : Fresh w p (k - p + 1) := by
  have := h.ge
  rcases h.stop with e | e
  · omega
  · refine .inr ?_
    rw [show k - p + 1 - 1 = k - p by omega, show k - p + p = k by omega]
    exact fun g => e g.symm
noncomputable def runB (w : List Int) (i k : Nat) : Bool := @decide (RunN w i k (lpN w i k)) (Classical.propDecidable _)
theorem runB_iff {w : List Int} {i k : Nat} : runB w i k = true ↔ RunN w i k (lpN w i k) := by
  unfold runB
  exact @decide_eq_true_iff _ (Classical.propDecidable _)
noncomputable def srow {α : Type} (mk : Nat → Nat → Nat → α) (w : List Int) (i m : Nat) : List α := ((List.range m).filter fun t => runB w i (i + 2 + t)).map fun t => mk i (i + 2 + t) (lpN w i (i + 2 + t))
noncomputable def sall {α : Type} (mk : Nat → Nat → Nat → α) (w : List Int) (n : Nat) : List α := (List.range n).flatMap fun i => srow mk w i (w.length - 1 - i)
noncomputable def sruns {α : Type} (mk : Nat → Nat → Nat → α) (w : List Int) : List α := if 64 < w.length then [] else sall mk w w.length
theorem srow_succ {α : Type} (mk : Nat → Nat → Nat → α) (w : List Int) (i m : Nat) : srow mk w i (m + 1) = srow mk w i m ++ if runB w i (i + 2 + m) = true then [mk i (i + 2 + m) (lpN w i (i + 2 + m))] else [] := by
  unfold srow
  rw [List.range_succ, List.filter_append, List.map_append]
  congr 1
  by_cases h : runB w i (i + 2 + m) = true <;> simp [h]
theorem sall_succ {α : Type} (mk : Nat → Nat → Nat → α) (w : List Int) (n : Nat) : sall mk w (n + 1) = sall mk w n ++ srow mk w n (w.length - 1 - n) := by
  unfold sall
  rw [List.range_succ, List.flatMap_append]
  simp
theorem srow_length {α : Type} (mk : Nat → Nat → Nat → α) (w : List Int) (i m : Nat) : (srow mk w i m).length ≤ m := by
  unfold srow
  rw [List.length_map]
  exact Nat.le_trans (List.length_filter_le _ _) (by simp)
theorem sall_length {α : Type} (mk : Nat → Nat → Nat → α) (w : List Int) (n : Nat) : (sall mk w n).length ≤ n * w.length := by
  induction n with
  | zero => simp [sall]
  | succ n ih =>
    rw [sall_succ, List.length_append, Nat.succ_mul]
    have := srow_length mk w n (w.length - 1 - n)
    omega
theorem mem_sruns {α : Type} {mk : Nat → Nat → Nat → α} {w : List Int} {x : α} : x ∈ sruns mk w ↔ w.length ≤ 64 ∧ ∃ i k q, RunN w i k q ∧ x = mk i k q := by
  unfold sruns
  by_cases c : 64 < w.length
  · rw [if_pos c]
    simp only [List.not_mem_nil, false_iff]
    rintro ⟨h, _⟩
    omega
  · rw [if_neg c]
    unfold sall srow
    simp only [List.mem_flatMap, List.mem_map, List.mem_filter, List.mem_range, runB_iff]
    constructor
    · rintro ⟨i, hi, t, ⟨ht, r⟩, rfl⟩
      exact ⟨by omega, i, i + 2 + t, _, r, rfl⟩
    · rintro ⟨_, i, k, q, r, rfl⟩
      have h1 := r.lt
      have h2 := r.le
      have h3 := r.twice
      have h4 := r.pos
      have e := r.per
      refine ⟨i, by omega, k - (i + 2), ⟨by omega, ?_⟩, ?_⟩
      · rw [show i + 2 + (k - (i + 2)) = k by omega, e]; exact r
      · rw [show i + 2 + (k - (i + 2)) = k by omega, e]
theorem sruns_asc {α : Type} {mk : Nat → Nat → Nat → α} {key : α → List Int} (hk : ∀ i k q, key (mk i k q) = [(i : Int), (k : Int)]) (w : List Int) : KAsc key (sruns mk w) := by
  have lt1 : ∀ i k i' k' : Nat, i < i' → cmpW [(i : Int), (k : Int)] [(i' : Int), (k' : Int)] < 0 := by
    intro i k i' k' h
    rw [cmpW_cons, if_pos (by omega)]
    omega
  have lt2 : ∀ i k k' : Nat, k < k' → cmpW [(i : Int), (k : Int)] [(i : Int), (k' : Int)] < 0 := by
    intro i k k' h
    rw [cmpW_cons, if_neg (by omega), if_neg (by omega), cmpW_cons, if_pos (by omega)]
    omega
  unfold sruns
  split
  · exact List.Pairwise.nil
  · unfold sall KAsc
    rw [List.pairwise_flatMap]
    refine ⟨fun i _ => ?_, ?_⟩
    · unfold srow
      refine List.Pairwise.map _ (fun a b (h : a < b) => ?_) ((List.pairwise_lt_range).filter _)
      rw [hk, hk]
      exact lt2 _ _ _ (by omega)
    · refine List.Pairwise.imp (fun {a b} (h : a < b) x hx y hy => ?_) (List.pairwise_lt_range)
      unfold srow at hx hy
      obtain ⟨t, _, rfl⟩ := List.mem_map.1 hx
      obtain ⟨t', _, rfl⟩ := List.mem_map.1 hy
      rw [hk, hk]
      exact lt1 _ _ _ _ h
theorem Scan.done {α : Type} {mk : Nat → Nat → Nat → α} {key : α → List Int} (hk : ∀ i k q, key (mk i k q) = [(i : Int), (k : Int)]) {w : List Int} {p : Nat} {l : List α} (h : Scan mk key w p 0 l) (hw : w.length ≤ 64) (hp : w.length < 2 * p) : sortK key l = sruns mk w := by
  refine kasc_ext _ _ (sortK_asc h.2) (sruns_asc hk w) (fun x => ((sortK_perm key l).mem_iff).trans ?_)
  rw [h.1, mem_sruns]
  constructor
  · rintro ⟨i, k, q, r, e, _⟩
    exact ⟨hw, i, k, q, r, e⟩
  · rintro ⟨_, i, k, q, r, e⟩
    have := r.twice
    have := r.le
    exact ⟨i, k, q, r, e, by omega⟩
end Go.Proofs.YtolikggioekalabGreat.G
