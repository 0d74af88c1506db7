/- The pure statement of FnExactOccurrencesOf: at every two lists the law's answer is true. -/
import Derived.Test.YtoaonfacjcienaaPFnExactOccurrencesOfx2
import Derived.Test.YtoaonfacjcienaaG0
import Derived.Test.YtoaonfacjcienaaGSized
import Derived.Test.YtoaonfacjcienaaG1
namespace Go.Proofs.Ytoaonfacjcienaa.Pure
open Go.RowKit Go.Proofs.Ytoaonfacjcienaa.PFnExactOccurrencesOf Go.Proofs.YtoaonfacjcienaaW.PrintWords Go.Proofs.YtoaonfacjcienaaW.PrintLast Go.Proofs.YtoaonfacjcienaaW.PrintMore Go.Proofs.Ytoaonfacjcienaa.G
set_option linter.unusedVariables false
set_option linter.unusedSimpArgs false

/-! ### laws_toIntS -/
theorem laws_toIntS_loop (l : List Int) (hb : l.length ≤ 17592186044416) (d : Nat) : ∀ (n : Nat) (acc : List Int), acc.length = l.length → n ≤ l.length → l.length - n = d → acc.take n = l.take n →
    Ev (fun k => laws_toIntS.l0 k l acc (n : Int)) l := by
  induction d with
  | zero =>
    intro n acc h0 h1 h2 h3
    refine Ev_succ ?_
    simp only [laws_toIntS.l0]
    refine Ev_neg (by omega) (Ev_some ?_)
    have : n = l.length := by omega
    subst this
    rw [List.take_length, ← h0, List.take_length] at h3
    exact h3
  | succ d ih =>
    intro n acc h0 h1 h2 h3
    refine Ev_succ ?_
    simp only [laws_toIntS.l0]
    refine Ev_pos (by omega) (Ev_pos (by omega) (Ev_pos (by omega) ?_))
    rw [rd_cast, wsucc (by omega), Int.toNat_natCast]
    refine ih (n + 1) _ (by simpa using h0) (by omega) (by omega) ?_
    rw [set_take_succ acc n _ (by omega), take_succ_getD l n 0 (by omega), h3]

theorem laws_toIntS_ev (l : List Int) (hb : l.length ≤ 17592186044416) : Ev (fun k => laws_toIntS.f k l) l := by
  unfold laws_toIntS.f
  refine Ev_pos (by omega) (Ev_pos (by omega) ?_)
  exact laws_toIntS_loop l hb _ 0 _ (by simp) (by omega) rfl (by simp)

/-! ### laws_eqIntS -/
theorem laws_eqIntS_loop (a b : List Int) (hl : a.length = b.length) (hb : a.length ≤ 17592186044416) (d : Nat) : ∀ n : Nat, n ≤ a.length → a.length - n = d → a.take n = b.take n →
    Ev (fun k => laws_eqIntS.l0 k a b (n : Int)) (decide (a = b)) := by
  induction d with
  | zero =>
    intro n h1 h2 h3
    refine Ev_succ ?_
    simp only [laws_eqIntS.l0]
    refine Ev_neg (by omega) (Ev_some ?_)
    have : n = a.length := by omega
    subst this
    rw [List.take_length, hl, List.take_length] at h3
    simp [h3]
  | succ d ih =>
    intro n h1 h2 h3
    refine Ev_succ ?_
    simp only [laws_eqIntS.l0]
    refine Ev_pos (by omega) (Ev_pos (by omega) (Ev_pos (by omega) ?_))
    rw [rd_cast, rd_cast, wsucc (by omega)]
    refine Ev_ite (fun h => ?_) (fun h => Ev_some ?_)
    · refine ih (n + 1) (by omega) (by omega) ?_
      rw [take_succ_getD a n 0 (by omega), take_succ_getD b n 0 (by omega), h3, h]
    · symm
      rw [decide_eq_false_iff_not]
      intro e
      exact h (by rw [e])

theorem laws_eqIntS_ev (a b : List Int) (hb : a.length ≤ 17592186044416) : Ev (fun k => laws_eqIntS.f k a b) (decide (a = b)) := by
  unfold laws_eqIntS.f
  refine Ev_ite (fun h => ?_) (fun h => Ev_some ?_)
  · exact laws_eqIntS_loop a b (by omega) hb _ 0 (by omega) rfl (by simp)
  · symm
    rw [decide_eq_false_iff_not]
    intro e
    exact h (by rw [e])

/-! ### laws_markIntS -/
theorem laws_markIntS_loop (L : Nat) (m : Int) (hm : 0 ≤ m) (hm2 : m ≤ 17592186044416) (hb : L ≤ 17592186044416) (d : Nat) : ∀ (n : Nat) (acc : List Int), acc.length = L → n ≤ L → L - n = d → acc.take n = iota m n →
    Ev (fun k => laws_markIntS.l0 k acc (m + n) (n : Int)) (m + L, iota m L) := by
  induction d with
  | zero =>
    intro n acc h0 h1 h2 h3
    refine Ev_succ ?_
    simp only [laws_markIntS.l0]
    refine Ev_neg (by omega) (Ev_some ?_)
    have : n = L := by omega
    subst this
    rw [← h3, ← h0, List.take_length]
  | succ d ih =>
    intro n acc h0 h1 h2 h3
    refine Ev_succ ?_
    simp only [laws_markIntS.l0]
    refine Ev_pos (by omega) (Ev_pos (by omega) ?_)
    rw [wsucc (by omega), Int.toNat_natCast, w64 (n := m + (n : Int) + 1) (by omega) (by omega)]
    have e : m + (n : Int) + 1 = m + ((n + 1 : Nat) : Int) := by omega
    rw [e]
    refine ih (n + 1) _ (by simpa using h0) (by omega) (by omega) ?_
    rw [set_take_succ acc n _ (by omega), h3, iota_succ]

theorem laws_markIntS_ev (l : List Int) (m : Int) (hm : 0 ≤ m) (hm2 : m ≤ 17592186044416) (hb : l.length ≤ 17592186044416) : Ev (fun k => laws_markIntS.f k l m) (m + l.length, iota m l.length) := by
  unfold laws_markIntS.f
  have := laws_markIntS_loop l.length m hm hm2 hb _ 0 l rfl (by omega) rfl (by simp [iota])
  simpa using this

/-! ### laws_heldIntS -/
theorem laws_heldIntS_loop (L : Nat) (m : Int) (hm : 0 ≤ m) (hm2 : m ≤ 17592186044416) (hb : L ≤ 17592186044416) (d : Nat) : ∀ (n : Nat), n ≤ L → L - n = d →
    Ev (fun k => laws_heldIntS.l0 k (iota m L) (m + n) (n : Int)) (m + L) := by
  induction d with
  | zero =>
    intro n h1 h2
    refine Ev_succ ?_
    simp only [laws_heldIntS.l0]
    refine Ev_neg (by rw [iota_length]; omega) (Ev_some ?_)
    omega
  | succ d ih =>
    intro n h1 h2
    refine Ev_succ ?_
    simp only [laws_heldIntS.l0]
    refine Ev_pos (by rw [iota_length]; omega) (Ev_pos (by omega) ?_)
    rw [rd_cast, iota_getD m L n (by omega)]
    refine Ev_pos rfl ?_
    rw [wsucc (by omega), w64 (n := m + (n : Int) + 1) (by omega) (by omega)]
    have e : m + (n : Int) + 1 = m + ((n + 1 : Nat) : Int) := by omega
    rw [e]
    exact ih (n + 1) (by omega) (by omega)

theorem laws_heldIntS_ev (L : Nat) (m : Int) (hm : 0 ≤ m) (hm2 : m ≤ 17592186044416) (hb : L ≤ 17592186044416) : Ev (fun k => laws_heldIntS.f k (iota m L) m) (m + L) := by
  unfold laws_heldIntS.f
  have := laws_heldIntS_loop L m hm hm2 hb _ 0 (by omega) rfl
  simpa using this

/-! ### spec_l3Same -/
theorem spec_l3Same_loop (a b : List Int) (hl : a.length = b.length) (hb : a.length ≤ 17592186044416) (d : Nat) : ∀ n : Nat, n ≤ a.length → a.length - n = d → a.take n = b.take n →
    Ev (fun k => spec_l3Same.l0 k a b (n : Int)) (decide (a = b)) := by
  induction d with
  | zero =>
    intro n h1 h2 h3
    refine Ev_succ ?_
    simp only [spec_l3Same.l0]
    refine Ev_neg (by omega) (Ev_some ?_)
    have : n = a.length := by omega
    subst this
    rw [List.take_length, hl, List.take_length] at h3
    simp [h3]
  | succ d ih =>
    intro n h1 h2 h3
    refine Ev_succ ?_
    simp only [spec_l3Same.l0]
    refine Ev_pos (by omega) (Ev_pos (by omega) (Ev_pos (by omega) ?_))
    rw [rd_cast, rd_cast, wsucc (by omega)]
    refine Ev_ite (fun h => ?_) (fun h => Ev_some ?_)
    · refine ih (n + 1) (by omega) (by omega) ?_
      rw [take_succ_getD a n 0 (by omega), take_succ_getD b n 0 (by omega), h3, h]
    · symm
      rw [decide_eq_false_iff_not]
      intro e
      exact h (by rw [e])

theorem spec_l3Same_ev (a b : List Int) (hb : a.length ≤ 17592186044416) : Ev (fun k => spec_l3Same.f k a b) (decide (a = b)) := by
  unfold spec_l3Same.f
  refine Ev_ite (fun h => ?_) (fun h => Ev_some ?_)
  · exact spec_l3Same_loop a b (by omega) hb _ 0 (by omega) rfl (by simp)
  · symm
    rw [decide_eq_false_iff_not]
    intro e
    exact h (by rw [e])

/-! ### spec_OccurrencesOf -/
theorem spec_OccurrencesOf_loop (w u : List Int) (hb : w.length ≤ 1048576) (hu : u.length ≤ 1048576) (d : Nat) : ∀ n : Nat, n + d = w.length + 1 - u.length →
    Ev (fun k => spec_OccurrencesOf.l0 k w u (occTo w u n) (n : Int)) (occ w u) := by
  induction d with
  | zero =>
    intro n h
    refine Ev_succ ?_
    simp only [spec_OccurrencesOf.l0]
    rw [w64 (by omega) (by omega)]
    refine Ev_neg (by omega) (Ev_some ?_)
    have : n = w.length + 1 - u.length := by omega
    subst this
    rfl
  | succ d ih =>
    intro n h
    refine Ev_succ ?_
    simp only [spec_OccurrencesOf.l0]
    rw [wnat (n + u.length) (by omega) (by omega), wsucc (by omega)]
    refine Ev_pos (by omega) (Ev_pos (by omega) (Ev_pos (by omega) ?_))
    rw [Int.toNat_natCast, Int.toNat_natCast]
    refine Ev_call _ (spec_l3Same_ev _ _ (by simp; omega)) ?_
    have hl := occTo_length w u n
    refine Ev_ite (fun c => Ev_pos (by omega) ?_) (fun c => ?_)
    · refine Ev_eq (ih (n + 1) (by omega)) rfl |> fun e => ?_
      rw [occTo_succ, if_pos (by simpa using c)] at e
      exact e
    · refine Ev_eq (ih (n + 1) (by omega)) rfl |> fun e => ?_
      rw [occTo_succ, if_neg (by simpa using c), List.append_nil] at e
      exact e

theorem spec_OccurrencesOf_ev (w u : List Int) (hb : w.length ≤ 1048576) (hu : u.length ≤ 1048576) : Ev (fun k => spec_OccurrencesOf.f k w u) (occ w u) := by
  unfold spec_OccurrencesOf.f
  exact spec_OccurrencesOf_loop w u hb hu _ 0 (Nat.zero_add _)

/-! ### slices_Equal_int_int -/
theorem slices_Equal_int_int_loop (a b : List Int) (hl : a.length = b.length) (hb : a.length ≤ 17592186044416) (d : Nat) : ∀ n : Nat, n ≤ a.length → a.length - n = d → a.take n = b.take n →
    Ev (fun k => slices_Equal_int_int.l0 k a b (a.length : Int) (n : Int)) (decide (a = b)) := by
  induction d with
  | zero =>
    intro n h1 h2 h3
    refine Ev_succ ?_
    simp only [slices_Equal_int_int.l0]
    refine Ev_neg (by omega) (Ev_some ?_)
    have : n = a.length := by omega
    subst this
    rw [List.take_length, hl, List.take_length] at h3
    simp [h3]
  | succ d ih =>
    intro n h1 h2 h3
    refine Ev_succ ?_
    simp only [slices_Equal_int_int.l0]
    refine Ev_pos (by omega) (Ev_pos (by omega) (Ev_pos (by omega) (Ev_pos (by omega) ?_)))
    rw [rd_cast, rd_cast, wsucc (by omega)]
    refine Ev_ite (fun h => ?_) (fun h => Ev_some ?_)
    · refine ih (n + 1) (by omega) (by omega) ?_
      rw [take_succ_getD a n 0 (by omega), take_succ_getD b n 0 (by omega), h3, h]
    · symm
      rw [decide_eq_false_iff_not]
      intro e
      exact h (by rw [e])

theorem slices_Equal_int_int_ev (a b : List Int) (hb : a.length ≤ 17592186044416) : Ev (fun k => slices_Equal_int_int.f k a b) (decide (a = b)) := by
  unfold slices_Equal_int_int.f
  refine Ev_ite (fun h => ?_) (fun h => Ev_some ?_)
  · exact slices_Equal_int_int_loop a b (by omega) hb _ 0 (by omega) rfl (by simp)
  · symm
    rw [decide_eq_false_iff_not]
    intro e
    exact h (by rw [e])

/-! ### impl_OccurrencesOf -/
theorem impl_OccurrencesOf_loop (w u : List Int) (hb : w.length ≤ 1048576) (hu : u.length ≤ 1048576) (d : Nat) : ∀ n : Nat, n + d = w.length + 1 - u.length →
    Ev (fun k => impl_OccurrencesOf.l0 k w u (occTo w u n) (n : Int)) (occ w u) := by
  induction d with
  | zero =>
    intro n h
    refine Ev_succ ?_
    simp only [impl_OccurrencesOf.l0]
    rw [w64 (by omega) (by omega)]
    refine Ev_neg (by omega) (Ev_some ?_)
    have : n = w.length + 1 - u.length := by omega
    subst this
    rfl
  | succ d ih =>
    intro n h
    refine Ev_succ ?_
    simp only [impl_OccurrencesOf.l0]
    rw [wnat (n + u.length) (by omega) (by omega), wsucc (by omega)]
    refine Ev_pos (by omega) (Ev_pos (by omega) (Ev_pos (by omega) ?_))
    rw [Int.toNat_natCast, Int.toNat_natCast]
    refine Ev_call _ (slices_Equal_int_int_ev _ _ (by simp; omega)) ?_
    have hl := occTo_length w u n
    refine Ev_ite (fun c => Ev_pos (by omega) ?_) (fun c => ?_)
    · refine Ev_eq (ih (n + 1) (by omega)) rfl |> fun e => ?_
      rw [occTo_succ, if_pos (by simpa using c)] at e
      exact e
    · refine Ev_eq (ih (n + 1) (by omega)) rfl |> fun e => ?_
      rw [occTo_succ, if_neg (by simpa using c), List.append_nil] at e
      exact e

theorem impl_OccurrencesOf_ev (w u : List Int) (hb : w.length ≤ 1048576) (hu : u.length ≤ 1048576) : Ev (fun k => impl_OccurrencesOf.f k w u) (occ w u) := by
  unfold impl_OccurrencesOf.f
  exact impl_OccurrencesOf_loop w u hb hu _ 0 (Nat.zero_add _)

theorem FnExactOccurrencesOf : laws_FnExactOccurrencesOf.Pure := by
  intro l u _ _ _ _ _ _
  refine Ev.rounds ?_
  unfold laws_FnExactOccurrencesOf.f
  refine Ev_ite (fun _ => Ev.now _) (fun h => Ev_ite (fun _ => Ev.now _) (fun h' => ?_))
  have hb : l.length ≤ 1048576 := by omega
  have hu : u.length ≤ 1048576 := by omega
  have t1 := laws_toIntS_ev l (by omega)
  have t2 := laws_toIntS_ev u (by omega)
  have h1 := spec_OccurrencesOf_ev l u hb hu
  have h2 := impl_OccurrencesOf_ev l u hb hu
  have ho : (occ l u).length ≤ 1048577 := by have := occTo_length l u (l.length + 1 - u.length); unfold occ; omega
  repeat (first
    | exact Ev.now _
    | (refine Ev_call _ (by with_reducible assumption) ?_; try dsimp only)
    | (refine Ev_call _ (laws_markIntS_ev _ _ (by omega) (by omega) (by omega)) ?_; try dsimp only)
    | (refine Ev_call _ (laws_heldIntS_ev _ _ (by omega) (by omega) (by omega)) ?_; try dsimp only)
    | refine Ev_call _ (laws_eqIntS_ev _ _ (by omega)) ?_
    | refine Ev_pos (by first | rfl | omega | (simp; done)) ?_
    | refine Ev_neg (by first | omega | (simp; done)) ?_
    | (refine Ev_succ ?_; simp only [laws_FnExactOccurrencesOf.j0]))

end Go.Proofs.Ytoaonfacjcienaa.Pure
