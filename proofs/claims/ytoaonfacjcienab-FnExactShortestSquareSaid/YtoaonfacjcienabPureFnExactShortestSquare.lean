/- The pure statement of FnExactShortestSquare: at every list the law's answer is true. -/
import Derived.Test.YtoaonfacjcienabMFnExactShortestSquarex3
import Derived.Test.YtoaonfacjcienabG0
import Derived.Test.YtoaonfacjcienabGSized
import Derived.Test.YtoaonfacjcienabG2
import Derived.Test.YtoaonfacjcienabG5
import Derived.Test.YtoaonfacjcienabG5b
namespace Go.Proofs.Ytoaonfacjcienab.Pure
open Go.RowKit Go.Proofs.Ytoaonfacjcienab.PFnExactShortestSquare Go.Proofs.YtoaonfacjcienabW.PrintWords Go.Proofs.YtoaonfacjcienabW.PrintLast Go.Proofs.YtoaonfacjcienabW.PrintMore Go.Proofs.Ytoaonfacjcienab.G
set_option linter.unusedVariables false
set_option linter.unusedSimpArgs false

/-! ### laws_toIntS -/
theorem laws_toIntS_loop (l : List Int) (hb : l.length ≤ 17592186044416) (d : Nat) : ∀ (n : Nat) (acc : List Int), acc.length = l.length → n ≤ l.length → l.length - n = d → acc.take n = l.take n →
    Ev (fun k => laws_toIntS.l0 k l acc (n : Int)) l := by
  induction d with
  | zero =>
    intro n acc h0 h1 h2 h3
    refine Ev_succ ?_
    simp only [laws_toIntS.l0]
    refine Ev_neg (by omega) (Ev_some ?_)
    have : n = l.length := by omega
    subst this
    rw [List.take_length, ← h0, List.take_length] at h3
    exact h3
  | succ d ih =>
    intro n acc h0 h1 h2 h3
    refine Ev_succ ?_
    simp only [laws_toIntS.l0]
    refine Ev_pos (by omega) (Ev_pos (by omega) (Ev_pos (by omega) ?_))
    rw [rd_cast, wsucc (by omega), Int.toNat_natCast]
    refine ih (n + 1) _ (by simpa using h0) (by omega) (by omega) ?_
    rw [set_take_succ acc n _ (by omega), take_succ_getD l n 0 (by omega), h3]

theorem laws_toIntS_ev (l : List Int) (hb : l.length ≤ 17592186044416) : Ev (fun k => laws_toIntS.f k l) l := by
  unfold laws_toIntS.f
  refine Ev_pos (by omega) (Ev_pos (by omega) ?_)
  exact laws_toIntS_loop l hb _ 0 _ (by simp) (by omega) rfl (by simp)

/-! ### laws_eqIntS -/
theorem laws_eqIntS_loop (a b : List Int) (hl : a.length = b.length) (hb : a.length ≤ 17592186044416) (d : Nat) : ∀ n : Nat, n ≤ a.length → a.length - n = d → a.take n = b.take n →
    Ev (fun k => laws_eqIntS.l0 k a b (n : Int)) (decide (a = b)) := by
  induction d with
  | zero =>
    intro n h1 h2 h3
    refine Ev_succ ?_
    simp only [laws_eqIntS.l0]
    refine Ev_neg (by omega) (Ev_some ?_)
    have : n = a.length := by omega
    subst this
    rw [List.take_length, hl, List.take_length] at h3
    simp [h3]
  | succ d ih =>
    intro n h1 h2 h3
    refine Ev_succ ?_
    simp only [laws_eqIntS.l0]
    refine Ev_pos (by omega) (Ev_pos (by omega) (Ev_pos (by omega) ?_))
    rw [rd_cast, rd_cast, wsucc (by omega)]
    refine Ev_ite (fun h => ?_) (fun h => Ev_some ?_)
    · refine ih (n + 1) (by omega) (by omega) ?_
      rw [take_succ_getD a n 0 (by omega), take_succ_getD b n 0 (by omega), h3, h]
    · symm
      rw [decide_eq_false_iff_not]
      intro e
      exact h (by rw [e])

theorem laws_eqIntS_ev (a b : List Int) (hb : a.length ≤ 17592186044416) : Ev (fun k => laws_eqIntS.f k a b) (decide (a = b)) := by
  unfold laws_eqIntS.f
  refine Ev_ite (fun h => ?_) (fun h => Ev_some ?_)
  · exact laws_eqIntS_loop a b (by omega) hb _ 0 (by omega) rfl (by simp)
  · symm
    rw [decide_eq_false_iff_not]
    intro e
    exact h (by rw [e])

/-! ### powers -/
instance (w : List Int) (p a c : Nat) : Decidable (Rep w p a c) := by unfold Rep; infer_instance

/-- The squares that begin at a, from the period p on (f: how many more to try). -/
def sqRow (w : List Int) (a : Nat) : Nat → Nat → List S36
  | 0, _ => []
  | f + 1, p => if a + 2 * p ≤ w.length then (if Rep w p a p then [⟨(a : Int), (p : Int), ((2 * p : Nat) : Int)⟩] else []) ++ sqRow w a f (p + 1) else []

/-- The squares that begin at a or behind. -/
def sqAll (w : List Int) : Nat → Nat → List S36
  | 0, _ => []
  | f + 1, a => if a < w.length then sqRow w a w.length 1 ++ sqAll w f (a + 1) else []

def sqs (w : List Int) : List S36 := if 64 < w.length then [] else sqAll w w.length 0

theorem sqRow_length (w : List Int) (a : Nat) : ∀ f p, (sqRow w a f p).length ≤ f := by
  intro f
  induction f with
  | zero => intro p; simp [sqRow]
  | succ f ih =>
    intro p
    rw [sqRow]
    have := ih (p + 1)
    split
    · split <;> simp <;> omega
    · simp

theorem sqAll_length (w : List Int) : ∀ f a, (sqAll w f a).length ≤ f * w.length := by
  intro f
  induction f with
  | zero => intro a; simp [sqAll]
  | succ f ih =>
    intro a
    rw [sqAll]
    have h1 := ih (a + 1)
    have h2 := sqRow_length w a w.length 1
    split
    · rw [List.length_append, Nat.succ_mul]; omega
    · simp

theorem sqs_length (w : List Int) : (sqs w).length ≤ 4096 := by
  unfold sqs
  split
  · simp
  · have h1 := sqAll_length w w.length 0
    have h2 : w.length * w.length ≤ 64 * 64 := Nat.mul_le_mul (by omega) (by omega)
    omega

theorem sqRow_pos (w : List Int) (a : Nat) : ∀ f p, 1 ≤ p → ∀ x ∈ sqRow w a f p, 1 ≤ x.f1 := by
  intro f
  induction f with
  | zero => intro p _ x hx; simp [sqRow] at hx
  | succ f ih =>
    intro p hp x hx
    rw [sqRow] at hx
    split at hx
    · rw [List.mem_append] at hx
      rcases hx with hx | hx
      · split at hx
        · simp at hx; subst hx; simp only []; omega
        · simp at hx
      · exact ih (p + 1) (by omega) x hx
    · simp at hx

theorem sqAll_pos (w : List Int) : ∀ f a, ∀ x ∈ sqAll w f a, 1 ≤ x.f1 := by
  intro f
  induction f with
  | zero => intro a x hx; simp [sqAll] at hx
  | succ f ih =>
    intro a x hx
    rw [sqAll] at hx
    split at hx
    · rw [List.mem_append] at hx
      rcases hx with hx | hx
      · exact sqRow_pos w a _ 1 (by omega) x hx
      · exact ih (a + 1) x hx
    · simp at hx

theorem sqs_pos (w : List Int) : ∀ x ∈ sqs w, 1 ≤ x.f1 := by
  unfold sqs
  split
  · intro x hx; simp at hx
  · exact sqAll_pos w _ _

/-! ### spec_l10Match -/
theorem spec_l10Match_loop (w : List Int) (hb : w.length ≤ 1048576) (a p : Nat) (d : Nat) : ∀ c : Nat, Rep w p a c → w.length - (a + p + c) = d →
    ∃ C : Nat, RepMax w p a C ∧ Ev (fun k => spec_l10Match.l0 k w (a : Int) (p : Int) ((p + c : Nat) : Int)) ((C + p : Nat) : Int) := by
  induction d with
  | zero =>
    intro c h hd
    have h1 := h.1
    refine ⟨c, ⟨h, fun c' h' => by have := h'.1; omega⟩, Ev_succ ?_⟩
    simp only [spec_l10Match.l0]
    rw [wnat (x := (a : Int) + ((p + c : Nat) : Int)) (a + (p + c)) (by omega) (by omega), w64 (n := (w.length : Int) - a) (by omega) (by omega), mn_eq]
    exact Ev_neg (by omega) (Ev_some (by omega))
  | succ d ih =>
    intro c h hd
    have h1 := h.1
    by_cases e : w.getD (a + c) 0 = w.getD (a + c + p) 0
    · obtain ⟨C, hC, hev⟩ := ih (c + 1) (h.more (by omega) e) (by omega)
      refine ⟨C, hC, Ev_succ ?_⟩
      simp only [spec_l10Match.l0]
      rw [wnat (x := (a : Int) + ((p + c : Nat) : Int)) (a + (p + c)) (by omega) (by omega), wnat (x := ((a + (p + c) : Nat) : Int) - p) (a + c) (by omega) (by omega), rd_cast, rd_cast, wsucc (by omega)]
      refine Ev_pos (by omega) (Ev_pos (by omega) (Ev_pos (by omega) (Ev_pos (by omega) (Ev_pos ?_ hev))))
      rw [e]; congr 1; omega
    · refine ⟨c, ⟨h, fun c' h' => ?_⟩, Ev_succ ?_⟩
      · apply Nat.le_of_not_lt
        intro hlt
        exact e (h'.2 c hlt)
      · simp only [spec_l10Match.l0]
        rw [wnat (x := (a : Int) + ((p + c : Nat) : Int)) (a + (p + c)) (by omega) (by omega), wnat (x := ((a + (p + c) : Nat) : Int) - p) (a + c) (by omega) (by omega), w64 (n := (w.length : Int) - a) (by omega) (by omega), mn_eq, rd_cast, rd_cast]
        refine Ev_pos (by omega) (Ev_pos (by omega) (Ev_pos (by omega) (Ev_pos (by omega) (Ev_neg ?_ (Ev_some (by omega))))))
        rw [show a + (p + c) = a + c + p by omega]
        exact fun x => e x.symm

theorem spec_l10Match_ev (w : List Int) (hb : w.length ≤ 1048576) (a p : Nat) (h : a + p ≤ w.length) :
    ∃ C : Nat, RepMax w p a C ∧ Ev (fun k => spec_l10Match.f k w (a : Int) (p : Int)) ((C + p : Nat) : Int) := by
  unfold spec_l10Match.f
  exact spec_l10Match_loop w hb a p _ 0 ⟨by omega, fun j hj => by omega⟩ rfl

/-! ### spec_SquaresOf -/
theorem spec_SquaresOf_l1 (w : List Int) (hb : w.length ≤ 64) (a : Nat) (ha : a < w.length) (r : List S36) (f : Nat) : ∀ (p : Nat) (out : List S36), 1 ≤ p → w.length < a + 2 * p + 2 * f → p ≤ w.length + 1 → out.length ≤ a * w.length + p →
    Ev (fun k => spec_SquaresOf.l0 k w (out ++ sqRow w a f p) ((a + 1 : Nat) : Int)) r → Ev (fun k => spec_SquaresOf.l1 k w out (a : Int) (p : Int)) r := by
  have hm : a * w.length ≤ 64 * 64 := Nat.mul_le_mul (by omega) (by omega)
  induction f with
  | zero =>
    intro p out h1 h2 h3 h4 h5
    refine Ev_succ ?_
    simp only [spec_SquaresOf.l1]
    rw [wnat (x := 2 * (p : Int)) (2 * p) (by omega) (by omega), w64 (n := (a : Int) + ((2 * p : Nat) : Int)) (by omega) (by omega), wsucc (n := a) (by omega)]
    simp only [sqRow, List.append_nil] at h5
    exact Ev_neg (by omega) h5
  | succ f ih =>
    intro p out h1 h2 h3 h4 h5
    refine Ev_succ ?_
    simp only [spec_SquaresOf.l1]
    rw [wnat (x := 2 * (p : Int)) (2 * p) (by omega) (by omega), w64 (n := (a : Int) + ((2 * p : Nat) : Int)) (by omega) (by omega), wsucc (n := a) (by omega)]
    rw [sqRow] at h5
    by_cases c : a + 2 * p ≤ w.length
    · rw [if_pos c] at h5
      obtain ⟨C, hC, hev⟩ := spec_l10Match_ev w (by omega) a p (by omega)
      refine Ev_pos (by omega) (Ev_call _ hev ?_)
      rw [wsucc (n := p) (by omega)]
      by_cases c2 : Rep w p a p
      · rw [if_pos c2] at h5
        have hle := hC.2 _ c2
        refine Ev_pos (by omega) (Ev_pos (by omega) ?_)
        refine ih (p + 1) _ (by omega) (by omega) (by omega) (by simp; omega) ?_
        simpa using h5
      · rw [if_neg c2] at h5
        have hlt : C < p := by
          apply Nat.lt_of_not_le
          intro hle
          exact c2 (hC.1.less hle)
        refine Ev_neg (by omega) ?_
        refine ih (p + 1) _ (by omega) (by omega) (by omega) (by omega) ?_
        simpa using h5
    · rw [if_neg c] at h5
      simp only [List.append_nil] at h5
      exact Ev_neg (by omega) h5

theorem spec_SquaresOf_l0 (w : List Int) (hb : w.length ≤ 64) (f : Nat) : ∀ (a : Nat) (out : List S36), w.length ≤ a + f → a ≤ w.length → out.length ≤ a * w.length →
    Ev (fun k => spec_SquaresOf.l0 k w out (a : Int)) (out ++ sqAll w f a) := by
  induction f with
  | zero =>
    intro a out h1 h2 h3
    refine Ev_succ ?_
    simp only [spec_SquaresOf.l0]
    exact Ev_neg (by omega) (Ev_some (by simp [sqAll]))
  | succ f ih =>
    intro a out h1 h2 h3
    refine Ev_succ ?_
    simp only [spec_SquaresOf.l0]
    rw [sqAll]
    by_cases c : a < w.length
    · rw [if_pos c]
      refine Ev_pos (by omega) ?_
      refine spec_SquaresOf_l1 w hb a c _ w.length 1 out (by omega) (by omega) (by omega) (by omega) ?_
      rw [← List.append_assoc]
      refine ih (a + 1) _ (by omega) (by omega) ?_
      have := sqRow_length w a w.length 1
      rw [List.length_append, Nat.succ_mul]
      omega
    · rw [if_neg c]
      exact Ev_neg (by omega) (Ev_some (by simp))

theorem spec_SquaresOf_ev (w : List Int) (hb : w.length ≤ 1048576) : Ev (fun k => spec_SquaresOf.f k w) (sqs w) := by
  unfold spec_SquaresOf.f sqs
  simp only [Option.bind_some]
  by_cases h : 64 < w.length
  · rw [if_pos h]
    exact Ev_pos (by omega) (Ev.now _)
  · rw [if_neg h]
    exact Ev_neg (by omega) (spec_SquaresOf_l0 w (by omega) w.length 0 [] (by omega) (by omega) (by simp))

/-! ### slices_Compare_int_int -/
theorem cmp_Compare_int_eq (a b : Int) : cmp_Compare_int.f a b = some (if a < b then -1 else if b < a then 1 else 0) := by
  unfold cmp_Compare_int.f cmp_isNaN_int.f
  simp only [Option.bind_some, bne_self_eq_false, Bool.false_eq_true, if_false]
  split
  · rfl
  · split <;> rfl

theorem slices_Compare_int_int_loop (u v : List Int) (hu : u.length ≤ 1048576) (d : Nat) : ∀ n : Nat, n + d = u.length → n ≤ v.length →
    Ev (fun k => slices_Compare_int_int.l0 k u v u (u.length : Int) (n : Int)) (cmpW (u.drop n) (v.drop n)) := by
  induction d with
  | zero =>
    intro n h h2
    have hn : n = u.length := by omega
    subst hn
    refine Ev_succ ?_
    simp only [slices_Compare_int_int.l0]
    refine Ev_neg (by omega) ?_
    rw [List.drop_length, cmpW_nil_left]
    by_cases c : u.length < v.length
    · refine Ev_pos (by omega) (Ev_some ?_)
      rw [if_neg (by simp; omega)]
    · refine Ev_neg (by omega) (Ev_some ?_)
      rw [if_pos (by simp; omega)]
  | succ d ih =>
    intro n h h2
    refine Ev_succ ?_
    simp only [slices_Compare_int_int.l0]
    refine Ev_pos (by omega) (Ev_pos (by omega) (Ev_pos (by omega) ?_))
    by_cases c : n < v.length
    · refine Ev_neg (by omega) (Ev_pos (by omega) ?_)
      simp only [cmp_Compare_int_eq, Option.bind_some]
      rw [rd_cast, rd_cast, drop_cons u n 0 (by omega), drop_cons v n 0 c, cmpW_cons, wsucc (by omega)]
      by_cases g : u.getD n 0 < v.getD n 0
      · rw [if_pos g, if_pos g]
        exact Ev_neg (by omega) (Ev.now _)
      · rw [if_neg g, if_neg g]
        by_cases g2 : v.getD n 0 < u.getD n 0
        · rw [if_pos g2, if_pos g2]
          exact Ev_neg (by omega) (Ev.now _)
        · rw [if_neg g2, if_neg g2]
          exact Ev_pos rfl (ih (n + 1) (by omega) (by omega))
    · refine Ev_pos (by omega) (Ev_some ?_)
      rw [List.drop_eq_nil_of_le (show v.length ≤ n by omega), cmpW_nil_right, if_neg (by simp; omega)]

theorem slices_Compare_int_int_ev (u v : List Int) (hu : u.length ≤ 1048576) : Ev (fun k => slices_Compare_int_int.f k u v) (cmpW u v) := by
  unfold slices_Compare_int_int.f
  exact slices_Compare_int_int_loop u v hu _ 0 (Nat.zero_add _) (by omega)

/-! ### impl_CompareWords -/
theorem impl_CompareWords_ev (u v : List Int) (hu : u.length ≤ 1048576) : Ev (fun k => impl_CompareWords.f k u v) (cmpW u v) := by
  unfold impl_CompareWords.f
  exact Ev_call _ (slices_Compare_int_int_ev u v hu) (Ev.now _)

/-! ### impl_SquaresOf -/
theorem rep_cut (w : List Int) (a p : Nat) (h : a + 2 * p ≤ w.length) : (w.take (a + p)).drop a = (w.take (a + 2 * p)).drop (a + p) ↔ Rep w p a p := by
  have l1 : ((w.take (a + p)).drop a).length = p := by simp; omega
  have l2 : ((w.take (a + 2 * p)).drop (a + p)).length = p := by simp; omega
  have g1 : ∀ i, i < p → ((w.take (a + p)).drop a).getD i 0 = w.getD (a + i) 0 := fun i hi => by rw [getD_drop, getD_take _ _ _ _ (by omega)]
  have g2 : ∀ i, i < p → ((w.take (a + 2 * p)).drop (a + p)).getD i 0 = w.getD (a + i + p) 0 := fun i hi => by rw [getD_drop, getD_take _ _ _ _ (by omega)]; congr 1; omega
  constructor
  · intro e
    refine ⟨by omega, fun i hi => ?_⟩
    rw [← g1 i hi, e, g2 i hi]
  · intro e
    apply ext_getD 0 (by omega)
    intro i hi
    rw [g1 i (by omega), g2 i (by omega)]
    exact e.2 i (by omega)

theorem impl_SquaresOf_l1 (w : List Int) (hb : w.length ≤ 64) (a : Nat) (ha : a < w.length) (r : List S36) (f : Nat) : ∀ (p : Nat) (out : List S36), 1 ≤ p → w.length < a + 2 * p + 2 * f → p ≤ w.length + 1 → out.length ≤ a * w.length + p →
    Ev (fun k => impl_SquaresOf.l0 k w (out ++ sqRow w a f p) (w.length : Int) ((a + 1 : Nat) : Int)) r → Ev (fun k => impl_SquaresOf.l1 k w out (a : Int) (p : Int) (w.length : Int) (a : Int)) r := by
  have hm : a * w.length ≤ 64 * 64 := Nat.mul_le_mul (by omega) (by omega)
  induction f with
  | zero =>
    intro p out h1 h2 h3 h4 h5
    refine Ev_succ ?_
    simp only [impl_SquaresOf.l1]
    rw [wnat (x := 2 * (p : Int)) (2 * p) (by omega) (by omega), w64 (n := (a : Int) + ((2 * p : Nat) : Int)) (by omega) (by omega), wsucc (n := a) (by omega)]
    simp only [sqRow, List.append_nil] at h5
    exact Ev_neg (by omega) h5
  | succ f ih =>
    intro p out h1 h2 h3 h4 h5
    refine Ev_succ ?_
    simp only [impl_SquaresOf.l1]
    rw [wnat (x := 2 * (p : Int)) (2 * p) (by omega) (by omega), wnat (x := (a : Int) + ((2 * p : Nat) : Int)) (a + 2 * p) (by omega) (by omega), wsucc (n := a) (by omega), wnat (x := (a : Int) + p) (a + p) (by omega) (by omega)]
    rw [sqRow] at h5
    by_cases c : a + 2 * p ≤ w.length
    · rw [if_pos c] at h5
      rw [Int.toNat_natCast, Int.toNat_natCast, Int.toNat_natCast, wsucc (n := p) (by omega)]
      refine Ev_pos (by omega) (Ev_pos (by omega) (Ev_pos (by omega) (Ev_pos (by omega) (Ev_pos (by omega) (Ev_pos (by omega) (Ev_call _ (impl_CompareWords_ev _ _ (by simp; omega)) ?_))))))
      by_cases c2 : Rep w p a p
      · rw [if_pos c2] at h5
        refine Ev_pos ((cmpW_zero _ _).2 ((rep_cut w a p c).2 c2)) (Ev_pos (by omega) ?_)
        refine ih (p + 1) _ (by omega) (by omega) (by omega) (by simp; omega) ?_
        simpa using h5
      · rw [if_neg c2] at h5
        refine Ev_neg (fun h => c2 ((rep_cut w a p c).1 ((cmpW_zero _ _).1 h))) ?_
        refine ih (p + 1) _ (by omega) (by omega) (by omega) (by omega) ?_
        simpa using h5
    · rw [if_neg c] at h5
      simp only [List.append_nil] at h5
      exact Ev_neg (by omega) h5

theorem impl_SquaresOf_l0 (w : List Int) (hb : w.length ≤ 64) (f : Nat) : ∀ (a : Nat) (out : List S36), w.length ≤ a + f → a ≤ w.length → out.length ≤ a * w.length →
    Ev (fun k => impl_SquaresOf.l0 k w out (w.length : Int) (a : Int)) (out ++ sqAll w f a) := by
  induction f with
  | zero =>
    intro a out h1 h2 h3
    refine Ev_succ ?_
    simp only [impl_SquaresOf.l0]
    exact Ev_neg (by omega) (Ev_some (by simp [sqAll]))
  | succ f ih =>
    intro a out h1 h2 h3
    refine Ev_succ ?_
    simp only [impl_SquaresOf.l0]
    rw [sqAll]
    by_cases c : a < w.length
    · rw [if_pos c]
      refine Ev_pos (by omega) ?_
      refine impl_SquaresOf_l1 w hb a c _ w.length 1 out (by omega) (by omega) (by omega) (by omega) ?_
      rw [← List.append_assoc]
      refine ih (a + 1) _ (by omega) (by omega) ?_
      have := sqRow_length w a w.length 1
      rw [List.length_append, Nat.succ_mul]
      omega
    · rw [if_neg c]
      exact Ev_neg (by omega) (Ev_some (by simp))

theorem impl_SquaresOf_ev (w : List Int) (hb : w.length ≤ 1048576) : Ev (fun k => impl_SquaresOf.f k w) (sqs w) := by
  unfold impl_SquaresOf.f sqs
  simp only [Option.bind_some]
  by_cases h : 64 < w.length
  · rw [if_pos h]
    exact Ev_pos (by omega) (Ev.now _)
  · rw [if_neg h]
    exact Ev_neg (by omega) (impl_SquaresOf_l0 w (by omega) w.length 0 [] (by omega) (by omega) (by simp))

/-- The first square of least period. -/
def short (b : Int × Int × Int) : List S36 → Int × Int × Int
  | [] => b
  | x :: l => short (if b.2.1 = 0 ∨ x.f1 < b.2.1 then (x.f0, x.f1, x.f2) else b) l

theorem short_pos (l : List S36) : ∀ b : Int × Int × Int, 0 ≤ b.2.1 → (∀ x ∈ l, 1 ≤ x.f1) → 0 ≤ (short b l).2.1 := by
  induction l with
  | nil => intro b h _; exact h
  | cons x l ih =>
    intro b h hx
    rw [short]
    refine ih _ ?_ (fun y hy => hx y (List.mem_cons_of_mem _ hy))
    split
    · have := hx x List.mem_cons_self; simp only []; omega
    · exact h

theorem spec_ShortestSquare_loop (l : List S36) (hb : l.length ≤ 1048576) (hp : ∀ x ∈ l, 1 ≤ x.f1) (d : Nat) : ∀ (n : Nat) (b0 b1 b2 : Int), n + d = l.length → 0 ≤ b1 →
    Ev (fun k => spec_ShortestSquare.l0 k l (decide (b1 > 0)) (n : Int) b0 b1 b2) ((short (b0, b1, b2) (l.drop n)).1, (short (b0, b1, b2) (l.drop n)).2.1, (short (b0, b1, b2) (l.drop n)).2.2, decide ((short (b0, b1, b2) (l.drop n)).2.1 > 0)) := by
  induction d with
  | zero =>
    intro n b0 b1 b2 h h0
    refine Ev_succ ?_
    simp only [spec_ShortestSquare.l0]
    rw [List.drop_eq_nil_of_le (by omega)]
    exact Ev_neg (by omega) (Ev.now _)
  | succ d ih =>
    intro n b0 b1 b2 h h0
    refine Ev_succ ?_
    simp only [spec_ShortestSquare.l0, rd_T36, Int.toNat_natCast]
    rw [drop_cons l n z36 (by omega), short, wsucc (n := n) (by omega)]
    have hx := hp (l.getD n z36) (by rw [getD_eq (by omega)]; exact List.getElem_mem _)
    have hpos : decide ((l.getD n z36).f1 > 0) = true := by rw [decide_eq_true_eq]; omega
    have i1 := ih (n + 1) (l.getD n z36).f0 (l.getD n z36).f1 (l.getD n z36).f2 (by omega) (by omega)
    have i2 := ih (n + 1) b0 b1 b2 (by omega) h0
    rw [hpos] at i1
    refine Ev_pos (by omega) ?_
    by_cases c : b1 > 0
    · rw [decide_eq_true c] at i2 ⊢
      refine Ev_pos rfl (Ev_pos (by omega) ?_)
      by_cases c2 : (l.getD n z36).f1 < b1
      · rw [if_pos (Or.inr c2)]; exact Ev_pos c2 i1
      · rw [if_neg (by simp only []; omega)]; exact Ev_neg c2 i2
    · rw [decide_eq_false c]
      rw [if_pos (Or.inl (by simp only []; omega))]
      exact Ev_neg (by simp) (Ev_pos (by omega) i1)

theorem impl_ShortestSquare_loop (l : List S36) (hb : l.length ≤ 1048576) (hp : ∀ x ∈ l, 1 ≤ x.f1) (d : Nat) : ∀ (n : Nat) (b0 b1 b2 : Int), n + d = l.length → 0 ≤ b1 →
    Ev (fun k => impl_ShortestSquare.l0 k l (l.length : Int) (n : Int) b0 b1 b2) ((short (b0, b1, b2) (l.drop n)).1, (short (b0, b1, b2) (l.drop n)).2.1, (short (b0, b1, b2) (l.drop n)).2.2, decide ((short (b0, b1, b2) (l.drop n)).2.1 > 0)) := by
  induction d with
  | zero =>
    intro n b0 b1 b2 h h0
    refine Ev_succ ?_
    simp only [impl_ShortestSquare.l0]
    rw [List.drop_eq_nil_of_le (by omega)]
    exact Ev_neg (by omega) (Ev.now _)
  | succ d ih =>
    intro n b0 b1 b2 h h0
    refine Ev_succ ?_
    simp only [impl_ShortestSquare.l0, rd_T36, Int.toNat_natCast]
    rw [drop_cons l n z36 (by omega), short, wsucc (n := n) (by omega)]
    have hx := hp (l.getD n z36) (by rw [getD_eq (by omega)]; exact List.getElem_mem _)
    have i1 := ih (n + 1) (l.getD n z36).f0 (l.getD n z36).f1 (l.getD n z36).f2 (by omega) (by omega)
    have i2 := ih (n + 1) b0 b1 b2 (by omega) h0
    refine Ev_pos (by omega) (Ev_pos (by omega) (Ev_pos (by omega) ?_))
    by_cases c : b1 = 0
    · rw [if_pos (Or.inl c)]
      exact Ev_pos c i1
    · refine Ev_neg c ?_
      by_cases c2 : (l.getD n z36).f1 < b1
      · rw [if_pos (Or.inr c2)]; exact Ev_pos c2 i1
      · rw [if_neg (by simp only []; omega)]; exact Ev_neg c2 i2

theorem both_ShortestSquare (w : List Int) (hb : w.length ≤ 1048576) : ∃ r : Int × Int × Int × Bool, Ev (fun k => spec_ShortestSquare.f k w) r ∧ Ev (fun k => impl_ShortestSquare.f k w) r := by
  unfold spec_ShortestSquare.f impl_ShortestSquare.f
  have hl := sqs_length w
  have hp := sqs_pos w
  exact ⟨_, Ev_call _ (spec_SquaresOf_ev w hb) (spec_ShortestSquare_loop _ (by omega) hp _ 0 0 0 0 (Nat.zero_add _) (by omega)),
    Ev_call _ (impl_SquaresOf_ev w hb) (impl_ShortestSquare_loop _ (by omega) hp _ 0 0 0 0 (Nat.zero_add _) (by omega))⟩

theorem laws_eqPower_refl (a b c : Int) : laws_eqPower.f a b c a b c = some true := by
  unfold laws_eqPower.f
  simp

theorem FnExactShortestSquare : laws_FnExactShortestSquare.Pure := by
  intro l _ _ _
  refine Ev.rounds ?_
  unfold laws_FnExactShortestSquare.f
  refine Ev_ite (fun _ => Ev.now _) (fun h => ?_)
  have hb : l.length ≤ 1048576 := by omega
  have t1 := laws_toIntS_ev l (by omega)
  obtain ⟨r, h1, h2⟩ := both_ShortestSquare l hb
  refine Ev_call _ t1 (Ev_call _ h1 (Ev_call _ t1 (Ev_call _ h2 ?_)))
  simp only [laws_eqPower_refl, Option.bind_some]
  repeat (first
    | exact Ev.now _
    | (refine Ev_call _ (by with_reducible assumption) ?_; try dsimp only)
    | refine Ev_call _ (laws_eqIntS_ev _ _ (by omega)) ?_
    | (refine Ev_pos ?hc ?_; (case hc => first | with_reducible rfl | omega | (simp; done)))
    | (refine Ev_neg ?hc ?_; (case hc => first | omega | (simp; done)))
    | (refine Ev_succ ?_; simp only [laws_FnExactShortestSquare.j0]))

end Go.Proofs.Ytoaonfacjcienab.Pure
