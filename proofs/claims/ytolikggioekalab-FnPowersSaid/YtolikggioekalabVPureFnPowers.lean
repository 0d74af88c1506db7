/- The pure statement of FnPowers: whatever words are drawn, the law's answer is true. -/
import Derived.Test.YtolikggioekalabVMFnPowersx17
import Derived.Test.YtolikggioekalabVG0
import Derived.Test.YtolikggioekalabVGSized
import Derived.Test.YtolikggioekalabVGSquares
import Derived.Test.YtolikggioekalabVGRun
import Derived.Test.YtolikggioekalabVGPick
import Derived.Test.YtolikggioekalabVG2
import Derived.Test.YtolikggioekalabVG5
import Derived.Test.YtolikggioekalabVG5b
import Derived.Test.YtolikggioekalabVGSort
import Derived.Test.YtolikggioekalabVG8
import Derived.Test.YtolikggioekalabVG7
import Derived.Test.YtolikggioekalabVG6b
import Derived.Test.YtolikggioekalabVG6
namespace Go.Proofs.Ytolikggioekalab.Pure
open Go.RowKit Go.Proofs.Ytolikggioekalab.PFnPowers Go.Proofs.YtolikggioekalabW.PrintWords Go.Proofs.YtolikggioekalabW.PrintLast Go.Proofs.YtolikggioekalabW.PrintMore Go.Proofs.Ytolikggioekalab.G
set_option linter.unusedVariables false
set_option linter.unusedSimpArgs false

/-! ### laws_sameInts -/
theorem laws_sameInts_loop (a : List Int) (hb : a.length ≤ 17592186044416) (d : Nat) : ∀ n : Nat, n + d = a.length → Ev (fun k => laws_sameInts.l0 k a a (n : Int)) true := by
  induction d with
  | zero =>
    intro n h
    refine Ev_succ ?_
    simp only [laws_sameInts.l0]
    exact Ev_neg (by omega) (Ev.now _)
  | succ d ih =>
    intro n h
    refine Ev_succ ?_
    simp only [laws_sameInts.l0]
    rw [wsucc (n := n) (by omega)]
    exact Ev_pos (by omega) (Ev_pos (by omega) (Ev_pos (by omega) (Ev_pos (by simp) (ih (n + 1) (by omega)))))
theorem laws_sameInts_ev (a : List Int) (hb : a.length ≤ 17592186044416) : Ev (fun k => laws_sameInts.f k a a) true := by
  unfold laws_sameInts.f
  exact Ev_pos (by simp) (laws_sameInts_loop a hb _ 0 (Nat.zero_add _))

/-! ### powers -/
instance (w : List Int) (p a c : Nat) : Decidable (Rep w p a c) := by unfold Rep; infer_instance

/-- The squares that begin at a, from the period p on (f: how many more to try). -/
def sqRow (w : List Int) (a : Nat) : Nat → Nat → List S55
  | 0, _ => []
  | f + 1, p => if a + 2 * p ≤ w.length then (if Rep w p a p then [⟨(a : Int), (p : Int), ((2 * p : Nat) : Int)⟩] else []) ++ sqRow w a f (p + 1) else []

/-- The squares that begin at a or behind. -/
def sqAll (w : List Int) : Nat → Nat → List S55
  | 0, _ => []
  | f + 1, a => if a < w.length then sqRow w a w.length 1 ++ sqAll w f (a + 1) else []

def sqs (w : List Int) : List S55 := if 64 < w.length then [] else sqAll w w.length 0

theorem sqRow_length (w : List Int) (a : Nat) : ∀ f p, (sqRow w a f p).length ≤ f := by
  intro f
  induction f with
  | zero => intro p; simp [sqRow]
  | succ f ih =>
    intro p
    rw [sqRow]
    have := ih (p + 1)
    split
    · split <;> simp <;> omega
    · simp

theorem sqAll_length (w : List Int) : ∀ f a, (sqAll w f a).length ≤ f * w.length := by
  intro f
  induction f with
  | zero => intro a; simp [sqAll]
  | succ f ih =>
    intro a
    rw [sqAll]
    have h1 := ih (a + 1)
    have h2 := sqRow_length w a w.length 1
    split
    · rw [List.length_append, Nat.succ_mul]; omega
    · simp

theorem sqs_length (w : List Int) : (sqs w).length ≤ 4096 := by
  unfold sqs
  split
  · simp
  · have h1 := sqAll_length w w.length 0
    have h2 : w.length * w.length ≤ 64 * 64 := Nat.mul_le_mul (by omega) (by omega)
    omega

theorem sqRow_pos (w : List Int) (a : Nat) : ∀ f p, 1 ≤ p → ∀ x ∈ sqRow w a f p, 1 ≤ x.f1 := by
  intro f
  induction f with
  | zero => intro p _ x hx; simp [sqRow] at hx
  | succ f ih =>
    intro p hp x hx
    rw [sqRow] at hx
    split at hx
    · rw [List.mem_append] at hx
      rcases hx with hx | hx
      · split at hx
        · simp at hx; subst hx; simp only []; omega
        · simp at hx
      · exact ih (p + 1) (by omega) x hx
    · simp at hx

theorem sqAll_pos (w : List Int) : ∀ f a, ∀ x ∈ sqAll w f a, 1 ≤ x.f1 := by
  intro f
  induction f with
  | zero => intro a x hx; simp [sqAll] at hx
  | succ f ih =>
    intro a x hx
    rw [sqAll] at hx
    split at hx
    · rw [List.mem_append] at hx
      rcases hx with hx | hx
      · exact sqRow_pos w a _ 1 (by omega) x hx
      · exact ih (a + 1) x hx
    · simp at hx

theorem sqs_pos (w : List Int) : ∀ x ∈ sqs w, 1 ≤ x.f1 := by
  unfold sqs
  split
  · intro x hx; simp at hx
  · exact sqAll_pos w _ _

/-! ### spec_l10Match -/
theorem spec_l10Match_loop (w : List Int) (hb : w.length ≤ 1048576) (a p : Nat) (d : Nat) : ∀ c : Nat, Rep w p a c → w.length - (a + p + c) = d →
    ∃ C : Nat, RepMax w p a C ∧ Ev (fun k => spec_l10Match.l0 k w (a : Int) (p : Int) ((p + c : Nat) : Int)) ((C + p : Nat) : Int) := by
  induction d with
  | zero =>
    intro c h hd
    have h1 := h.1
    refine ⟨c, ⟨h, fun c' h' => by have := h'.1; omega⟩, Ev_succ ?_⟩
    simp only [spec_l10Match.l0]
    rw [wnat (x := (a : Int) + ((p + c : Nat) : Int)) (a + (p + c)) (by omega) (by omega), w64 (n := (w.length : Int) - a) (by omega) (by omega), mn_eq]
    exact Ev_neg (by omega) (Ev_some (by omega))
  | succ d ih =>
    intro c h hd
    have h1 := h.1
    by_cases e : w.getD (a + c) 0 = w.getD (a + c + p) 0
    · obtain ⟨C, hC, hev⟩ := ih (c + 1) (h.more (by omega) e) (by omega)
      refine ⟨C, hC, Ev_succ ?_⟩
      simp only [spec_l10Match.l0]
      rw [wnat (x := (a : Int) + ((p + c : Nat) : Int)) (a + (p + c)) (by omega) (by omega), wnat (x := ((a + (p + c) : Nat) : Int) - p) (a + c) (by omega) (by omega), rd_cast, rd_cast, wsucc (by omega)]
      refine Ev_pos (by omega) (Ev_pos (by omega) (Ev_pos (by omega) (Ev_pos (by omega) (Ev_pos ?_ hev))))
      rw [e]; congr 1; omega
    · refine ⟨c, ⟨h, fun c' h' => ?_⟩, Ev_succ ?_⟩
      · apply Nat.le_of_not_lt
        intro hlt
        exact e (h'.2 c hlt)
      · simp only [spec_l10Match.l0]
        rw [wnat (x := (a : Int) + ((p + c : Nat) : Int)) (a + (p + c)) (by omega) (by omega), wnat (x := ((a + (p + c) : Nat) : Int) - p) (a + c) (by omega) (by omega), w64 (n := (w.length : Int) - a) (by omega) (by omega), mn_eq, rd_cast, rd_cast]
        refine Ev_pos (by omega) (Ev_pos (by omega) (Ev_pos (by omega) (Ev_pos (by omega) (Ev_neg ?_ (Ev_some (by omega))))))
        rw [show a + (p + c) = a + c + p by omega]
        exact fun x => e x.symm

theorem spec_l10Match_ev (w : List Int) (hb : w.length ≤ 1048576) (a p : Nat) (h : a + p ≤ w.length) :
    ∃ C : Nat, RepMax w p a C ∧ Ev (fun k => spec_l10Match.f k w (a : Int) (p : Int)) ((C + p : Nat) : Int) := by
  unfold spec_l10Match.f
  exact spec_l10Match_loop w hb a p _ 0 ⟨by omega, fun j hj => by omega⟩ rfl

/-! ### spec_SquaresOf -/
theorem spec_SquaresOf_l1 (w : List Int) (hb : w.length ≤ 64) (a : Nat) (ha : a < w.length) (r : List S55) (f : Nat) : ∀ (p : Nat) (out : List S55), 1 ≤ p → w.length < a + 2 * p + 2 * f → p ≤ w.length + 1 → out.length ≤ a * w.length + p →
    Ev (fun k => spec_SquaresOf.l0 k w (out ++ sqRow w a f p) ((a + 1 : Nat) : Int)) r → Ev (fun k => spec_SquaresOf.l1 k w out (a : Int) (p : Int)) r := by
  have hm : a * w.length ≤ 64 * 64 := Nat.mul_le_mul (by omega) (by omega)
  induction f with
  | zero =>
    intro p out h1 h2 h3 h4 h5
    refine Ev_succ ?_
    simp only [spec_SquaresOf.l1]
    rw [wnat (x := 2 * (p : Int)) (2 * p) (by omega) (by omega), w64 (n := (a : Int) + ((2 * p : Nat) : Int)) (by omega) (by omega), wsucc (n := a) (by omega)]
    simp only [sqRow, List.append_nil] at h5
    exact Ev_neg (by omega) h5
  | succ f ih =>
    intro p out h1 h2 h3 h4 h5
    refine Ev_succ ?_
    simp only [spec_SquaresOf.l1]
    rw [wnat (x := 2 * (p : Int)) (2 * p) (by omega) (by omega), w64 (n := (a : Int) + ((2 * p : Nat) : Int)) (by omega) (by omega), wsucc (n := a) (by omega)]
    rw [sqRow] at h5
    by_cases c : a + 2 * p ≤ w.length
    · rw [if_pos c] at h5
      obtain ⟨C, hC, hev⟩ := spec_l10Match_ev w (by omega) a p (by omega)
      refine Ev_pos (by omega) (Ev_call _ hev ?_)
      rw [wsucc (n := p) (by omega)]
      by_cases c2 : Rep w p a p
      · rw [if_pos c2] at h5
        have hle := hC.2 _ c2
        refine Ev_pos (by omega) (Ev_pos (by omega) ?_)
        refine ih (p + 1) _ (by omega) (by omega) (by omega) (by simp; omega) ?_
        simpa using h5
      · rw [if_neg c2] at h5
        have hlt : C < p := by
          apply Nat.lt_of_not_le
          intro hle
          exact c2 (hC.1.less hle)
        refine Ev_neg (by omega) ?_
        refine ih (p + 1) _ (by omega) (by omega) (by omega) (by omega) ?_
        simpa using h5
    · rw [if_neg c] at h5
      simp only [List.append_nil] at h5
      exact Ev_neg (by omega) h5

theorem spec_SquaresOf_l0 (w : List Int) (hb : w.length ≤ 64) (f : Nat) : ∀ (a : Nat) (out : List S55), w.length ≤ a + f → a ≤ w.length → out.length ≤ a * w.length →
    Ev (fun k => spec_SquaresOf.l0 k w out (a : Int)) (out ++ sqAll w f a) := by
  induction f with
  | zero =>
    intro a out h1 h2 h3
    refine Ev_succ ?_
    simp only [spec_SquaresOf.l0]
    exact Ev_neg (by omega) (Ev_some (by simp [sqAll]))
  | succ f ih =>
    intro a out h1 h2 h3
    refine Ev_succ ?_
    simp only [spec_SquaresOf.l0]
    rw [sqAll]
    by_cases c : a < w.length
    · rw [if_pos c]
      refine Ev_pos (by omega) ?_
      refine spec_SquaresOf_l1 w hb a c _ w.length 1 out (by omega) (by omega) (by omega) (by omega) ?_
      rw [← List.append_assoc]
      refine ih (a + 1) _ (by omega) (by omega) ?_
      have := sqRow_length w a w.length 1
      rw [List.length_append, Nat.succ_mul]
      omega
    · rw [if_neg c]
      exact Ev_neg (by omega) (Ev_some (by simp))

theorem spec_SquaresOf_ev (w : List Int) (hb : w.length ≤ 1048576) : Ev (fun k => spec_SquaresOf.f k w) (sqs w) := by
  unfold spec_SquaresOf.f sqs
  simp only [Option.bind_some]
  by_cases h : 64 < w.length
  · rw [if_pos h]
    exact Ev_pos (by omega) (Ev.now _)
  · rw [if_neg h]
    exact Ev_neg (by omega) (spec_SquaresOf_l0 w (by omega) w.length 0 [] (by omega) (by omega) (by simp))

/-! ### slices_Compare_int_int -/
theorem cmp_Compare_int_eq (a b : Int) : cmp_Compare_int.f a b = some (if a < b then -1 else if b < a then 1 else 0) := by
  unfold cmp_Compare_int.f cmp_isNaN_int.f
  simp only [Option.bind_some, bne_self_eq_false, Bool.false_eq_true, if_false]
  split
  · rfl
  · split <;> rfl

theorem slices_Compare_int_int_loop (u v : List Int) (hu : u.length ≤ 1048576) (d : Nat) : ∀ n : Nat, n + d = u.length → n ≤ v.length →
    Ev (fun k => slices_Compare_int_int.l0 k u v u (u.length : Int) (n : Int)) (cmpW (u.drop n) (v.drop n)) := by
  induction d with
  | zero =>
    intro n h h2
    have hn : n = u.length := by omega
    subst hn
    refine Ev_succ ?_
    simp only [slices_Compare_int_int.l0]
    refine Ev_neg (by omega) ?_
    rw [List.drop_length, cmpW_nil_left]
    by_cases c : u.length < v.length
    · refine Ev_pos (by omega) (Ev_some ?_)
      rw [if_neg (by simp; omega)]
    · refine Ev_neg (by omega) (Ev_some ?_)
      rw [if_pos (by simp; omega)]
  | succ d ih =>
    intro n h h2
    refine Ev_succ ?_
    simp only [slices_Compare_int_int.l0]
    refine Ev_pos (by omega) (Ev_pos (by omega) (Ev_pos (by omega) ?_))
    by_cases c : n < v.length
    · refine Ev_neg (by omega) (Ev_pos (by omega) ?_)
      simp only [cmp_Compare_int_eq, Option.bind_some]
      rw [rd_cast, rd_cast, drop_cons u n 0 (by omega), drop_cons v n 0 c, cmpW_cons, wsucc (by omega)]
      by_cases g : u.getD n 0 < v.getD n 0
      · rw [if_pos g, if_pos g]
        exact Ev_neg (by omega) (Ev.now _)
      · rw [if_neg g, if_neg g]
        by_cases g2 : v.getD n 0 < u.getD n 0
        · rw [if_pos g2, if_pos g2]
          exact Ev_neg (by omega) (Ev.now _)
        · rw [if_neg g2, if_neg g2]
          exact Ev_pos rfl (ih (n + 1) (by omega) (by omega))
    · refine Ev_pos (by omega) (Ev_some ?_)
      rw [List.drop_eq_nil_of_le (show v.length ≤ n by omega), cmpW_nil_right, if_neg (by simp; omega)]

theorem slices_Compare_int_int_ev (u v : List Int) (hu : u.length ≤ 1048576) : Ev (fun k => slices_Compare_int_int.f k u v) (cmpW u v) := by
  unfold slices_Compare_int_int.f
  exact slices_Compare_int_int_loop u v hu _ 0 (Nat.zero_add _) (by omega)

/-! ### impl_CompareWords -/
theorem impl_CompareWords_ev (u v : List Int) (hu : u.length ≤ 1048576) : Ev (fun k => impl_CompareWords.f k u v) (cmpW u v) := by
  unfold impl_CompareWords.f
  exact Ev_call _ (slices_Compare_int_int_ev u v hu) (Ev.now _)

/-! ### impl_SquaresOf -/
theorem rep_cut (w : List Int) (a p : Nat) (h : a + 2 * p ≤ w.length) : (w.take (a + p)).drop a = (w.take (a + 2 * p)).drop (a + p) ↔ Rep w p a p := by
  have l1 : ((w.take (a + p)).drop a).length = p := by simp; omega
  have l2 : ((w.take (a + 2 * p)).drop (a + p)).length = p := by simp; omega
  have g1 : ∀ i, i < p → ((w.take (a + p)).drop a).getD i 0 = w.getD (a + i) 0 := fun i hi => by rw [getD_drop, getD_take _ _ _ _ (by omega)]
  have g2 : ∀ i, i < p → ((w.take (a + 2 * p)).drop (a + p)).getD i 0 = w.getD (a + i + p) 0 := fun i hi => by rw [getD_drop, getD_take _ _ _ _ (by omega)]; congr 1; omega
  constructor
  · intro e
    refine ⟨by omega, fun i hi => ?_⟩
    rw [← g1 i hi, e, g2 i hi]
  · intro e
    apply ext_getD 0 (by omega)
    intro i hi
    rw [g1 i (by omega), g2 i (by omega)]
    exact e.2 i (by omega)

theorem impl_SquaresOf_l1 (w : List Int) (hb : w.length ≤ 64) (a : Nat) (ha : a < w.length) (r : List S55) (f : Nat) : ∀ (p : Nat) (out : List S55), 1 ≤ p → w.length < a + 2 * p + 2 * f → p ≤ w.length + 1 → out.length ≤ a * w.length + p →
    Ev (fun k => impl_SquaresOf.l0 k w (out ++ sqRow w a f p) (w.length : Int) ((a + 1 : Nat) : Int)) r → Ev (fun k => impl_SquaresOf.l1 k w out (a : Int) (p : Int) (w.length : Int) (a : Int)) r := by
  have hm : a * w.length ≤ 64 * 64 := Nat.mul_le_mul (by omega) (by omega)
  induction f with
  | zero =>
    intro p out h1 h2 h3 h4 h5
    refine Ev_succ ?_
    simp only [impl_SquaresOf.l1]
    rw [wnat (x := 2 * (p : Int)) (2 * p) (by omega) (by omega), w64 (n := (a : Int) + ((2 * p : Nat) : Int)) (by omega) (by omega), wsucc (n := a) (by omega)]
    simp only [sqRow, List.append_nil] at h5
    exact Ev_neg (by omega) h5
  | succ f ih =>
    intro p out h1 h2 h3 h4 h5
    refine Ev_succ ?_
    simp only [impl_SquaresOf.l1]
    rw [wnat (x := 2 * (p : Int)) (2 * p) (by omega) (by omega), wnat (x := (a : Int) + ((2 * p : Nat) : Int)) (a + 2 * p) (by omega) (by omega), wsucc (n := a) (by omega), wnat (x := (a : Int) + p) (a + p) (by omega) (by omega)]
    rw [sqRow] at h5
    by_cases c : a + 2 * p ≤ w.length
    · rw [if_pos c] at h5
      rw [Int.toNat_natCast, Int.toNat_natCast, Int.toNat_natCast, wsucc (n := p) (by omega)]
      refine Ev_pos (by omega) (Ev_pos (by omega) (Ev_pos (by omega) (Ev_pos (by omega) (Ev_pos (by omega) (Ev_pos (by omega) (Ev_call _ (impl_CompareWords_ev _ _ (by simp; omega)) ?_))))))
      by_cases c2 : Rep w p a p
      · rw [if_pos c2] at h5
        refine Ev_pos ((cmpW_zero _ _).2 ((rep_cut w a p c).2 c2)) (Ev_pos (by omega) ?_)
        refine ih (p + 1) _ (by omega) (by omega) (by omega) (by simp; omega) ?_
        simpa using h5
      · rw [if_neg c2] at h5
        refine Ev_neg (fun h => c2 ((rep_cut w a p c).1 ((cmpW_zero _ _).1 h))) ?_
        refine ih (p + 1) _ (by omega) (by omega) (by omega) (by omega) ?_
        simpa using h5
    · rw [if_neg c] at h5
      simp only [List.append_nil] at h5
      exact Ev_neg (by omega) h5

theorem impl_SquaresOf_l0 (w : List Int) (hb : w.length ≤ 64) (f : Nat) : ∀ (a : Nat) (out : List S55), w.length ≤ a + f → a ≤ w.length → out.length ≤ a * w.length →
    Ev (fun k => impl_SquaresOf.l0 k w out (w.length : Int) (a : Int)) (out ++ sqAll w f a) := by
  induction f with
  | zero =>
    intro a out h1 h2 h3
    refine Ev_succ ?_
    simp only [impl_SquaresOf.l0]
    exact Ev_neg (by omega) (Ev_some (by simp [sqAll]))
  | succ f ih =>
    intro a out h1 h2 h3
    refine Ev_succ ?_
    simp only [impl_SquaresOf.l0]
    rw [sqAll]
    by_cases c : a < w.length
    · rw [if_pos c]
      refine Ev_pos (by omega) ?_
      refine impl_SquaresOf_l1 w hb a c _ w.length 1 out (by omega) (by omega) (by omega) (by omega) ?_
      rw [← List.append_assoc]
      refine ih (a + 1) _ (by omega) (by omega) ?_
      have := sqRow_length w a w.length 1
      rw [List.length_append, Nat.succ_mul]
      omega
    · rw [if_neg c]
      exact Ev_neg (by omega) (Ev_some (by simp))

theorem impl_SquaresOf_ev (w : List Int) (hb : w.length ≤ 1048576) : Ev (fun k => impl_SquaresOf.f k w) (sqs w) := by
  unfold impl_SquaresOf.f sqs
  simp only [Option.bind_some]
  by_cases h : 64 < w.length
  · rw [if_pos h]
    exact Ev_pos (by omega) (Ev.now _)
  · rw [if_neg h]
    exact Ev_neg (by omega) (impl_SquaresOf_l0 w (by omega) w.length 0 [] (by omega) (by omega) (by simp))

/-! ### spec_l1In -/
theorem spec_l1In_eq (x a b : Int) : spec_l1In.f x a b = some (decide (a ≤ x ∧ x ≤ b)) := by
  unfold spec_l1In.f
  by_cases h : x ≥ a
  · rw [if_pos h]; simp [h]
  · rw [if_neg h]; congr 1; symm; rw [decide_eq_false_iff_not]; omega

/-! ### spec_HasPower -/
theorem pw_le' {c b p den : Int} (h : c ≤ b) (hd : 0 ≤ den) : (c + p) * den ≤ (b + p) * den :=
  Int.mul_le_mul_of_nonneg_right (by omega) hd

theorem spec_HasPower_l1 (w : List Int) (hb : w.length ≤ 128) (num den : Int) (hn : 2 ≤ num) (hn2 : num ≤ 20) (hd1 : 1 ≤ den) (hd2 : den < num) (a : Nat) (ha : a < w.length) (b : Bool) (hnx : Ev (fun k => spec_HasPower.l0 k w num den ((a + 1 : Nat) : Int)) b) (d : Nat) : ∀ p : Nat, 1 ≤ p → p ≤ w.length → w.length - (a + p) = d →
    ∃ b' : Bool, Ev (fun k => spec_HasPower.l1 k w num den (a : Int) (p : Int)) b' ∧ (b' = true ↔ b = true ∨ ∃ q c : Nat, p ≤ q ∧ Rep w q a c ∧ (q : Int) * num ≤ ((c : Int) + q) * den) := by
  induction d with
  | zero =>
    intro p hp hp2 hd
    refine ⟨b, Ev_succ ?_, ?_⟩
    · simp only [spec_HasPower.l1]
      rw [w64 (n := (a : Int) + p) (by omega) (by omega), wsucc (n := a) (by omega)]
      exact Ev_neg (by omega) hnx
    · constructor
      · exact Or.inl
      · rintro (h | ⟨q, c, h1, h2, h3⟩)
        · exact h
        · have h4 := h2.1
          have hc : c = 0 := by omega
          subst hc
          have : (q : Int) * (den + 1) ≤ (q : Int) * num := Int.mul_le_mul_of_nonneg_left (by omega) (by omega)
          have e1 : (q : Int) * (den + 1) = (q : Int) * den + q := by rw [Int.mul_add, Int.mul_one]
          have e2 : (((0 : Nat) : Int) + (q : Int)) * den = (q : Int) * den := by simp
          omega
  | succ d ih =>
    intro p hp hp2 hd
    obtain ⟨C, hC, hev⟩ := spec_l10Match_ev w (by omega) a p (by omega)
    have hC1 := hC.1.1
    have m1 := mul_bd (a := ((C + p : Nat) : Int)) (b := den) (A := 128) (B := 20) (by omega) (by omega) (by omega) (by omega)
    have m2 := mul_bd (a := (p : Int)) (b := num) (A := 128) (B := 20) (by omega) (by omega) (by omega) (by omega)
    have m4 : (((C + p : Nat) : Int)) * den = ((C : Int) + p) * den := by rw [Int.natCast_add]
    by_cases hlt : (p : Int) * num ≤ ((C : Int) + p) * den
    · refine ⟨true, Ev_succ ?_, ?_⟩
      · simp only [spec_HasPower.l1]
        rw [w64 (n := (a : Int) + p) (by omega) (by omega)]
        refine Ev_pos (by omega) (Ev_call _ hev ?_)
        rw [w64 (n := ((C + p : Nat) : Int) * den) (by omega) (by omega), w64 (n := (p : Int) * num) (by omega) (by omega)]
        exact Ev_pos (by omega) (Ev.now _)
      · exact ⟨fun _ => Or.inr ⟨p, C, by omega, hC.1, hlt⟩, fun _ => rfl⟩
    · obtain ⟨b', h1, h2⟩ := ih (p + 1) (by omega) (by omega) (by omega)
      refine ⟨b', Ev_succ ?_, ?_⟩
      · simp only [spec_HasPower.l1]
        rw [w64 (n := (a : Int) + p) (by omega) (by omega)]
        refine Ev_pos (by omega) (Ev_call _ hev ?_)
        rw [w64 (n := ((C + p : Nat) : Int) * den) (by omega) (by omega), w64 (n := (p : Int) * num) (by omega) (by omega), wsucc (n := p) (by omega)]
        exact Ev_neg (by omega) h1
      · rw [h2]
        constructor
        · rintro (h | ⟨q, c, g1, g2, g3⟩)
          · exact Or.inl h
          · exact Or.inr ⟨q, c, by omega, g2, g3⟩
        · rintro (h | ⟨q, c, g1, g2, g3⟩)
          · exact Or.inl h
          · refine Or.inr ⟨q, c, ?_, g2, g3⟩
            by_cases e : q = p
            · subst e
              have g4 := hC.2 _ g2
              have := pw_le' (c := (c : Int)) (b := (C : Int)) (p := (q : Int)) (den := den) (by omega) (by omega)
              omega
            · omega

theorem spec_HasPower_l0 (w : List Int) (hb : w.length ≤ 128) (num den : Int) (hn : 2 ≤ num) (hn2 : num ≤ 20) (hd1 : 1 ≤ den) (hd2 : den < num) (d : Nat) : ∀ a : Nat, w.length - a = d →
    ∃ b : Bool, Ev (fun k => spec_HasPower.l0 k w num den (a : Int)) b ∧ (b = true ↔ ∃ q a' c : Nat, a ≤ a' ∧ 1 ≤ q ∧ Rep w q a' c ∧ (q : Int) * num ≤ ((c : Int) + q) * den) := by
  induction d with
  | zero =>
    intro a hd
    refine ⟨false, Ev_succ ?_, ?_⟩
    · simp only [spec_HasPower.l0]
      refine Ev_neg (by omega) (Ev_succ ?_)
      simp only [spec_HasPower.j2]
      exact Ev_neg (by simp) (Ev.now _)
    · constructor
      · intro h; exact absurd h (by simp)
      · rintro ⟨q, a', c, h1, h2, h3, _⟩
        have := h3.1; omega
  | succ d ih =>
    intro a hd
    have hlt : (a : Int) < (w.length : Int) := by omega
    have hle : decide ((w.length : Int) ≤ 128) = true := by simp; omega
    obtain ⟨b, h1, h2⟩ := ih (a + 1) (by omega)
    obtain ⟨b', h3, h4⟩ := spec_HasPower_l1 w hb num den hn hn2 hd1 hd2 a (by omega) b h1 _ 1 (by omega) (by omega) rfl
    refine ⟨b', Ev_succ ?_, ?_⟩
    · simp only [spec_HasPower.l0]
      refine Ev_pos hlt (Ev_succ ?_)
      simp only [spec_HasPower.j2]
      exact Ev_pos hle h3
    · rw [h4, h2]
      constructor
      · rintro (⟨q, a', c, g1, g2, g3⟩ | ⟨q, c, g1, g2⟩)
        · exact ⟨q, a', c, by omega, g2, g3⟩
        · exact ⟨q, a, c, by omega, g1, g2⟩
      · rintro ⟨q, a', c, g1, g2, g3⟩
        by_cases e : a' = a
        · subst e; exact Or.inr ⟨q, c, g2, g3⟩
        · exact Or.inl ⟨q, a', c, by omega, g2, g3⟩

theorem spec_HasPower_ev (w : List Int) (hb : w.length ≤ 1048576) (num den : Int) (hw : -9223372036854775808 ≤ num) (hw2 : num ≤ 9223372036854775807) :
    ∃ b : Bool, Ev (fun k => spec_HasPower.f k w num den) b ∧ (b = true ↔ w.length ≤ 128 ∧ 2 ≤ num ∧ num ≤ 20 ∧ 1 ≤ den ∧ den < num ∧ Pw w num den) := by
  unfold spec_HasPower.f
  simp only [spec_l1In_eq, Option.bind_some]
  by_cases h1 : 2 ≤ num ∧ num ≤ 20
  · rw [w64 (n := num - 1) (by omega) (by omega)]
    by_cases h2 : 1 ≤ den ∧ den ≤ num - 1
    · by_cases h : w.length ≤ 128
      · obtain ⟨b, g1, g2⟩ := spec_HasPower_l0 w h num den h1.1 h1.2 h2.1 (by omega) _ 0 rfl
        refine ⟨b, Ev_pos (by simpa using h1) (Ev_succ ?_), ?_⟩
        · simp only [spec_HasPower.j0]
          exact Ev_neg (by simp; omega) g1
        · rw [g2]
          constructor
          · rintro ⟨q, a, c, _, e1, e2, e3⟩; exact ⟨h, h1.1, h1.2, h2.1, by omega, q, a, c, e1, e2, e3⟩
          · rintro ⟨_, _, _, _, _, q, a, c, e1, e2, e3⟩; exact ⟨q, a, c, by omega, e1, e2, e3⟩
      · refine ⟨false, Ev_pos (by simpa using h1) (Ev_succ ?_), by simp [h]⟩
        simp only [spec_HasPower.j0]
        refine Ev_neg (by simp; omega) (Ev_succ ?_)
        simp only [spec_HasPower.l0]
        refine Ev_pos (by omega) (Ev_succ ?_)
        simp only [spec_HasPower.j2]
        exact Ev_neg (by simp; omega) (Ev.now _)
    · refine ⟨false, Ev_pos (by simpa using h1) (Ev_succ ?_), ?_⟩
      · simp only [spec_HasPower.j0]
        exact Ev_pos (by simp; omega) (Ev.now _)
      · constructor
        · intro h; exact absurd h (by simp)
        · intro g; omega
  · refine ⟨false, Ev_neg (by simpa using h1) (Ev_succ ?_), ?_⟩
    · simp only [spec_HasPower.j0]
      exact Ev_pos (by simp) (Ev.now _)
    · constructor
      · intro h; exact absurd h (by simp)
      · intro g; omega

/-! ### spec_HasSquare -/
theorem spec_HasSquare_ev (w : List Int) (hb : w.length ≤ 1048576) :
    ∃ b : Bool, Ev (fun k => spec_HasSquare.f k w) b ∧ (b = true ↔ w.length ≤ 128 ∧ Pw w 2 1) := by
  unfold spec_HasSquare.f
  obtain ⟨b, h1, h2⟩ := spec_HasPower_ev w hb 2 1 (by omega) (by omega)
  refine ⟨b, Ev_call _ h1 (Ev.now _), ?_⟩
  rw [h2]
  constructor
  · rintro ⟨g1, _, _, _, _, g2⟩; exact ⟨g1, g2⟩
  · rintro ⟨g1, g2⟩; exact ⟨g1, by omega, by omega, by omega, by omega, g2⟩

/-! ### impl_longestRepeat -/
theorem impl_longestRepeat_loop (w : List Int) (hb : w.length ≤ 1048576) (p : Nat) (d : Nat) : ∀ i best count : Nat, RepInv w p i best count → best ≤ i → w.length - (i + p) = d →
    ∃ B : Nat, RepBest w p B ∧ B + p ≤ w.length ∧ Ev (fun k => impl_longestRepeat.l0 k w (p : Int) (best : Int) (count : Int) (i : Int)) ((B + p : Nat) : Int) := by
  induction d with
  | zero =>
    intro i best count h hbi hd
    have h0 := h.1
    refine ⟨best, h.done (by omega), by omega, Ev_succ ?_⟩
    simp only [impl_longestRepeat.l0]
    rw [wnat (x := (i : Int) + p) (i + p) (by omega) (by omega), wnat (x := (best : Int) + p) (best + p) (by omega) (by omega)]
    exact Ev_neg (by omega) (Ev_some rfl)
  | succ d ih =>
    intro i best count h hbi hd
    have h0 := h.1
    have h3 := h.2.2.2.1
    by_cases e : w.getD i 0 = w.getD (i + p) 0
    · obtain ⟨B, hB, hl, hev⟩ := ih (i + 1) _ _ (h.yes (by omega) e) (by omega) (by omega)
      refine ⟨B, hB, hl, Ev_succ ?_⟩
      simp only [impl_longestRepeat.l0]
      rw [wnat (x := (i : Int) + p) (i + p) (by omega) (by omega), wsucc (n := count) (by omega), wsucc (n := i) (by omega), rd_cast, rd_cast, mx_eq]
      rw [show max (best : Int) ((count + 1 : Nat) : Int) = ((max best (count + 1) : Nat) : Int) by omega]
      exact Ev_pos (by omega) (Ev_pos (by omega) (Ev_pos (by omega) (Ev_pos (by omega) (Ev_pos e hev))))
    · obtain ⟨B, hB, hl, hev⟩ := ih (i + 1) _ _ (h.no (by omega) e) (by omega) (by omega)
      refine ⟨B, hB, hl, Ev_succ ?_⟩
      simp only [impl_longestRepeat.l0]
      rw [wnat (x := (i : Int) + p) (i + p) (by omega) (by omega), wsucc (n := i) (by omega), rd_cast, rd_cast]
      exact Ev_pos (by omega) (Ev_pos (by omega) (Ev_pos (by omega) (Ev_pos (by omega) (Ev_neg e hev))))

theorem impl_longestRepeat_ev (w : List Int) (hb : w.length ≤ 1048576) (p : Nat) (h : p ≤ w.length) :
    ∃ B : Nat, RepBest w p B ∧ B + p ≤ w.length ∧ Ev (fun k => impl_longestRepeat.f k w (p : Int)) ((B + p : Nat) : Int) := by
  unfold impl_longestRepeat.f
  exact impl_longestRepeat_loop w hb p _ 0 0 0 (RepInv.start h) (by omega) rfl

/-! ### impl_HasPower -/
theorem pw_le {c b p den : Int} (h : c ≤ b) (hd : 0 ≤ den) : (c + p) * den ≤ (b + p) * den :=
  Int.mul_le_mul_of_nonneg_right (by omega) hd

theorem impl_HasPower_loop (w : List Int) (hb : w.length ≤ 128) (num den : Int) (hn : 2 ≤ num) (hn2 : num ≤ 20) (hd1 : 1 ≤ den) (hd2 : den ≤ 20) (d : Nat) : ∀ p : Nat, 1 ≤ p → w.length + 1 - p = d →
    ∃ b : Bool, Ev (fun k => impl_HasPower.l0 k w num den (p : Int)) b ∧ (b = true ↔ ∃ q a c : Nat, p ≤ q ∧ Rep w q a c ∧ (q : Int) * num ≤ ((c : Int) + q) * den) := by
  induction d with
  | zero =>
    intro p hp hd
    refine ⟨false, Ev_succ ?_, ?_⟩
    · simp only [impl_HasPower.l0]
      exact Ev_neg (by omega) (Ev.now _)
    · constructor
      · intro h; exact absurd h (by simp)
      · rintro ⟨q, a, c, h1, h2, _⟩
        have := h2.1
        omega
  | succ d ih =>
    intro p hp hd
    obtain ⟨B, hB, hl, hev⟩ := impl_longestRepeat_ev w (by omega) p (by omega)
    have m1 := mul_bd (a := ((B + p : Nat) : Int)) (b := den) (A := 128) (B := 20) (by omega) (by omega) (by omega) (by omega)
    have m2 := mul_bd (a := num) (b := (p : Int)) (A := 20) (B := 128) (by omega) (by omega) (by omega) (by omega)
    have m3 : num * (p : Int) = (p : Int) * num := Int.mul_comm _ _
    have m4 : (((B + p : Nat) : Int)) * den = ((B : Int) + p) * den := by rw [Int.natCast_add]
    by_cases hlt : (p : Int) * num ≤ ((B : Int) + p) * den
    · refine ⟨true, Ev_succ ?_, ?_⟩
      · simp only [impl_HasPower.l0]
        refine Ev_pos (by omega) (Ev_call _ hev ?_)
        rw [w64 (n := ((B + p : Nat) : Int) * den) (by omega) (by omega), w64 (n := num * (p : Int)) (by omega) (by omega)]
        exact Ev_pos (by omega) (Ev.now _)
      · obtain ⟨a, ha⟩ := hB.1
        exact ⟨fun _ => ⟨p, a, B, by omega, ha, hlt⟩, fun _ => rfl⟩
    · obtain ⟨b, h1, h2⟩ := ih (p + 1) (by omega) (by omega)
      refine ⟨b, Ev_succ ?_, ?_⟩
      · simp only [impl_HasPower.l0]
        refine Ev_pos (by omega) (Ev_call _ hev ?_)
        rw [w64 (n := ((B + p : Nat) : Int) * den) (by omega) (by omega), w64 (n := num * (p : Int)) (by omega) (by omega), wsucc (by omega)]
        exact Ev_neg (by omega) h1
      · rw [h2]
        constructor
        · rintro ⟨q, a, c, g1, g2, g3⟩; exact ⟨q, a, c, by omega, g2, g3⟩
        · rintro ⟨q, a, c, g1, g2, g3⟩
          refine ⟨q, a, c, ?_, g2, g3⟩
          by_cases e : q = p
          · subst e
            have g4 := hB.2 a _ g2
            have := pw_le (c := (c : Int)) (b := (B : Int)) (p := (q : Int)) (den := den) (by omega) (by omega)
            omega
          · omega

theorem impl_HasPower_ev (w : List Int) (hb : w.length ≤ 1048576) (num den : Int) :
    ∃ b : Bool, Ev (fun k => impl_HasPower.f k w num den) b ∧ (b = true ↔ w.length ≤ 128 ∧ 2 ≤ num ∧ num ≤ 20 ∧ 1 ≤ den ∧ den < num ∧ Pw w num den) := by
  unfold impl_HasPower.f
  by_cases h : w.length ≤ 128
  · by_cases h1 : num < 2
    · refine ⟨false, Ev_neg (by omega) (Ev_pos h1 (Ev_succ ?_)), ?_⟩
      · simp only [impl_HasPower.j0]; exact Ev_pos (by simp) (Ev.now _)
      · constructor
        · intro h; exact absurd h (by simp)
        · intro g; omega
    · by_cases h2 : num > 20
      · refine ⟨false, Ev_neg (by omega) (Ev_neg h1 (Ev_pos h2 (Ev_succ ?_))), ?_⟩
        · simp only [impl_HasPower.j0]; exact Ev_pos (by simp) (Ev.now _)
        · constructor
          · intro h; exact absurd h (by simp)
          · intro g; omega
      · by_cases h3 : den < 1
        · refine ⟨false, Ev_neg (by omega) (Ev_neg h1 (Ev_neg h2 (Ev_pos h3 (Ev_succ ?_)))), ?_⟩
          · simp only [impl_HasPower.j0]; exact Ev_pos (by simp) (Ev.now _)
          · constructor
            · intro h; exact absurd h (by simp)
            · intro g; omega
        · by_cases h4 : den ≥ num
          · refine ⟨false, Ev_neg (by omega) (Ev_neg h1 (Ev_neg h2 (Ev_neg h3 (Ev_succ ?_)))), ?_⟩
            · simp only [impl_HasPower.j0]; exact Ev_pos (by simpa using h4) (Ev.now _)
            · constructor
              · intro h; exact absurd h (by simp)
              · intro g; omega
          · obtain ⟨b, g1, g2⟩ := impl_HasPower_loop w h num den (by omega) (by omega) (by omega) (by omega) _ 1 (by omega) rfl
            refine ⟨b, Ev_neg (by omega) (Ev_neg h1 (Ev_neg h2 (Ev_neg h3 (Ev_succ ?_)))), ?_⟩
            · simp only [impl_HasPower.j0]; exact Ev_neg (by simpa using h4) g1
            · rw [g2]
              constructor
              · rintro ⟨q, a, c, e1, e2, e3⟩; exact ⟨h, by omega, by omega, by omega, by omega, q, a, c, e1, e2, e3⟩
              · rintro ⟨_, _, _, _, _, q, a, c, e1, e2, e3⟩; exact ⟨q, a, c, e1, e2, e3⟩
  · refine ⟨false, Ev_pos (by omega) (Ev_succ ?_), by simp [h]⟩
    simp only [impl_HasPower.j0]; exact Ev_pos (by simp) (Ev.now _)

/-! ### impl_HasSquare -/
theorem impl_HasSquare_ev (w : List Int) (hb : w.length ≤ 1048576) :
    ∃ b : Bool, Ev (fun k => impl_HasSquare.f k w) b ∧ (b = true ↔ w.length ≤ 128 ∧ Pw w 2 1) := by
  unfold impl_HasSquare.f
  obtain ⟨b, h1, h2⟩ := impl_HasPower_ev w hb 2 1
  refine ⟨b, Ev_call _ h1 (Ev.now _), ?_⟩
  rw [h2]
  constructor
  · rintro ⟨g1, _, _, _, _, g2⟩; exact ⟨g1, g2⟩
  · rintro ⟨g1, g2⟩; exact ⟨g1, by omega, by omega, by omega, by omega, g2⟩

/-! ### spec_HasOverlap -/
theorem spec_HasOverlap_l1 (w : List Int) (hb : w.length ≤ 128) (a : Nat) (ha : a < w.length) (b : Bool) (hn : Ev (fun k => spec_HasOverlap.l0 k w ((a + 1 : Nat) : Int)) b) (d : Nat) : ∀ p : Nat, 1 ≤ p → p ≤ w.length → w.length ≤ a + 2 * p + d →
    ∃ b' : Bool, Ev (fun k => spec_HasOverlap.l1 k w (a : Int) (p : Int)) b' ∧ (b' = true ↔ b = true ∨ ∃ q, p ≤ q ∧ Rep w q a (q + 1)) := by
  induction d with
  | zero =>
    intro p hp hp2 hd
    refine ⟨b, Ev_succ ?_, ?_⟩
    · simp only [spec_HasOverlap.l1]
      rw [wnat (x := 2 * (p : Int)) (2 * p) (by omega) (by omega), w64 (n := (a : Int) + ((2 * p : Nat) : Int)) (by omega) (by omega), wsucc (n := a) (by omega)]
      exact Ev_neg (by omega) hn
    · constructor
      · exact Or.inl
      · rintro (h | ⟨q, h1, h2⟩)
        · exact h
        · have := h2.1; omega
  | succ d ih =>
    intro p hp hp2 hd
    by_cases hend : a + 2 * p < w.length
    · obtain ⟨C, hC, hev⟩ := spec_l10Match_ev w (by omega) a p (by omega)
      have hC1 := hC.1.1
      by_cases hlt : p < C
      · refine ⟨true, Ev_succ ?_, ?_⟩
        · simp only [spec_HasOverlap.l1]
          rw [wnat (x := 2 * (p : Int)) (2 * p) (by omega) (by omega), w64 (n := (a : Int) + ((2 * p : Nat) : Int)) (by omega) (by omega)]
          exact Ev_pos (by omega) (Ev_call _ hev (Ev_pos (by omega) (Ev.now _)))
        · exact ⟨fun _ => Or.inr ⟨p, by omega, hC.1.less (by omega)⟩, fun _ => rfl⟩
      · obtain ⟨b', h1, h2⟩ := ih (p + 1) (by omega) (by omega) (by omega)
        refine ⟨b', Ev_succ ?_, ?_⟩
        · simp only [spec_HasOverlap.l1]
          rw [wnat (x := 2 * (p : Int)) (2 * p) (by omega) (by omega), w64 (n := (a : Int) + ((2 * p : Nat) : Int)) (by omega) (by omega), wsucc (n := p) (by omega)]
          exact Ev_pos (by omega) (Ev_call _ hev (Ev_neg (by omega) h1))
        · rw [h2]
          constructor
          · rintro (h | ⟨q, g1, g2⟩)
            · exact Or.inl h
            · exact Or.inr ⟨q, by omega, g2⟩
          · rintro (h | ⟨q, g1, g2⟩)
            · exact Or.inl h
            · refine Or.inr ⟨q, ?_, g2⟩
              by_cases e : q = p
              · subst e; have := hC.2 _ g2; omega
              · omega
    · refine ⟨b, Ev_succ ?_, ?_⟩
      · simp only [spec_HasOverlap.l1]
        rw [wnat (x := 2 * (p : Int)) (2 * p) (by omega) (by omega), w64 (n := (a : Int) + ((2 * p : Nat) : Int)) (by omega) (by omega), wsucc (n := a) (by omega)]
        exact Ev_neg (by omega) hn
      · constructor
        · exact Or.inl
        · rintro (h | ⟨q, h1, h2⟩)
          · exact h
          · have := h2.1; omega

theorem spec_HasOverlap_l0 (w : List Int) (hb : w.length ≤ 128) (d : Nat) : ∀ a : Nat, w.length - a = d →
    ∃ b : Bool, Ev (fun k => spec_HasOverlap.l0 k w (a : Int)) b ∧ (b = true ↔ ∃ q a', a ≤ a' ∧ 1 ≤ q ∧ Rep w q a' (q + 1)) := by
  induction d with
  | zero =>
    intro a hd
    refine ⟨false, Ev_succ ?_, ?_⟩
    · simp only [spec_HasOverlap.l0]
      refine Ev_neg (by omega) (Ev_succ ?_)
      simp only [spec_HasOverlap.j1]
      exact Ev_neg (by simp) (Ev.now _)
    · constructor
      · intro h; exact absurd h (by simp)
      · rintro ⟨q, a', h1, h2, h3⟩
        have := h3.1; omega
  | succ d ih =>
    intro a hd
    have hlt : (a : Int) < (w.length : Int) := by omega
    have hle : decide ((w.length : Int) ≤ 128) = true := by simp; omega
    obtain ⟨b, h1, h2⟩ := ih (a + 1) (by omega)
    obtain ⟨b', h3, h4⟩ := spec_HasOverlap_l1 w hb a (by omega) b h1 w.length 1 (by omega) (by omega) (by omega)
    refine ⟨b', Ev_succ ?_, ?_⟩
    · simp only [spec_HasOverlap.l0]
      refine Ev_pos hlt (Ev_succ ?_)
      simp only [spec_HasOverlap.j1]
      exact Ev_pos hle h3
    · rw [h4, h2]
      constructor
      · rintro (⟨q, a', g1, g2, g3⟩ | ⟨q, g1, g2⟩)
        · exact ⟨q, a', by omega, g2, g3⟩
        · exact ⟨q, a, by omega, g1, g2⟩
      · rintro ⟨q, a', g1, g2, g3⟩
        by_cases e : a' = a
        · subst e; exact Or.inr ⟨q, g2, g3⟩
        · exact Or.inl ⟨q, a', by omega, g2, g3⟩

theorem spec_HasOverlap_ev (w : List Int) (hb : w.length ≤ 1048576) :
    ∃ b : Bool, Ev (fun k => spec_HasOverlap.f k w) b ∧ (b = true ↔ w.length ≤ 128 ∧ Ovl w) := by
  unfold spec_HasOverlap.f
  by_cases h : w.length ≤ 128
  · obtain ⟨b, h1, h2⟩ := spec_HasOverlap_l0 w h _ 0 rfl
    refine ⟨b, h1, ?_⟩
    rw [h2]
    constructor
    · rintro ⟨q, a, _, g1, g2⟩; exact ⟨h, q, a, g1, g2⟩
    · rintro ⟨_, q, a, g1, g2⟩; exact ⟨q, a, by omega, g1, g2⟩
  · refine ⟨false, Ev_succ ?_, by simp [h]⟩
    simp only [spec_HasOverlap.l0]
    refine Ev_pos (by omega) (Ev_succ ?_)
    simp only [spec_HasOverlap.j1]
    exact Ev_neg (by simp; omega) (Ev.now _)

/-! ### impl_HasOverlap -/
theorem impl_HasOverlap_loop (w : List Int) (hb : w.length ≤ 1048576) (d : Nat) : ∀ p : Nat, 1 ≤ p → w.length + 1 - p = d →
    ∃ b : Bool, Ev (fun k => impl_HasOverlap.l0 k w (p : Int)) b ∧ (b = true ↔ ∃ q a, p ≤ q ∧ Rep w q a (q + 1)) := by
  induction d with
  | zero =>
    intro p hp hd
    refine ⟨false, Ev_succ ?_, ?_⟩
    · simp only [impl_HasOverlap.l0]
      exact Ev_neg (by omega) (Ev.now _)
    · constructor
      · intro h; exact absurd h (by simp)
      · rintro ⟨q, a, h1, h2⟩
        have := h2.1
        omega
  | succ d ih =>
    intro p hp hd
    obtain ⟨B, hB, hl, hev⟩ := impl_longestRepeat_ev w hb p (by omega)
    by_cases hlt : p < B
    · refine ⟨true, Ev_succ ?_, ?_⟩
      · simp only [impl_HasOverlap.l0]
        rw [wnat (2 * p) (by omega) (by omega)]
        exact Ev_pos (by omega) (Ev_call _ hev (Ev_pos (by omega) (Ev.now _)))
      · obtain ⟨a, ha⟩ := hB.1
        exact ⟨fun _ => ⟨p, a, by omega, ha.less (by omega)⟩, fun _ => rfl⟩
    · obtain ⟨b, h1, h2⟩ := ih (p + 1) (by omega) (by omega)
      refine ⟨b, Ev_succ ?_, ?_⟩
      · simp only [impl_HasOverlap.l0]
        rw [wnat (2 * p) (by omega) (by omega), wsucc (by omega)]
        exact Ev_pos (by omega) (Ev_call _ hev (Ev_neg (by omega) h1))
      · rw [h2]
        constructor
        · rintro ⟨q, a, g1, g2⟩; exact ⟨q, a, by omega, g2⟩
        · rintro ⟨q, a, g1, g2⟩
          refine ⟨q, a, ?_, g2⟩
          by_cases e : q = p
          · subst e; have := hB.2 a _ g2; omega
          · omega

theorem impl_HasOverlap_ev (w : List Int) (hb : w.length ≤ 1048576) :
    ∃ b : Bool, Ev (fun k => impl_HasOverlap.f k w) b ∧ (b = true ↔ w.length ≤ 128 ∧ Ovl w) := by
  unfold impl_HasOverlap.f
  by_cases h : w.length ≤ 128
  · obtain ⟨b, h1, h2⟩ := impl_HasOverlap_loop w hb _ 1 (by omega) rfl
    refine ⟨b, Ev_neg (by omega) h1, ?_⟩
    rw [h2]
    constructor
    · rintro ⟨q, a, g⟩; exact ⟨h, q, a, g⟩
    · rintro ⟨_, q, a, g⟩; exact ⟨q, a, g⟩
  · exact ⟨false, Ev_pos (by omega) (Ev.now _), by simp [h]⟩

/-! ### dsq -/
theorem mem_sqRow (w : List Int) (a : Nat) (x : S55) : ∀ f p0, x ∈ sqRow w a f p0 ↔ ∃ p, p0 ≤ p ∧ p < p0 + f ∧ a + 2 * p ≤ w.length ∧ Rep w p a p ∧ x = ⟨(a : Int), (p : Int), ((2 * p : Nat) : Int)⟩ := by
  intro f
  induction f with
  | zero => intro p0; simp only [sqRow, List.not_mem_nil, false_iff]; rintro ⟨p, h1, h2, _⟩; omega
  | succ f ih =>
    intro p0
    rw [sqRow]
    by_cases c : a + 2 * p0 ≤ w.length
    · rw [if_pos c, List.mem_append, ih]
      constructor
      · rintro (h | ⟨p, h1, h2, h3⟩)
        · by_cases r : Rep w p0 a p0
          · rw [if_pos r, List.mem_singleton] at h
            exact ⟨p0, Nat.le_refl _, by omega, c, r, h⟩
          · rw [if_neg r] at h; cases h
        · exact ⟨p, by omega, by omega, h3⟩
      · rintro ⟨p, h1, h2, h3, h4, h5⟩
        by_cases e : p = p0
        · subst e
          left
          rw [if_pos h4, List.mem_singleton]
          exact h5
        · exact .inr ⟨p, by omega, by omega, h3, h4, h5⟩
    · rw [if_neg c]
      simp only [List.not_mem_nil, false_iff]
      rintro ⟨p, h1, h2, h3, _⟩
      omega

theorem mem_sqAll (w : List Int) (x : S55) : ∀ f a0, x ∈ sqAll w f a0 ↔ ∃ a p, a0 ≤ a ∧ a < a0 + f ∧ 1 ≤ p ∧ a < w.length ∧ a + 2 * p ≤ w.length ∧ Rep w p a p ∧ x = ⟨(a : Int), (p : Int), ((2 * p : Nat) : Int)⟩ := by
  intro f
  induction f with
  | zero => intro a0; simp only [sqAll, List.not_mem_nil, false_iff]; rintro ⟨a, p, h1, h2, _⟩; omega
  | succ f ih =>
    intro a0
    rw [sqAll]
    by_cases c : a0 < w.length
    · rw [if_pos c, List.mem_append, ih, mem_sqRow]
      constructor
      · rintro (⟨p, h1, h2, h3⟩ | ⟨a, p, h1, h2, h3⟩)
        · exact ⟨a0, p, Nat.le_refl _, by omega, h1, c, h3⟩
        · exact ⟨a, p, by omega, by omega, h3⟩
      · rintro ⟨a, p, h1, h2, h3, h4, h5, h6⟩
        by_cases e : a = a0
        · subst e
          exact .inl ⟨p, h3, by omega, h5, h6⟩
        · exact .inr ⟨a, p, by omega, by omega, h3, h4, h5, h6⟩
    · rw [if_neg c]
      simp only [List.not_mem_nil, false_iff]
      rintro ⟨a, p, h1, h2, h3, h4, _⟩
      omega

theorem mem_sqs (w : List Int) (x : S55) : x ∈ sqs w ↔ w.length ≤ 64 ∧ ∃ a p : Nat, 1 ≤ p ∧ a + 2 * p ≤ w.length ∧ Rep w p a p ∧ x = ⟨(a : Int), (p : Int), ((2 * p : Nat) : Int)⟩ := by
  unfold sqs
  by_cases c : 64 < w.length
  · rw [if_pos c]
    simp only [List.not_mem_nil, false_iff]
    rintro ⟨h, _⟩
    omega
  · rw [if_neg c, mem_sqAll]
    constructor
    · rintro ⟨a, p, h1, h2, h3, h4, h5⟩
      exact ⟨by omega, a, p, h3, h5⟩
    · rintro ⟨_, a, p, h1, h2, h3⟩
      exact ⟨a, p, by omega, by omega, h1, by omega, h2, h3⟩

/-- A square's letters. -/
def sqCut (w : List Int) (x : S55) : List Int := (w.take (x.f0 + x.f2).toNat).drop x.f0.toNat

theorem sqs_in (w : List Int) (x : S55) (h : x ∈ sqs w) : 0 ≤ x.f0 ∧ x.f0 ≤ x.f0 + x.f2 ∧ x.f0 + x.f2 ≤ (w.length : Int) ∧ w.length ≤ 64 := by
  obtain ⟨h0, a, p, h1, h2, h3, rfl⟩ := (mem_sqs w x).1 h
  simp only []
  omega

def dsq (w : List Int) : List (List Int) := canon ((sqs w).map (sqCut w))

/-! ### spec_CompareWords -/
theorem spec_CompareWords_loop (u v : List Int) (hu : u.length ≤ 1048576) (d : Nat) : ∀ n : Nat, n + d = u.length → n ≤ v.length →
    Ev (fun k => spec_CompareWords.l0 k u v (n : Int)) (cmpW (u.drop n) (v.drop n)) := by
  induction d with
  | zero =>
    intro n h h2
    have hn : n = u.length := by omega
    subst hn
    refine Ev_succ ?_
    simp only [spec_CompareWords.l0]
    refine Ev_neg (by omega) (Ev_succ ?_)
    simp only [spec_CompareWords.j1]
    refine Ev_neg (by simp) ?_
    rw [List.drop_length, cmpW_nil_left]
    by_cases c : u.length < v.length
    · refine Ev_pos (by omega) (Ev_some ?_)
      rw [if_neg (by simp; omega)]
    · refine Ev_neg (by omega) (Ev_neg (by omega) (Ev_some ?_))
      rw [if_pos (by simp; omega)]
  | succ d ih =>
    intro n h h2
    refine Ev_succ ?_
    simp only [spec_CompareWords.l0]
    refine Ev_pos (by omega) (Ev_succ ?_)
    simp only [spec_CompareWords.j1]
    by_cases c : n < v.length
    · refine Ev_pos (by simp; omega) (Ev_pos (by omega) (Ev_pos (by omega) (Ev_pos (by omega) ?_)))
      rw [rd_cast, rd_cast, drop_cons u n 0 (by omega), drop_cons v n 0 c, cmpW_cons, wsucc (by omega)]
      refine Ev_ite (fun g => Ev_some ?_) (fun g => ?_)
      · rw [if_pos g]
      · rw [if_neg g]
        refine Ev_ite (fun g2 => Ev_some ?_) (fun g2 => ?_)
        · rw [if_pos g2]
        · rw [if_neg g2]
          exact ih (n + 1) (by omega) (by omega)
    · refine Ev_neg (by simp; omega) (Ev_neg (by omega) (Ev_pos (by omega) (Ev_some ?_)))
      rw [List.drop_eq_nil_of_le (show v.length ≤ n by omega), cmpW_nil_right, if_neg (by simp; omega)]

theorem spec_CompareWords_ev (u v : List Int) (hu : u.length ≤ 1048576) : Ev (fun k => spec_CompareWords.f k u v) (cmpW u v) := by
  unfold spec_CompareWords.f
  exact spec_CompareWords_loop u v hu _ 0 (Nat.zero_add _) (by omega)

/-! ### spec_l8Put -/
theorem spec_l8Put_loop (l : List (List Int)) (w : List Int) (hw : w.length ≤ 1048576) (hl : l.length ≤ 1048576) (d : Nat) : ∀ (n : Nat) (out : List (List Int)) (pl : Bool), n + d = l.length → out.length ≤ n + (if pl = true then 1 else 0) →
    Ev (fun k => spec_l8Put.l0 k l w out pl (n : Int)) (out ++ if pl = true then l.drop n else putW w (l.drop n)) := by
  induction d with
  | zero =>
    intro n out pl h1 h2
    have hn : n = l.length := by omega
    have h2' : out.length ≤ n + 1 := by split at h2 <;> omega
    refine Ev_succ ?_
    simp only [spec_l8Put.l0]
    refine Ev_neg (by omega) ?_
    rw [hn, List.drop_length]
    cases pl with
    | true => exact Ev_pos rfl (Ev_some (by simp))
    | false =>
      refine Ev_neg (by simp) ?_
      simp only [Option.bind_some]
      exact Ev_pos (by simp; omega) (Ev_pos (by omega) (Ev_some (by simp [putW])))
  | succ d ih =>
    intro n out pl h1 h2
    have h2' : out.length ≤ n + 1 := by split at h2 <;> omega
    refine Ev_succ ?_
    simp only [spec_l8Put.l0]
    refine Ev_pos (by omega) (Ev_pos (by omega) ?_)
    have hx : rd_L3 l (n : Int) = l.getD n [] := rfl
    rw [hx, drop_cons l n [] (by omega)]
    refine Ev_call _ (spec_CompareWords_ev w (l.getD n []) hw) ?_
    have step : ∀ (pl' : Bool) (out' : List (List Int)), out'.length ≤ n + 1 + (if pl' = true then 1 else 0) → Ev (fun k => spec_l8Put.l0 k l w out' pl' (wrap64 ((n : Int) + 1))) (out' ++ if pl' = true then l.drop (n + 1) else putW w (l.drop (n + 1))) := by
      intro pl' out' h
      rw [wsucc (by omega)]
      exact ih (n + 1) out' pl' (by omega) (by omega)
    by_cases c0 : cmpW w (l.getD n []) = 0
    · refine Ev_pos c0 (Ev_neg (by omega) (Ev_pos (by omega) (Ev_eq (step true _ (by simp; omega)) ?_)))
      rw [if_pos rfl, List.append_assoc]
      congr 1
      cases pl with
      | true => rfl
      | false => rw [if_neg (by simp), putW, if_neg (by omega), if_pos c0]; rfl
    · refine Ev_neg c0 ?_
      by_cases c1 : cmpW w (l.getD n []) < 0
      · refine Ev_pos c1 ?_
        cases pl with
        | true =>
          refine Ev_pos rfl (Ev_pos (by omega) (Ev_eq (step true _ (by simp; omega)) ?_))
          rw [if_pos rfl, if_pos rfl, List.append_assoc]
          rfl
        | false =>
          refine Ev_neg (by simp) ?_
          simp only [Option.bind_some]
          refine Ev_pos (by simp; omega) (Ev_pos (by omega) (Ev_pos (by simp; omega) (Ev_eq (step true _ (by simp at h2 ⊢; omega)) ?_)))
          rw [if_pos rfl, if_neg (by simp), putW, if_pos c1]
          simp
      · refine Ev_neg c1 (Ev_pos (by omega) (Ev_eq (step pl _ (by rw [List.length_append, List.length_singleton]; omega)) ?_))
        rw [List.append_assoc]
        congr 1
        cases pl with
        | true => rfl
        | false => rw [if_neg (by simp), if_neg (by simp), putW, if_neg c1, if_neg c0]; rfl

theorem spec_l8Put_ev (l : List (List Int)) (w : List Int) (hw : w.length ≤ 1048576) (hl : l.length ≤ 1048576) : Ev (fun k => spec_l8Put.f k l w) (putW w l) := by
  unfold spec_l8Put.f
  exact Ev_eq (spec_l8Put_loop l w hw hl l.length 0 [] false (by omega) (by simp)) (by simp)

/-! ### spec_DistinctSquares -/
theorem spec_DistinctSquares_loop (w : List Int) (hb : w.length ≤ 1048576) (d : Nat) : ∀ n : Nat, n + d = (sqs w).length →
    Ev (fun k => spec_DistinctSquares.l0 k w (sqs w) (canon (((sqs w).take n).map (sqCut w))) (n : Int)) ((dsq w).length : Int) := by
  have hlen := sqs_length w
  induction d with
  | zero =>
    intro n h
    refine Ev_succ ?_
    simp only [spec_DistinctSquares.l0]
    refine Ev_neg (by omega) (Ev_some ?_)
    rw [show n = (sqs w).length by omega, List.take_length]
    rfl
  | succ d ih =>
    intro n h
    refine Ev_succ ?_
    simp only [spec_DistinctSquares.l0]
    have hx : rd_T55 (sqs w) (n : Int) = (sqs w).getD n z55 := rfl
    have hm : (sqs w).getD n z55 ∈ sqs w := by rw [getD_eq (show n < (sqs w).length by omega)]; exact List.getElem_mem _
    obtain ⟨i0, i1, i2, i3⟩ := sqs_in w _ hm
    rw [hx, w64 (by omega) (by omega)]
    refine Ev_pos (by omega) (Ev_pos (by omega) (Ev_pos i0 (Ev_pos i1 (Ev_pos i2 ?_))))
    have hc : (List.take ((List.getD (sqs w) n z55).f0 + (List.getD (sqs w) n z55).f2).toNat w).drop (List.getD (sqs w) n z55).f0.toNat = sqCut w ((sqs w).getD n z55) := rfl
    rw [hc]
    have hcl : (sqCut w ((sqs w).getD n z55)).length ≤ 1048576 := by unfold sqCut; simp; omega
    have hkl := canon_length (((sqs w).take n).map (sqCut w))
    rw [List.length_map, List.length_take] at hkl
    refine Ev_call _ (spec_l8Put_ev _ _ hcl (by omega)) ?_
    rw [← canon_snoc, wsucc (by omega)]
    have := ih (n + 1) (by omega)
    rwa [take_succ_getD (sqs w) n z55 (by omega), List.map_append] at this

theorem spec_DistinctSquares_ev (w : List Int) (hb : w.length ≤ 1048576) : Ev (fun k => spec_DistinctSquares.f k w) ((dsq w).length : Int) := by
  unfold spec_DistinctSquares.f
  refine Ev_call _ (spec_SquaresOf_ev w hb) ?_
  exact spec_DistinctSquares_loop w hb (sqs w).length 0 (Nat.zero_add _)

/-! ### impl_DistinctSquares -/
theorem impl_different_ev (l : List (List Int)) (h : l.length < 4611686018427387904) : Ev (fun k => impl_different.f k l) (canon l) := by
  unfold impl_different.f
  exact Ev_pos h (Ev.now _)

theorem impl_DistinctSquares_loop (w : List Int) (hb : w.length ≤ 1048576) (d : Nat) : ∀ n : Nat, n + d = (sqs w).length →
    Ev (fun k => impl_DistinctSquares.l0 k w (((sqs w).take n).map (sqCut w)) (sqs w) ((sqs w).length : Int) (n : Int)) ((dsq w).length : Int) := by
  have hlen := sqs_length w
  induction d with
  | zero =>
    intro n h
    refine Ev_succ ?_
    simp only [impl_DistinctSquares.l0]
    refine Ev_neg (by omega) ?_
    rw [show n = (sqs w).length by omega, List.take_length]
    exact Ev_call _ (impl_different_ev _ (by rw [List.length_map]; omega)) (Ev_some rfl)
  | succ d ih =>
    intro n h
    refine Ev_succ ?_
    simp only [impl_DistinctSquares.l0]
    have hx : rd_T55 (sqs w) (n : Int) = (sqs w).getD n z55 := rfl
    have hm : (sqs w).getD n z55 ∈ sqs w := by rw [getD_eq (show n < (sqs w).length by omega)]; exact List.getElem_mem _
    obtain ⟨i0, i1, i2, i3⟩ := sqs_in w _ hm
    rw [hx, w64 (by omega) (by omega)]
    have hc : (List.take ((List.getD (sqs w) n z55).f0 + (List.getD (sqs w) n z55).f2).toNat w).drop (List.getD (sqs w) n z55).f0.toNat = sqCut w ((sqs w).getD n z55) := rfl
    rw [hc]
    have hcl : (sqCut w ((sqs w).getD n z55)).length ≤ 1048576 := by unfold sqCut; simp; omega
    simp only [Option.bind_some]
    refine Ev_pos (by omega) (Ev_pos (by omega) (Ev_pos (by omega) (Ev_pos i0 (Ev_pos i1 (Ev_pos i2 (Ev_pos (by rw [List.length_nil]; omega) (Ev_pos (by rw [List.length_map, List.length_take]; omega) ?_)))))))
    rw [wsucc (by omega)]
    have := ih (n + 1) (by omega)
    rwa [take_succ_getD (sqs w) n z55 (by omega), List.map_append] at this

theorem impl_DistinctSquares_ev (w : List Int) (hb : w.length ≤ 1048576) : Ev (fun k => impl_DistinctSquares.f k w) ((dsq w).length : Int) := by
  unfold impl_DistinctSquares.f
  refine Ev_call _ (impl_SquaresOf_ev w hb) ?_
  exact impl_DistinctSquares_loop w hb (sqs w).length 0 (Nat.zero_add _)

/-! ### spec_l10Gcd -/
theorem spec_l10Gcd_ev : ∀ b a : Nat, Ev (fun k => spec_l10Gcd.f k (a : Int) (b : Int)) ((Nat.gcd a b : Nat) : Int) := by
  intro b
  unfold spec_l10Gcd.f
  induction b using Nat.strongRecOn with
  | _ b ih =>
    intro a
    refine Ev_succ ?_
    simp only [spec_l10Gcd.l0]
    by_cases h : b = 0
    · subst h
      exact Ev_neg (by omega) (Ev_some (by rw [Nat.gcd_zero_right]))
    · refine Ev_pos (by omega) (Ev_neg (by omega) ?_)
      rw [tmod_nat, gcd_step a b h]
      exact ih _ (Nat.mod_lt _ (by omega)) b

/-! ### spec_GreatestExponent -/
def SpGE (w : List Int) (a p N D : Nat) : Prop :=
  (D = 0 → N = 0 ∧ a = 0 ∧ p = 1) ∧ (1 ≤ D → RatIn w N D ∧ ∀ q a' c, 1 ≤ q → (a' < a ∨ (a' = a ∧ q < p)) → Rep w q a' c → (c + q) * D ≤ N * q)

def spOut (N D : Nat) : Int × Int := (((N / Nat.gcd N D : Nat) : Int), ((D / Nat.gcd N D : Nat) : Int))

theorem spec_GreatestExponent_l1 (w : List Int) (hb : w.length ≤ 128) (a : Nat) (ha : a < w.length)
    (hx : ∀ N D, SpGE w (a + 1) 1 N D → ∃ N' D' : Nat, RatMax w N' D' ∧ Ev (fun k => spec_GreatestExponent.l0 k w (N : Int) (D : Int) ((a + 1 : Nat) : Int)) (spOut N' D')) (d : Nat) :
    ∀ p N D : Nat, 1 ≤ p → p ≤ w.length + 1 → w.length < a + p + d → SpGE w a p N D →
    ∃ N' D' : Nat, RatMax w N' D' ∧ Ev (fun k => spec_GreatestExponent.l1 k w (N : Int) (D : Int) (a : Int) (p : Int)) (spOut N' D') := by
  induction d with
  | zero =>
    intro p N D hp hp2 hd hi
    obtain ⟨N', D', h1, h2⟩ := hx N D ⟨fun e => by have := hi.1 e; omega, fun hD => by
      obtain ⟨g1, g2⟩ := hi.2 hD
      refine ⟨g1, fun q a' c e1 e2 e3 => ?_⟩
      by_cases c1 : a' < a
      · exact g2 q a' c e1 (Or.inl c1) e3
      · have := e3.1
        exact g2 q a' c e1 (Or.inr ⟨by omega, by omega⟩) e3⟩
    refine ⟨N', D', h1, Ev_succ ?_⟩
    simp only [spec_GreatestExponent.l1]
    rw [w64 (n := (a : Int) + p) (by omega) (by omega), wsucc (n := a) (by omega)]
    exact Ev_neg (by omega) h2
  | succ d ih =>
    intro p N D hp hp2 hd hi
    by_cases hend : a + p ≤ w.length
    · obtain ⟨C, hC, hev⟩ := spec_l10Match_ev w (by omega) a p hend
      have hC1 := hC.1.1
      by_cases hD : D = 0
      · have h0 := hi.1 hD
        obtain ⟨N', D', h1, h2⟩ := ih (p + 1) (C + p) p (by omega) (by omega) (by omega) ⟨fun e => by omega, fun _ => ⟨⟨hp, a, C, hC.1, rfl⟩, fun q a' c e1 e2 e3 => by
          have : a' = a ∧ q = p := by omega
          obtain ⟨rfl, rfl⟩ := this
          exact Nat.mul_le_mul_right _ (by have := hC.2 c e3; omega)⟩⟩
        refine ⟨N', D', h1, Ev_succ ?_⟩
        simp only [spec_GreatestExponent.l1]
        rw [w64 (n := (a : Int) + p) (by omega) (by omega), wsucc (n := p) (by omega)]
        exact Ev_pos (by omega) (Ev_call _ hev (Ev_pos (by omega) h2))
      · obtain ⟨g1, g2⟩ := hi.2 (by omega)
        have hle := g1.le
        by_cases hlt : N * p < (C + p) * D
        · obtain ⟨N', D', h1, h2⟩ := ih (p + 1) (C + p) p (by omega) (by omega) (by omega) ⟨fun e => by omega, fun _ => ⟨⟨hp, a, C, hC.1, rfl⟩, fun q a' c e1 e2 e3 => by
            by_cases e : a' = a ∧ q = p
            · obtain ⟨rfl, rfl⟩ := e
              exact Nat.mul_le_mul_right _ (by have := hC.2 c e3; omega)
            · exact rat_up g1.1 hlt (g2 q a' c e1 (by omega) e3)⟩⟩
          refine ⟨N', D', h1, Ev_succ ?_⟩
          simp only [spec_GreatestExponent.l1]
          rw [w64 (n := (a : Int) + p) (by omega) (by omega), wsucc (n := p) (by omega)]
          refine Ev_pos (by omega) (Ev_call _ hev (Ev_neg (by omega) ?_))
          rw [wmul (C + p) D (by omega) (by omega), wmul N p (by omega) (by omega)]
          exact Ev_pos (Int.ofNat_lt.2 hlt) h2
        · obtain ⟨N', D', h1, h2⟩ := ih (p + 1) N D (by omega) (by omega) (by omega) ⟨fun e => absurd e hD, fun _ => ⟨g1, fun q a' c e1 e2 e3 => by
            by_cases e : a' = a ∧ q = p
            · obtain ⟨rfl, rfl⟩ := e
              have a1 : (c + q) * D ≤ (C + q) * D := Nat.mul_le_mul_right _ (by have := hC.2 c e3; omega)
              omega
            · exact g2 q a' c e1 (by omega) e3⟩⟩
          refine ⟨N', D', h1, Ev_succ ?_⟩
          simp only [spec_GreatestExponent.l1]
          rw [w64 (n := (a : Int) + p) (by omega) (by omega), wsucc (n := p) (by omega)]
          refine Ev_pos (by omega) (Ev_call _ hev (Ev_neg (by omega) ?_))
          rw [wmul (C + p) D (by omega) (by omega), wmul N p (by omega) (by omega)]
          exact Ev_neg (fun h => hlt (Int.ofNat_lt.1 h)) h2
    · obtain ⟨N', D', h1, h2⟩ := hx N D ⟨fun e => by have := hi.1 e; omega, fun hD => by
        obtain ⟨g1, g2⟩ := hi.2 hD
        refine ⟨g1, fun q a' c e1 e2 e3 => ?_⟩
        by_cases c1 : a' < a
        · exact g2 q a' c e1 (Or.inl c1) e3
        · have := e3.1
          exact g2 q a' c e1 (Or.inr ⟨by omega, by omega⟩) e3⟩
      refine ⟨N', D', h1, Ev_succ ?_⟩
      simp only [spec_GreatestExponent.l1]
      rw [w64 (n := (a : Int) + p) (by omega) (by omega), wsucc (n := a) (by omega)]
      exact Ev_neg (by omega) h2

theorem spec_GreatestExponent_l0 (w : List Int) (hb : w.length ≤ 128) (h1l : 1 ≤ w.length) (d : Nat) : ∀ a N D : Nat, a + d = w.length → SpGE w a 1 N D →
    ∃ N' D' : Nat, RatMax w N' D' ∧ Ev (fun k => spec_GreatestExponent.l0 k w (N : Int) (D : Int) (a : Int)) (spOut N' D') := by
  induction d with
  | zero =>
    intro a N D hd hi
    have hD : D ≠ 0 := fun e => by have := hi.1 e; omega
    obtain ⟨g1, g2⟩ := hi.2 (by omega)
    have hle := g1.le
    have hg : 0 < Nat.gcd N D := Nat.gcd_pos_of_pos_right _ (by omega)
    have l1 : N / Nat.gcd N D ≤ N := Nat.div_le_self _ _
    have l2 : D / Nat.gcd N D ≤ D := Nat.div_le_self _ _
    refine ⟨N, D, ⟨g1, fun q a' c e1 e2 => g2 q a' c e1 (Or.inl (by have := e2.1; omega)) e2⟩, Ev_succ ?_⟩
    simp only [spec_GreatestExponent.l0]
    refine Ev_neg (by omega) (Ev_succ ?_)
    simp only [spec_GreatestExponent.j1]
    refine Ev_neg (by simp) (Ev_neg (by omega) (Ev_call _ (spec_l10Gcd_ev D N) (Ev_neg (by omega) (Ev_some ?_))))
    rw [tdiv_nat, tdiv_nat, w64_le l1 (by omega), w64_le l2 (by omega)]
    rfl
  | succ d ih =>
    intro a N D hd hi
    have hlt : (a : Int) < (w.length : Int) := by omega
    have hle : decide ((w.length : Int) ≤ 128) = true := by simp; omega
    obtain ⟨N', D', h1, h2⟩ := spec_GreatestExponent_l1 w hb a (by omega) (fun N D => ih (a + 1) N D (by omega)) w.length 1 N D (by omega) (by omega) (by omega) hi
    refine ⟨N', D', h1, Ev_succ ?_⟩
    simp only [spec_GreatestExponent.l0]
    refine Ev_pos hlt (Ev_succ ?_)
    simp only [spec_GreatestExponent.j1]
    exact Ev_pos hle h2

theorem spec_GreatestExponent_ev (w : List Int) (hb : w.length ≤ 1048576) :
    (w.length = 0 ∨ 128 < w.length → Ev (fun k => spec_GreatestExponent.f k w) ((0 : Int), (0 : Int))) ∧
    (1 ≤ w.length → w.length ≤ 128 → ∃ N D : Nat, RatMax w N D ∧ Ev (fun k => spec_GreatestExponent.f k w) (spOut N D)) := by
  unfold spec_GreatestExponent.f
  constructor
  · rintro (h | h)
    · refine Ev_succ ?_
      simp only [spec_GreatestExponent.l0]
      refine Ev_neg (by omega) (Ev_succ ?_)
      simp only [spec_GreatestExponent.j1]
      exact Ev_neg (by simp) (Ev_pos (by simp) (Ev.now _))
    · refine Ev_succ ?_
      simp only [spec_GreatestExponent.l0]
      refine Ev_pos (by omega) (Ev_succ ?_)
      simp only [spec_GreatestExponent.j1]
      exact Ev_neg (by simp; omega) (Ev_pos (by simp) (Ev.now _))
  · intro h1 h2
    exact spec_GreatestExponent_l0 w h2 h1 _ 0 0 0 (Nat.zero_add _) ⟨fun _ => ⟨rfl, rfl, rfl⟩, fun h => by omega⟩

/-! ### impl_gcd -/
theorem impl_gcd_ev : ∀ b a : Nat, Ev (fun k => impl_gcd.f k (a : Int) (b : Int)) ((Nat.gcd a b : Nat) : Int) := by
  intro b
  unfold impl_gcd.f
  induction b using Nat.strongRecOn with
  | _ b ih =>
    intro a
    refine Ev_succ ?_
    simp only [impl_gcd.l0]
    by_cases h : b = 0
    · subst h
      exact Ev_pos (by omega) (Ev_some (by rw [Nat.gcd_zero_right]))
    · refine Ev_neg (by omega) ?_
      rw [tmod_nat, gcd_step a b h]
      exact ih _ (Nat.mod_lt _ (by omega)) b

/-! ### impl_lowest -/
theorem impl_lowest_ev (a b : Nat) (ha : a ≤ 1048576) (hb : b ≤ 1048576) (h : 0 < b) : Ev (fun k => impl_lowest.f k (a : Int) (b : Int)) (((a / Nat.gcd a b : Nat) : Int), ((b / Nat.gcd a b : Nat) : Int)) := by
  unfold impl_lowest.f
  have hg : 0 < Nat.gcd a b := Nat.gcd_pos_of_pos_right _ h
  have h1 : a / Nat.gcd a b ≤ a := Nat.div_le_self _ _
  have h2 : b / Nat.gcd a b ≤ b := Nat.div_le_self _ _
  refine Ev_call _ (impl_gcd_ev b a) (Ev_neg (by omega) (Ev_some ?_))
  rw [tdiv_nat, tdiv_nat, w64_le h1 ha, w64_le h2 hb]

/-! ### impl_GreatestExponent -/
theorem impl_GreatestExponent_loop (w : List Int) (hb : w.length ≤ 128) (d : Nat) : ∀ p N D : Nat, 1 ≤ p → p + d = w.length + 1 → RatIn w N D → (∀ q a c, 1 ≤ q → q < p → Rep w q a c → (c + q) * D ≤ N * q) →
    ∃ N' D' : Nat, RatMax w N' D' ∧ Ev (fun k => impl_GreatestExponent.l0 k w (N : Int) (D : Int) (p : Int)) (((N' / Nat.gcd N' D' : Nat) : Int), ((D' / Nat.gcd N' D' : Nat) : Int)) := by
  induction d with
  | zero =>
    intro p N D hp hd hi hm
    have hle := hi.le
    refine ⟨N, D, ⟨hi, fun q a c h1 h2 => hm q a c h1 (by have := h2.1; omega) h2⟩, Ev_succ ?_⟩
    simp only [impl_GreatestExponent.l0]
    exact Ev_neg (by omega) (Ev_call _ (impl_lowest_ev N D (by omega) (by omega) hi.1) (Ev.now _))
  | succ d ih =>
    intro p N D hp hd hi hm
    have hle := hi.le
    obtain ⟨B, hB, hl, hev⟩ := impl_longestRepeat_ev w (by omega) p (by omega)
    by_cases hlt : N * p < (B + p) * D
    · have hnew : RatIn w (B + p) p := ⟨hp, by obtain ⟨a, ha⟩ := hB.1; exact ⟨a, B, ha, rfl⟩⟩
      obtain ⟨N', D', h1, h2⟩ := ih (p + 1) (B + p) p (by omega) (by omega) hnew (fun q a c g1 g2 g3 => by
        by_cases e : q = p
        · subst e
          exact Nat.mul_le_mul_right _ (by have := hB.2 a c g3; omega)
        · exact rat_up hi.1 hlt (hm q a c g1 (by omega) g3))
      refine ⟨N', D', h1, Ev_succ ?_⟩
      simp only [impl_GreatestExponent.l0]
      refine Ev_pos (by omega) (Ev_call _ hev ?_)
      rw [wmul (B + p) D (by omega) (by omega), wmul N p (by omega) (by omega), wsucc (n := p) (by omega)]
      exact Ev_pos (Int.ofNat_lt.2 hlt) h2
    · obtain ⟨N', D', h1, h2⟩ := ih (p + 1) N D (by omega) (by omega) hi (fun q a c g1 g2 g3 => by
        by_cases e : q = p
        · subst e
          have a1 : (c + q) * D ≤ (B + q) * D := Nat.mul_le_mul_right _ (by have := hB.2 a c g3; omega)
          omega
        · exact hm q a c g1 (by omega) g3)
      refine ⟨N', D', h1, Ev_succ ?_⟩
      simp only [impl_GreatestExponent.l0]
      refine Ev_pos (by omega) (Ev_call _ hev ?_)
      rw [wmul (B + p) D (by omega) (by omega), wmul N p (by omega) (by omega), wsucc (n := p) (by omega)]
      exact Ev_neg (fun h => hlt (Int.ofNat_lt.1 h)) h2

theorem impl_GreatestExponent_ev (w : List Int) (hb : w.length ≤ 1048576) :
    (w.length = 0 ∨ 128 < w.length → Ev (fun k => impl_GreatestExponent.f k w) ((0 : Int), (0 : Int))) ∧
    (1 ≤ w.length → w.length ≤ 128 → ∃ N D : Nat, RatMax w N D ∧ Ev (fun k => impl_GreatestExponent.f k w) (((N / Nat.gcd N D : Nat) : Int), ((D / Nat.gcd N D : Nat) : Int))) := by
  unfold impl_GreatestExponent.f
  constructor
  · rintro (h | h)
    · refine Ev_pos (by omega) (Ev_succ ?_)
      simp only [impl_GreatestExponent.j0]
      exact Ev_pos (by simp) (Ev.now _)
    · refine Ev_neg (by omega) (Ev_succ ?_)
      simp only [impl_GreatestExponent.j0]
      exact Ev_pos (by simp; omega) (Ev.now _)
  · intro h1 h2
    obtain ⟨N, D, h3, h4⟩ := impl_GreatestExponent_loop w h2 w.length 1 1 1 (by omega) (by omega) ⟨by omega, 0, 0, ⟨by omega, fun j hj => by omega⟩, rfl⟩ (fun q a c g1 g2 => by omega)
    refine ⟨N, D, h3, Ev_neg (by omega) (Ev_succ ?_)⟩
    simp only [impl_GreatestExponent.j0]
    exact Ev_neg (by simp; omega) h4

/-! ### spec_l9Borders -/
theorem spec_l9Borders_l1 (w : List Int) (hb : w.length ≤ 1048576) (n : Nat) (hn : 1 ≤ n) (hl : n < w.length) (out : List Int) (ho : out.length = n) (ho2 : ∀ m, m < n → out.getD m 0 = ((lb w (m + 1) : Nat) : Int)) (r : List Int)
    (hx : Ev (fun k => spec_l9Borders.l0 k w (out ++ [((lb w (n + 1) : Nat) : Int)]) ((lb w (n + 1) : Nat) : Int) ((n + 1 : Nat) : Int)) r) :
    ∀ k : Nat, Cand w (n + 1) (k + 1) → Ev (fun f => spec_l9Borders.l1 f w out (k : Int) (n : Int)) r := by
  intro k
  induction k using Nat.strongRecOn with
  | _ k ih =>
    intro hc
    have hkn : k < n := by have := hc.2.1; simp at this; omega
    refine Ev_succ ?_
    simp only [spec_l9Borders.l1]
    rw [rd_cast, rd_cast, wsucc (n := k) (by omega), wsucc (n := n) (by omega)]
    by_cases k0 : k = 0
    · subst k0
      refine Ev_neg (by omega) (Ev_pos (by omega) (Ev_pos (by omega) (Ev_pos (by omega) (Ev_pos (by omega) ?_))))
      by_cases he : w.getD n 0 = w.getD 0 0
      · have e := lb_of_cand (by omega) (by omega) hc (Or.inr (by simpa using he.symm))
        rw [e] at hx
        exact Ev_pos he (Ev_pos (by omega) hx)
      · have hnx := hc.next (by omega) (by omega) (by simpa using fun h => he h.symm)
        rw [if_pos rfl] at hnx
        have e := lb_of_cand (by omega) (by omega) hnx (Or.inl rfl)
        rw [e] at hx
        exact Ev_neg he (Ev_pos (by omega) hx)
    · refine Ev_pos (by omega) (Ev_pos (by omega) (Ev_pos (by omega) (Ev_pos (by omega) (Ev_pos (by omega) ?_))))
      by_cases he : w.getD n 0 = w.getD k 0
      · have e := lb_of_cand (by omega) (by omega) hc (Or.inr (by simpa using he.symm))
        rw [e] at hx
        exact Ev_pos he (Ev_pos (by omega) hx)
      · have hnx := hc.next (by omega) (by omega) (by simpa using fun h => he h.symm)
        rw [if_neg k0] at hnx
        have hlt := lb_lt w k (by omega) (by omega)
        have := ih _ (by omega) hnx
        rw [wnat (x := (k : Int) - 1) (k - 1) (by omega) (by omega), rd_cast, ho2 (k - 1) (by omega), show k - 1 + 1 = k by omega]
        exact Ev_neg he (Ev_pos (by omega) (Ev_pos (by omega) this))

theorem spec_l9Borders_l0 (w : List Int) (hb : w.length ≤ 1048576) (d : Nat) : ∀ (n : Nat) (out : List Int), 1 ≤ n → n + d = w.length → out.length = n → (∀ m, m < n → out.getD m 0 = ((lb w (m + 1) : Nat) : Int)) →
    ∃ r, r.length = w.length ∧ (∀ m, m < w.length → r.getD m 0 = ((lb w (m + 1) : Nat) : Int)) ∧ Ev (fun k => spec_l9Borders.l0 k w out ((lb w n : Nat) : Int) (n : Int)) r := by
  induction d with
  | zero =>
    intro n out h1 h h2 h3
    have : n = w.length := by omega
    subst this
    refine ⟨out, h2, h3, Ev_succ ?_⟩
    simp only [spec_l9Borders.l0]
    exact Ev_neg (by omega) (Ev.now _)
  | succ d ih =>
    intro n out h1 h h2 h3
    obtain ⟨r, g1, g2, g3⟩ := ih (n + 1) (out ++ [((lb w (n + 1) : Nat) : Int)]) (by omega) (by omega) (by simp; omega) (fun m hm => by
      by_cases e : m = n
      · subst e; rw [getD_append_right _ _ _ _ (by omega), h2]; simp
      · rw [getD_append_left _ _ _ _ (by omega)]; exact h3 m (by omega))
    refine ⟨r, g1, g2, Ev_succ ?_⟩
    simp only [spec_l9Borders.l0]
    refine Ev_pos (by omega) (Ev_neg (by omega) ?_)
    have hc := Cand.first (w := w) (n + 1) (by omega) (by omega)
    rw [if_neg (by omega), Nat.add_sub_cancel] at hc
    exact spec_l9Borders_l1 w hb n h1 (by omega) out h2 h3 r g3 _ hc

theorem spec_l9Borders_ev (w : List Int) (hb : w.length ≤ 1048576) : ∃ r, r.length = w.length ∧ (∀ m, m < w.length → r.getD m 0 = ((lb w (m + 1) : Nat) : Int)) ∧ Ev (fun k => spec_l9Borders.f k w) r := by
  unfold spec_l9Borders.f
  by_cases h : w.length = 0
  · refine ⟨[], by simp [h], fun m hm => by omega, Ev_succ ?_⟩
    simp only [spec_l9Borders.l0]
    exact Ev_neg (by omega) (Ev.now _)
  · have e1 : lb w 1 = 0 := by have := lb_lt w 1 (by omega) (by omega); omega
    obtain ⟨r, g1, g2, g3⟩ := spec_l9Borders_l0 w hb (w.length - 1) 1 [0] (by omega) (by omega) rfl (fun m hm => by
      have : m = 0 := by omega
      subst this; rw [e1]; rfl)
    refine ⟨r, g1, g2, Ev_succ ?_⟩
    simp only [spec_l9Borders.l0]
    rw [e1] at g3
    rw [show wrap64 (0 + 1) = ((1 : Nat) : Int) from by unfold wrap64; rfl]
    exact Ev_pos (by omega) (Ev_pos trivial (Ev_pos (by simp) g3))

/-! ### spec_BordersOf -/
theorem spec_BordersOf_loop (w : List Int) (hb : w.length ≤ 1048576) (b : List Int) (hb1 : b.length = w.length) (hb2 : ∀ m, m < w.length → b.getD m 0 = ((lb w (m + 1) : Nat) : Int)) :
    ∀ (n : Nat) (acc : List Int), n ≤ w.length → acc.length + n ≤ w.length → Ev (fun k => spec_BordersOf.l0 k acc b (n : Int)) (bc w n n ++ acc) := by
  intro n
  induction n using Nat.strongRecOn with
  | _ n ih =>
    intro acc hn ha
    refine Ev_succ ?_
    simp only [spec_BordersOf.l0]
    by_cases n0 : n = 0
    · subst n0
      exact Ev_neg (by omega) (Ev_some (by simp [bc]))
    · have hlt := lb_lt w n (by omega) hn
      rw [wnat (x := (n : Int) - 1) (n - 1) (by omega) (by omega), rd_cast, hb2 (n - 1) (by omega), show n - 1 + 1 = n by omega]
      simp only [Option.bind_some]
      refine Ev_pos (by omega) (Ev_pos (by omega) (Ev_pos (by omega) (Ev_pos (by simp; omega) ?_)))
      refine Ev_eq (ih (lb w n) hlt _ (by omega) (by simp; omega)) ?_
      rw [bc_step w n (by omega) hn]
      simp

theorem spec_BordersOf_ev (w : List Int) (hb : w.length ≤ 1048576) : Ev (fun k => spec_BordersOf.f k w) (bc w w.length w.length) := by
  unfold spec_BordersOf.f
  obtain ⟨r, h1, h2, h3⟩ := spec_l9Borders_ev w hb
  exact Ev_call _ h3 (Ev_eq (spec_BordersOf_loop w hb r h1 h2 w.length [] (by omega) (by simp)) (by simp))

/-! ### spec_PeriodsOf -/
theorem spec_PeriodsOf_loop (w : List Int) (hb : w.length ≤ 1048576) (b : List Int) (hl : b.length ≤ 1048576) (hx : ∀ x ∈ b, 0 ≤ x ∧ x < w.length) :
    ∀ (n : Nat) (acc : List Int), n ≤ b.length → acc.length + n ≤ b.length →
    Ev (fun k => spec_PeriodsOf.l0 k w acc b ((n : Int) - 1)) (acc ++ ((b.take n).map fun x => (w.length : Int) - x).reverse) := by
  intro n
  induction n with
  | zero =>
    intro acc h1 h2
    refine Ev_succ ?_
    simp only [spec_PeriodsOf.l0]
    exact Ev_neg (by omega) (Ev_some (by simp))
  | succ n ih =>
    intro acc h1 h2
    refine Ev_succ ?_
    simp only [spec_PeriodsOf.l0]
    rw [show ((n + 1 : Nat) : Int) - 1 = (n : Int) by omega, rd_cast, w64 (n := (n : Int) - 1) (by omega) (by omega)]
    have hm := hx (b.getD n 0) (by rw [getD_eq (by omega)]; exact List.getElem_mem _)
    rw [w64 (n := (w.length : Int) - b.getD n 0) (by omega) (by omega)]
    refine Ev_pos (by omega) (Ev_pos (by omega) (Ev_pos (by omega) (Ev_pos (by omega) ?_)))
    refine Ev_eq (ih _ (by omega) (by simp; omega)) ?_
    rw [take_succ_getD b n 0 (by omega)]
    simp

theorem spec_PeriodsOf_ev (w : List Int) (hb : w.length ≤ 1048576) : Ev (fun k => spec_PeriodsOf.f k w) (pers w) := by
  unfold spec_PeriodsOf.f
  have hl := bc_length w w.length w.length
  refine Ev_call _ (spec_BordersOf_ev w hb) ?_
  rw [w64 (by omega) (by omega)]
  refine Ev_eq (spec_PeriodsOf_loop w hb _ (by omega) (bc_bounds w _ _ (by omega)) _ [] (Nat.le_refl _) (by simp)) ?_
  rw [List.take_length]
  rfl

/-! ### spec_LeastPeriod -/
theorem spec_LeastPeriod_ev (w : List Int) (hb : w.length ≤ 1048576) : Ev (fun k => spec_LeastPeriod.f k w) (lper w) := by
  unfold spec_LeastPeriod.f
  refine Ev_call _ (spec_PeriodsOf_ev w hb) ?_
  unfold pers lper
  by_cases h : w.length = 0
  · rw [h, if_pos rfl]
    exact Ev_pos (by simp [bc]) (Ev.now _)
  · rw [if_neg h, bc_step w w.length (by omega) (by omega)]
    refine Ev_neg (by simp; omega) (Ev_pos (by simp) (Ev_some ?_))
    simp [rd]

/-! ### impl_borders -/
theorem impl_borders_l1 (w : List Int) (hb : w.length ≤ 1048576) (n : Nat) (hn : 1 ≤ n) (hl : n ≤ w.length) (out : List Int) (ho : BrdTo w out n) (r : List Int)
    (hx : Ev (fun k => impl_borders.l0 k w (out.set n ((lb w n : Nat) : Int)) ((n + 1 : Nat) : Int)) r) :
    ∀ k : Nat, Cand w n k → Ev (fun f => impl_borders.l1 f w out (n : Int) ((k : Int) - 1)) r := by
  intro k
  induction k using Nat.strongRecOn with
  | _ k ih =>
    intro hc
    have hkn : k < n := by have := hc.2.1; simpa using this
    refine Ev_succ ?_
    simp only [impl_borders.l1]
    have hlen := ho.1
    by_cases k0 : k = 0
    · subst k0
      have e := lb_of_cand hn hl hc (Or.inl rfl)
      rw [e] at hx
      refine Ev_neg (by omega) (Ev_pos (by omega) (Ev_pos (by omega) ?_))
      rw [wnat (x := ((0 : Nat) : Int) - 1 + 1) 0 (by omega) (by omega), wsucc (n := n) (by omega), Int.toNat_natCast]
      exact hx
    · obtain ⟨j, rfl⟩ : ∃ j, k = j + 1 := ⟨k - 1, by omega⟩
      rw [show ((j + 1 : Nat) : Int) - 1 = (j : Int) by omega, wnat (x := (n : Int) - 1) (n - 1) (by omega) (by omega), rd_cast, rd_cast]
      refine Ev_pos (by omega) (Ev_pos (by omega) (Ev_pos (by omega) (Ev_pos (by omega) (Ev_pos (by omega) ?_))))
      by_cases he : w.getD j 0 = w.getD (n - 1) 0
      · refine Ev_pos he (Ev_pos (by omega) (Ev_pos (by omega) ?_))
        have e := lb_of_cand hn hl hc (Or.inr (by simpa using he))
        rw [e] at hx
        rw [wsucc (n := j) (by omega), wsucc (n := n) (by omega), Int.toNat_natCast]
        exact hx
      · refine Ev_neg he (Ev_pos (by omega) ?_)
        have hnx := hc.next hn hl he
        rw [rd_cast]
        by_cases j0 : j = 0
        · subst j0
          rw [if_pos rfl] at hnx
          have := ih 0 (by omega) hnx
          rw [ho.2.1]
          exact this
        · rw [if_neg j0] at hnx
          have hlt := lb_lt w j (by omega) (by omega)
          have := ih _ (by omega) hnx
          rw [ho.2.2 j (by omega) (by omega)]
          rw [show ((lb w j + 1 : Nat) : Int) - 1 = ((lb w j : Nat) : Int) by omega] at this
          exact this

theorem impl_borders_l0 (w : List Int) (hb : w.length ≤ 1048576) (d : Nat) : ∀ (n : Nat) (out : List Int), n + d = w.length + 1 → 1 ≤ n → BrdTo w out n →
    ∃ r, BrdTo w r (w.length + 1) ∧ Ev (fun k => impl_borders.l0 k w out (n : Int)) r := by
  induction d with
  | zero =>
    intro n out h h1 ho
    have : n = w.length + 1 := by omega
    subst this
    refine ⟨out, ho, Ev_succ ?_⟩
    simp only [impl_borders.l0]
    exact Ev_neg (by omega) (Ev.now _)
  | succ d ih =>
    intro n out h h1 ho
    have hlen := ho.1
    have hnew : BrdTo w (out.set n ((lb w n : Nat) : Int)) (n + 1) := by
      refine ⟨by simpa using hlen, ?_, fun m hm hm2 => ?_⟩
      · rw [getD_set, if_neg (by omega)]; exact ho.2.1
      · rw [getD_set]
        by_cases e : n = m
        · subst e; rw [if_pos ⟨rfl, by omega⟩]
        · rw [if_neg (by omega)]; exact ho.2.2 m hm (by omega)
    obtain ⟨r, hr, hev⟩ := ih (n + 1) _ (by omega) (by omega) hnew
    refine ⟨r, hr, Ev_succ ?_⟩
    simp only [impl_borders.l0]
    rw [wnat (x := (n : Int) - 1) (n - 1) (by omega) (by omega), rd_cast]
    refine Ev_pos (by omega) (Ev_pos (by omega) (Ev_pos (by omega) ?_))
    have hc := Cand.first (w := w) n h1 (by omega)
    have := impl_borders_l1 w hb n h1 (by omega) out ho r hev _ hc
    by_cases e : n = 1
    · rw [if_pos e] at this
      rw [e] at this ⊢
      rw [ho.2.1]
      exact this
    · rw [if_neg e] at this
      rw [ho.2.2 (n - 1) (by omega) (by omega)]
      rw [show ((lb w (n - 1) + 1 : Nat) : Int) - 1 = ((lb w (n - 1) : Nat) : Int) by omega] at this
      exact this

theorem impl_borders_start (w : List Int) : BrdTo w ((List.replicate (w.length + 1) (0 : Int)).set 0 (-1)) 1 :=
  ⟨by simp, by simp [List.replicate_succ], fun m hm hm2 => by omega⟩

theorem impl_borders_ev (w : List Int) (hb : w.length ≤ 1048576) : ∃ r, BrdTo w r (w.length + 1) ∧ Ev (fun k => impl_borders.f k w) r := by
  obtain ⟨r, h1, h2⟩ := impl_borders_l0 w hb w.length 1 _ (by omega) (by omega) (impl_borders_start w)
  refine ⟨r, h1, ?_⟩
  unfold impl_borders.f
  have e1 : wrap64 ((w.length : Int) + 1) = ((w.length + 1 : Nat) : Int) := wsucc (by omega)
  have e2 : Int.toNat 0 = 0 := rfl
  have e3 : ((1 : Nat) : Int) = 1 := rfl
  have e4 : 0 < ((List.replicate (w.length + 1) (0 : Int)).length : Int) := by simp
  rw [e3] at h2
  simp only [Option.bind_some, e1, Int.toNat_natCast, e2]
  exact Ev_pos (by omega) (Ev_pos (by omega) (Ev_pos e4 h2))

/-! ### impl_LeastPeriod -/
theorem impl_LeastPeriod_ev (w : List Int) (hb : w.length ≤ 1048576) : Ev (fun k => impl_LeastPeriod.f k w) (lper w) := by
  unfold impl_LeastPeriod.f lper
  by_cases h : w.length = 0
  · rw [h, if_pos rfl]
    exact Ev_pos rfl (Ev.now _)
  · rw [if_neg h]
    obtain ⟨r, h1, h2⟩ := impl_borders_ev w hb
    have hlen := h1.1
    have hlt := lb_lt w w.length (by omega) (by omega)
    refine Ev_neg (by omega) (Ev_call _ h2 (Ev_pos (by omega) (Ev_pos (by omega) (Ev_some ?_))))
    rw [rd_cast, h1.2.2 w.length (by omega) (by omega), w64 (by omega) (by omega)]

/-- The first square of least period. -/
def short (b : Int × Int × Int) : List S55 → Int × Int × Int
  | [] => b
  | x :: l => short (if b.2.1 = 0 ∨ x.f1 < b.2.1 then (x.f0, x.f1, x.f2) else b) l

theorem short_pos (l : List S55) : ∀ b : Int × Int × Int, 0 ≤ b.2.1 → (∀ x ∈ l, 1 ≤ x.f1) → 0 ≤ (short b l).2.1 := by
  induction l with
  | nil => intro b h _; exact h
  | cons x l ih =>
    intro b h hx
    rw [short]
    refine ih _ ?_ (fun y hy => hx y (List.mem_cons_of_mem _ hy))
    split
    · have := hx x List.mem_cons_self; simp only []; omega
    · exact h

theorem spec_ShortestSquare_loop (l : List S55) (hb : l.length ≤ 1048576) (hp : ∀ x ∈ l, 1 ≤ x.f1) (d : Nat) : ∀ (n : Nat) (b0 b1 b2 : Int), n + d = l.length → 0 ≤ b1 →
    Ev (fun k => spec_ShortestSquare.l0 k l (decide (b1 > 0)) (n : Int) b0 b1 b2) ((short (b0, b1, b2) (l.drop n)).1, (short (b0, b1, b2) (l.drop n)).2.1, (short (b0, b1, b2) (l.drop n)).2.2, decide ((short (b0, b1, b2) (l.drop n)).2.1 > 0)) := by
  induction d with
  | zero =>
    intro n b0 b1 b2 h h0
    refine Ev_succ ?_
    simp only [spec_ShortestSquare.l0]
    rw [List.drop_eq_nil_of_le (by omega)]
    exact Ev_neg (by omega) (Ev.now _)
  | succ d ih =>
    intro n b0 b1 b2 h h0
    refine Ev_succ ?_
    simp only [spec_ShortestSquare.l0, rd_T55, Int.toNat_natCast]
    rw [drop_cons l n z55 (by omega), short, wsucc (n := n) (by omega)]
    have hx := hp (l.getD n z55) (by rw [getD_eq (by omega)]; exact List.getElem_mem _)
    have hpos : decide ((l.getD n z55).f1 > 0) = true := by rw [decide_eq_true_eq]; omega
    have i1 := ih (n + 1) (l.getD n z55).f0 (l.getD n z55).f1 (l.getD n z55).f2 (by omega) (by omega)
    have i2 := ih (n + 1) b0 b1 b2 (by omega) h0
    rw [hpos] at i1
    refine Ev_pos (by omega) ?_
    by_cases c : b1 > 0
    · rw [decide_eq_true c] at i2 ⊢
      refine Ev_pos rfl (Ev_pos (by omega) ?_)
      by_cases c2 : (l.getD n z55).f1 < b1
      · rw [if_pos (Or.inr c2)]; exact Ev_pos c2 i1
      · rw [if_neg (by simp only []; omega)]; exact Ev_neg c2 i2
    · rw [decide_eq_false c]
      rw [if_pos (Or.inl (by simp only []; omega))]
      exact Ev_neg (by simp) (Ev_pos (by omega) i1)

theorem impl_ShortestSquare_loop (l : List S55) (hb : l.length ≤ 1048576) (hp : ∀ x ∈ l, 1 ≤ x.f1) (d : Nat) : ∀ (n : Nat) (b0 b1 b2 : Int), n + d = l.length → 0 ≤ b1 →
    Ev (fun k => impl_ShortestSquare.l0 k l (l.length : Int) (n : Int) b0 b1 b2) ((short (b0, b1, b2) (l.drop n)).1, (short (b0, b1, b2) (l.drop n)).2.1, (short (b0, b1, b2) (l.drop n)).2.2, decide ((short (b0, b1, b2) (l.drop n)).2.1 > 0)) := by
  induction d with
  | zero =>
    intro n b0 b1 b2 h h0
    refine Ev_succ ?_
    simp only [impl_ShortestSquare.l0]
    rw [List.drop_eq_nil_of_le (by omega)]
    exact Ev_neg (by omega) (Ev.now _)
  | succ d ih =>
    intro n b0 b1 b2 h h0
    refine Ev_succ ?_
    simp only [impl_ShortestSquare.l0, rd_T55, Int.toNat_natCast]
    rw [drop_cons l n z55 (by omega), short, wsucc (n := n) (by omega)]
    have hx := hp (l.getD n z55) (by rw [getD_eq (by omega)]; exact List.getElem_mem _)
    have i1 := ih (n + 1) (l.getD n z55).f0 (l.getD n z55).f1 (l.getD n z55).f2 (by omega) (by omega)
    have i2 := ih (n + 1) b0 b1 b2 (by omega) h0
    refine Ev_pos (by omega) (Ev_pos (by omega) (Ev_pos (by omega) ?_))
    by_cases c : b1 = 0
    · rw [if_pos (Or.inl c)]
      exact Ev_pos c i1
    · refine Ev_neg c ?_
      by_cases c2 : (l.getD n z55).f1 < b1
      · rw [if_pos (Or.inr c2)]; exact Ev_pos c2 i1
      · rw [if_neg (by simp only []; omega)]; exact Ev_neg c2 i2

theorem both_ShortestSquare (w : List Int) (hb : w.length ≤ 1048576) : ∃ r : Int × Int × Int × Bool, Ev (fun k => spec_ShortestSquare.f k w) r ∧ Ev (fun k => impl_ShortestSquare.f k w) r := by
  unfold spec_ShortestSquare.f impl_ShortestSquare.f
  have hl := sqs_length w
  have hp := sqs_pos w
  exact ⟨_, Ev_call _ (spec_SquaresOf_ev w hb) (spec_ShortestSquare_loop _ (by omega) hp _ 0 0 0 0 (Nat.zero_add _) (by omega)),
    Ev_call _ (impl_SquaresOf_ev w hb) (impl_ShortestSquare_loop _ (by omega) hp _ 0 0 0 0 (Nat.zero_add _) (by omega))⟩

noncomputable def expo (w : List Int) : Int × Int := if w.length = 0 then (0, 0) else (((w.length / Nat.gcd w.length (lper w).toNat : Nat) : Int), (((lper w).toNat / Nat.gcd w.length (lper w).toNat : Nat) : Int))

theorem spec_ExponentOf_ev (w : List Int) (hb : w.length ≤ 1048576) : Ev (fun k => spec_ExponentOf.f k w) (expo w) := by
  unfold spec_ExponentOf.f expo
  by_cases h : w.length = 0
  · rw [if_pos h]
    exact Ev_pos (by omega) (Ev.now _)
  · rw [if_neg h]
    have hp := lper_bounds w (by omega)
    have hl := spec_LeastPeriod_ev w hb
    obtain ⟨p, e⟩ := Int.eq_ofNat_of_zero_le (show 0 ≤ lper w by omega)
    rw [e] at hp hl ⊢
    rw [Int.toNat_natCast]
    have hg : 0 < Nat.gcd w.length p := Nat.gcd_pos_of_pos_right _ (by omega)
    have h1 : w.length / Nat.gcd w.length p ≤ w.length := Nat.div_le_self _ _
    have h2 : p / Nat.gcd w.length p ≤ p := Nat.div_le_self _ _
    refine Ev_neg (by omega) (Ev_call _ hl (Ev_call _ (spec_l10Gcd_ev p w.length) (Ev_neg (by omega) (Ev_some ?_))))
    rw [tdiv_nat, wnat (x := (w.length : Int) / ((Nat.gcd w.length p : Nat) : Int)) (w.length / Nat.gcd w.length p) (by rw [Int.natCast_ediv]) (Nat.lt_of_le_of_lt h1 (by omega)), w64_le h2 (by omega)]

theorem impl_ExponentOf_ev (w : List Int) (hb : w.length ≤ 1048576) : Ev (fun k => impl_ExponentOf.f k w) (expo w) := by
  unfold impl_ExponentOf.f expo
  by_cases h : w.length = 0
  · rw [if_pos h]
    exact Ev_pos (by omega) (Ev.now _)
  · rw [if_neg h]
    have hp := lper_bounds w (by omega)
    have hl := impl_LeastPeriod_ev w hb
    obtain ⟨p, e⟩ := Int.eq_ofNat_of_zero_le (show 0 ≤ lper w by omega)
    rw [e] at hp hl ⊢
    rw [Int.toNat_natCast]
    exact Ev_neg (by omega) (Ev_call _ hl (Ev_call _ (impl_lowest_ev w.length p (by omega) (by omega) (by omega)) (Ev.now _)))

theorem both_GreatestExponent (w : List Int) (hb : w.length ≤ 1048576) : ∃ r : Int × Int, (1 ≤ w.length → w.length ≤ 128 → ∃ N D : Nat, RatMax w N D ∧ r = spOut N D) ∧ Ev (fun k => spec_GreatestExponent.f k w) r ∧ Ev (fun k => impl_GreatestExponent.f k w) r := by
  by_cases h : 1 ≤ w.length ∧ w.length ≤ 128
  · obtain ⟨N, D, h1, h2⟩ := (spec_GreatestExponent_ev w hb).2 h.1 h.2
    obtain ⟨N', D', h3, h4⟩ := (impl_GreatestExponent_ev w hb).2 h.1 h.2
    obtain ⟨e1, e2⟩ := lowest_eq h1.1.1 h3.1.1 (h1.cross h3)
    refine ⟨_, fun _ _ => ⟨N, D, h1, rfl⟩, h2, ?_⟩
    unfold spOut
    rw [e1, e2]
    exact h4
  · have h' : w.length = 0 ∨ 128 < w.length := by omega
    exact ⟨_, fun _ _ => by omega, (spec_GreatestExponent_ev w hb).1 h', (impl_GreatestExponent_ev w hb).1 h'⟩
theorem pow_facts (w : List Int) (h0 : 1 ≤ w.length) {N D : Nat} (hm : RatMax w N D) : (Pw w 2 1 ↔ 2 * D ≤ N) ∧ (Ovl w ↔ 2 * D < N) ∧ w.length * D ≤ N * (lper w).toNat := by
  obtain ⟨⟨hD, a, c, hr, hN⟩, hmax⟩ := hm
  refine ⟨⟨?_, ?_⟩, ⟨?_, ?_⟩, ?_⟩
  · rintro ⟨p, a', c', hp, hr', hle⟩
    have h1 := hmax p a' c' hp hr'
    have h2 : 2 * p ≤ c' + p := by omega
    have h3 : 2 * p * D ≤ N * p := Nat.le_trans (Nat.mul_le_mul_right D h2) h1
    rw [Nat.mul_right_comm] at h3
    exact Nat.le_of_mul_le_mul_right h3 hp
  · intro h
    exact ⟨D, a, c, hD, hr, by omega⟩
  · rintro ⟨p, a', hp, hr'⟩
    have h1 := hmax p a' (p + 1) hp hr'
    have h2 : (2 * D) * p + D ≤ N * p := by
      have e : (p + 1 + p) * D = (2 * D) * p + D := by
        rw [show p + 1 + p = 2 * p + 1 by omega, Nat.add_mul, Nat.one_mul, Nat.mul_right_comm]
      omega
    have h3 : (2 * D) * p < N * p := by omega
    exact Nat.lt_of_mul_lt_mul_right h3
  · intro h
    exact ⟨D, a, hD, hr.less (by omega)⟩
  · have hb := lper_bounds w h0
    obtain ⟨p, e⟩ := Int.eq_ofNat_of_zero_le (show 0 ≤ lper w by omega)
    have hi := lper_is w h0
    rw [e] at hb hi ⊢
    rw [Int.toNat_natCast] at hi ⊢
    have hr2 : Rep w p 0 (w.length - p) := ⟨by omega, fun j hj => by rw [Nat.zero_add]; exact hi j (by omega)⟩
    have := hmax p 0 _ (by omega) hr2
    rwa [show w.length - p + p = w.length by omega] at this
theorem div_le_iff {N D q : Nat} (hD : 1 ≤ D) (q : Nat) : (q * (D / Nat.gcd N D) ≤ N / Nat.gcd N D ↔ q * D ≤ N) ∧ (q * (D / Nat.gcd N D) < N / Nat.gcd N D ↔ q * D < N) := by
  have hg : 0 < Nat.gcd N D := Nat.gcd_pos_of_pos_right _ hD
  have e1 : N / Nat.gcd N D * Nat.gcd N D = N := Nat.div_mul_cancel (Nat.gcd_dvd_left N D)
  have e2 : D / Nat.gcd N D * Nat.gcd N D = D := Nat.div_mul_cancel (Nat.gcd_dvd_right N D)
  generalize N / Nat.gcd N D = n at *
  generalize D / Nat.gcd N D = d at *
  generalize Nat.gcd N D = g at *
  subst e1
  subst e2
  rw [← Nat.mul_assoc]
  exact ⟨⟨fun h => Nat.mul_le_mul_right g h, fun h => Nat.le_of_mul_le_mul_right h hg⟩, ⟨fun h => Nat.mul_lt_mul_of_pos_right h hg, fun h => Nat.lt_of_mul_lt_mul_right h⟩⟩
theorem cross_le {N D L p : Nat} (hD : 1 ≤ D) (hp : 1 ≤ p) (h : L * D ≤ N * p) : L / Nat.gcd L p * (D / Nat.gcd N D) ≤ N / Nat.gcd N D * (p / Nat.gcd L p) := by
  have hg : 0 < Nat.gcd N D := Nat.gcd_pos_of_pos_right _ hD
  have hg2 : 0 < Nat.gcd L p := Nat.gcd_pos_of_pos_right _ hp
  have e1 : N / Nat.gcd N D * Nat.gcd N D = N := Nat.div_mul_cancel (Nat.gcd_dvd_left N D)
  have e2 : D / Nat.gcd N D * Nat.gcd N D = D := Nat.div_mul_cancel (Nat.gcd_dvd_right N D)
  have e3 : L / Nat.gcd L p * Nat.gcd L p = L := Nat.div_mul_cancel (Nat.gcd_dvd_left L p)
  have e4 : p / Nat.gcd L p * Nat.gcd L p = p := Nat.div_mul_cancel (Nat.gcd_dvd_right L p)
  generalize N / Nat.gcd N D = n at *
  generalize D / Nat.gcd N D = d at *
  generalize Nat.gcd N D = g at *
  generalize L / Nat.gcd L p = l at *
  generalize p / Nat.gcd L p = q at *
  generalize Nat.gcd L p = g2 at *
  subst e1
  subst e2
  subst e3
  subst e4
  have e : l * g2 * (d * g) = l * d * (g2 * g) := by simp only [Nat.mul_assoc, Nat.mul_left_comm, Nat.mul_comm]
  have e' : n * g * (q * g2) = n * q * (g2 * g) := by simp only [Nat.mul_assoc, Nat.mul_left_comm, Nat.mul_comm]
  rw [e, e'] at h
  exact Nat.le_of_mul_le_mul_right h (Nat.mul_pos hg2 hg)
theorem sq_halves {w : List Int} {a p : Nat} (h : Rep w p a p) (hl : a + 2 * p ≤ w.length) : (w.take (a + 2 * p)).drop (a + p) = (w.take (a + p)).drop a := by
  refine List.ext_getElem (by simp; omega) (fun j h1 h2 => ?_)
  have hj : j < p := by simp at h2; omega
  have := h.2 j hj
  rw [getD_eq (by omega), getD_eq (by omega)] at this
  simp only [List.getElem_drop, List.getElem_take]
  rw [this]
  congr 1
  omega
theorem sqs_any (w : List Int) (h : w.length ≤ 64) : 0 < (sqs w).length ↔ Pw w 2 1 := by
  constructor
  · intro h0
    obtain ⟨x, hx⟩ := List.exists_mem_of_length_pos h0
    obtain ⟨_, a, p, hp, hl, hr, _⟩ := (mem_sqs w x).1 hx
    exact ⟨p, a, p, hp, hr, by omega⟩
  · rintro ⟨p, a, c, hp, hr, hle⟩
    have hr' := hr.less (show p ≤ c by omega)
    have := (mem_sqs w ⟨(a : Int), (p : Int), ((2 * p : Nat) : Int)⟩).2 ⟨h, a, p, hp, by have := hr'.1; omega, hr', rfl⟩
    exact List.length_pos_of_mem this
theorem ovl_sq {w : List Int} (h : Ovl w) : Pw w 2 1 := by
  obtain ⟨p, a, hp, hr⟩ := h
  exact ⟨p, a, p + 1, hp, hr, by omega⟩
theorem dsq_le (w : List Int) : (dsq w).length ≤ w.length := by
  refine squares_le w _ ?_ ?_
  · exact asc_nodup (canon_asc _)
  · intro u hu
    obtain ⟨x, hx, rfl⟩ := List.mem_map.1 ((canon_mem _ _).1 hu)
    obtain ⟨_, a, p, hp, hl, hr, rfl⟩ := (mem_sqs w x).1 hx
    have e : sqCut w ⟨(a : Int), (p : Int), ((2 * p : Nat) : Int)⟩ = win w (2 * p) a := by
      unfold sqCut win
      show (w.take ((a : Int) + ((2 * p : Nat) : Int)).toNat).drop (a : Int).toNat = _
      rw [show ((a : Int) + ((2 * p : Nat) : Int)).toNat = a + 2 * p by omega, Int.toNat_natCast, List.drop_take, Nat.add_sub_cancel_left]
    refine ⟨a, p, hp, hl, e, fun k hk => ?_⟩
    rw [e]
    unfold win
    have := hr.2 k hk
    rw [List.getD_eq_getElem?_getD, List.getD_eq_getElem?_getD, List.getElem?_take_of_lt (by omega), List.getElem?_take_of_lt (by omega), List.getElem?_drop, List.getElem?_drop, ← List.getD_eq_getElem?_getD, ← List.getD_eq_getElem?_getD, this, Nat.add_assoc]
theorem FnPowers_j3 (code w : List Int) (hb : w.length ≤ 1048576) : Ev (fun k => laws_FnPowers.j3 k code w false) true := by
  refine Ev_succ ?_
  simp only [laws_FnPowers.j3]
  obtain ⟨r, h1, h2⟩ := both_ShortestSquare w hb
  refine Ev_neg (by simp) (Ev_call _ h2 (Ev_call _ h1 (Ev_const (draw_in ?_))))
  rintro ⟨u, num, den⟩ ⟨hu, hn, hd⟩
  simp only [] at hu hn hd
  obtain ⟨b, g1, g2⟩ := spec_HasPower_ev u (by omega) num den (by omega) (by omega)
  obtain ⟨b', g3, g4⟩ := impl_HasPower_ev u (by omega) num den
  have e : b = b' := by rw [Bool.eq_iff_iff, g2, g4]
  subst e
  exact Ev.rounds (Ev_pos (by simp) (Ev_pos (by simp) (Ev_call _ g3 (Ev_call _ g1 (Ev_some (by simp))))))
theorem FnPowers_cmp (code w : List Int) (hj : Ev (fun k => laws_FnPowers.j3 k code w false) true) {b o : Bool} (s1 : Ev (fun k => impl_HasSquare.f k w) b) (o1 : Ev (fun k => impl_HasOverlap.f k w) o) (n1 d1 l1 p1 : Nat) (q1 : n1 ≤ 1048576) (q2 : d1 ≤ 1048576) (q3 : l1 ≤ 1048576) (q4 : p1 ≤ 1048576) (hc : l1 * d1 ≤ n1 * p1) (f1 : b = true ↔ 2 * d1 ≤ n1) (f2 : o = true ↔ 2 * d1 < n1) :
    Ev (fun k => (if (wrap64 ((n1 : Int) * (p1 : Int))) < (wrap64 ((l1 : Int) * (d1 : Int))) then (laws_FnPowers.j3 k code w true) else ((impl_HasSquare.f k w).bind fun t735 => (if (t735 != (decide ((n1 : Int) ≥ (wrap64 (2 * (d1 : Int)))))) = true then (laws_FnPowers.j3 k code w true) else ((impl_HasOverlap.f k w).bind fun t736 => (laws_FnPowers.j3 k code w (t736 != (decide ((n1 : Int) > (wrap64 (2 * (d1 : Int))))))))))) ) true := by
  have m1 : wrap64 ((n1 : Int) * (p1 : Int)) = ((n1 * p1 : Nat) : Int) := wmul _ _ (by omega) (by omega)
  have m2 : wrap64 ((l1 : Int) * (d1 : Int)) = ((l1 * d1 : Nat) : Int) := wmul _ _ (by omega) (by omega)
  have m3 : wrap64 (2 * (d1 : Int)) = ((2 * d1 : Nat) : Int) := wnat _ (by omega) (by omega)
  rw [m1, m2, m3]
  have eb : b = decide ((n1 : Int) ≥ ((2 * d1 : Nat) : Int)) := by
    rw [Bool.eq_iff_iff, f1, decide_eq_true_eq]
    omega
  have eo : o = decide ((n1 : Int) > ((2 * d1 : Nat) : Int)) := by
    rw [Bool.eq_iff_iff, f2, decide_eq_true_eq]
    omega
  rw [← eb, ← eo]
  exact Ev_neg (by omega) (Ev_call _ s1 (Ev_neg (by simp) (Ev_call _ o1 (by simpa using hj))))
theorem FnPowers_j2 (code w : List Int) (hb : w.length ≤ 1048576) : Ev (fun k => laws_FnPowers.j2 k code w false) true := by
  have hj := FnPowers_j3 code w hb
  refine Ev_succ ?_
  simp only [laws_FnPowers.j2]
  obtain ⟨r, hr, h1, h2⟩ := both_GreatestExponent w hb
  have h3 := spec_ExponentOf_ev w hb
  have h4 := impl_ExponentOf_ev w hb
  obtain ⟨b, s1, s2⟩ := impl_HasSquare_ev w hb
  obtain ⟨o, o1, o2⟩ := impl_HasOverlap_ev w hb
  refine Ev_neg (by simp) (Ev_call _ h2 (Ev_call _ h1 (Ev_call _ h4 (Ev_call _ h3 (Ev_pos rfl (Ev_pos rfl (Ev_pos rfl (Ev_pos rfl ?_))))))))
  refine Ev_ite (fun c1 => ?_) (fun _ => hj)
  refine Ev_ite (fun c2 => ?_) (fun _ => hj)
  obtain ⟨N, D, hm, rfl⟩ := hr (by omega) (by omega)
  obtain ⟨f1, f2, f3⟩ := pow_facts w (by omega) hm
  have hD := hm.1.1
  have hle := hm.1.le
  have hpb := lper_bounds w (by omega)
  obtain ⟨p, ep⟩ := Int.eq_ofNat_of_zero_le (show 0 ≤ lper w by omega)
  rw [ep, Int.toNat_natCast] at f3
  rw [ep] at hpb
  have hx : expo w = (((w.length / Nat.gcd w.length p : Nat) : Int), ((p / Nat.gcd w.length p : Nat) : Int)) := by
    unfold expo
    rw [if_neg (by omega), ep, Int.toNat_natCast]
  have q1 : N / Nat.gcd N D ≤ N := Nat.div_le_self _ _
  have q2 : D / Nat.gcd N D ≤ D := Nat.div_le_self _ _
  have q3 : w.length / Nat.gcd w.length p ≤ w.length := Nat.div_le_self _ _
  have q4 : p / Nat.gcd w.length p ≤ p := Nat.div_le_self _ _
  have hc := cross_le hD (show 1 ≤ p by omega) f3
  have d2 := (div_le_iff (N := N) (q := 2) hD 2)
  rw [hx]
  exact FnPowers_cmp code w hj s1 o1 _ _ _ _ (by omega) (by omega) (by omega) (by omega) hc (by rw [s2, f1, d2.1]; exact ⟨fun h => h.2, fun h => ⟨by omega, h⟩⟩) (by rw [o2, f2, d2.2]; exact ⟨fun h => h.2, fun h => ⟨by omega, h⟩⟩)
theorem FnPowers_end (code w : List Int) (hb : w.length ≤ 1048576) : Ev (fun k => laws_FnPowers.l0 k code w (sqs w) (sqs w) ((sqs w).length : Int)) true := by
  have hj := FnPowers_j2 code w hb
  refine Ev_succ ?_
  simp only [laws_FnPowers.l0]
  obtain ⟨b, s1, s2⟩ := impl_HasSquare_ev w hb
  obtain ⟨o, o1, o2⟩ := impl_HasOverlap_ev w hb
  have hd := impl_DistinctSquares_ev w hb
  have hdl := dsq_le w
  have hdd : decide (((dsq w).length : Int) > (w.length : Int)) = false := decide_eq_false (by omega)
  refine Ev_neg (by omega) (Ev_ite (fun c => ?_) (fun _ => hj))
  have hq := sqs_any w (by omega)
  have e : b = decide (((sqs w).length : Int) > 0) := by
    rw [Bool.eq_iff_iff, s2, decide_eq_true_eq, ← hq]
    omega
  refine Ev_call _ s1 (Ev_neg (by rw [e]; simp) (Ev_call _ o1 (Ev_ite (fun ho => ?_) (fun _ => Ev_call _ hd (by rw [hdd]; exact hj)))))
  refine Ev_call _ s1 (Ev_pos ?_ (Ev_call _ hd (by rw [hdd]; exact hj)))
  rw [s2]
  exact ⟨by omega, ovl_sq (o2.1 ho).2⟩
theorem FnPowers_loop (code w : List Int) (hb : w.length ≤ 1048576) (d : Nat) : ∀ n : Nat, n + d = (sqs w).length → Ev (fun k => laws_FnPowers.l0 k code w (sqs w) (sqs w) (n : Int)) true := by
  have hl := sqs_length w
  induction d with
  | zero =>
    intro n h
    rw [show n = (sqs w).length by omega]
    exact FnPowers_end code w hb
  | succ d ih =>
    intro n h
    refine Ev_succ ?_
    simp only [laws_FnPowers.l0]
    have hx : (sqs w).getD n z55 ∈ sqs w := by rw [getD_eq (by omega)]; exact List.getElem_mem _
    obtain ⟨h64, a, p, hp, hl2, hr, e⟩ := (mem_sqs w _).1 hx
    have i := ih (n + 1) (by omega)
    have e2 : rd_T55 (sqs w) (n : Int) = ⟨(a : Int), (p : Int), ((2 * p : Nat) : Int)⟩ := by rw [← e]; unfold rd_T55; rw [Int.toNat_natCast]
    generalize rd_T55 (sqs w) (n : Int) = x at e2 ⊢
    subst e2
    simp only []
    rw [wnat (x := (a : Int) + (p : Int)) (a + p) (by omega) (by omega), wnat (x := (a : Int) + ((2 * p : Nat) : Int)) (a + 2 * p) (by omega) (by omega), wsucc (n := n) (by omega)]
    simp only [Int.toNat_natCast]
    rw [sq_halves hr hl2]
    refine Ev_pos (by omega) (Ev_pos (by omega) (Ev_pos (by omega) (Ev_neg (by simp) (Ev_pos (by omega) (Ev_pos (by omega) (Ev_pos (by omega) (Ev_pos (by omega) (Ev_pos (by omega) (Ev_pos (by omega) ?_)))))))))
    exact Ev_call _ (laws_sameInts_ev _ (by simp; omega)) (Ev_pos rfl i)
theorem FnPowers_word (code w : List Int) (hb : w.length ≤ 1048576) : Ev (fun k => (impl_SquaresOf.f k w).bind fun t698 => ((spec_SquaresOf.f k w).bind fun t701 => (if (t698.length : Int) = (t701.length : Int) then ((impl_HasSquare.f k w).bind fun t704 => ((spec_HasSquare.f k w).bind fun t705 => (if (t704 != t705) = true then (laws_FnPowers.j0 k code w t698 t701 true) else ((impl_HasOverlap.f k w).bind fun t706 => ((spec_HasOverlap.f k w).bind fun t707 => (if (t706 != t707) = true then (laws_FnPowers.j0 k code w t698 t701 true) else ((impl_DistinctSquares.f k w).bind fun t708 => ((spec_DistinctSquares.f k w).bind fun t709 => (laws_FnPowers.j0 k code w t698 t701 (t708 != t709)))))))))) else (laws_FnPowers.j0 k code w t698 t701 true)))) true := by
  obtain ⟨b, h1, h2⟩ := spec_HasSquare_ev w hb
  obtain ⟨b', h3, h4⟩ := impl_HasSquare_ev w hb
  have e : b = b' := by rw [Bool.eq_iff_iff, h2, h4]
  subst e
  obtain ⟨o, g1, g2⟩ := spec_HasOverlap_ev w hb
  obtain ⟨o', g3, g4⟩ := impl_HasOverlap_ev w hb
  have e : o = o' := by rw [Bool.eq_iff_iff, g2, g4]
  subst e
  refine Ev_call _ (impl_SquaresOf_ev w hb) (Ev_call _ (spec_SquaresOf_ev w hb) (Ev_pos rfl (Ev_call _ h3 (Ev_call _ h1 (Ev_neg (by simp) (Ev_call _ g3 (Ev_call _ g1 (Ev_neg (by simp) (Ev_call _ (impl_DistinctSquares_ev w hb) (Ev_call _ (spec_DistinctSquares_ev w hb) ?_))))))))))
  refine Ev_succ ?_
  simp only [laws_FnPowers.j0]
  exact Ev_neg (by simp) (FnPowers_loop code w hb _ 0 (Nat.zero_add _))
theorem FnPowers : laws_FnPowers.Pure := by
  intro l _ _ _
  refine Ev.rounds ?_
  unfold laws_FnPowers.f
  have hbig : ∃ b, laws_big.f l = some b := ⟨_, rfl⟩
  obtain ⟨b, hb⟩ := hbig
  simp only [hb, Option.bind_some]
  refine Ev_ite (fun _ => Ev.now _) (fun h => Ev_const (draw_in ?_))
  intro t ht
  exact Ev.rounds (FnPowers_word l t (by have : t.length ≤ 1001 := ht; omega))

end Go.Proofs.Ytolikggioekalab.Pure
