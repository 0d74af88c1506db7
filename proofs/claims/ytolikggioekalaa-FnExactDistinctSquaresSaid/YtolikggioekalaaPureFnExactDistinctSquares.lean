/- The pure statement of FnExactDistinctSquares: at every list the law's answer is true. -/
import Derived.Test.YtolikggioekalaaMFnExactDistinctSquaresx5
import Derived.Test.YtolikggioekalaaG0
import Derived.Test.YtolikggioekalaaGSized
import Derived.Test.YtolikggioekalaaGSort
import Derived.Test.YtolikggioekalaaG2
import Derived.Test.YtolikggioekalaaG5
import Derived.Test.YtolikggioekalaaG5b
namespace Go.Proofs.Ytolikggioekalaa.Pure
open Go.RowKit Go.Proofs.Ytolikggioekalaa.PFnExactDistinctSquares Go.Proofs.YtolikggioekalaaW.PrintWords Go.Proofs.YtolikggioekalaaW.PrintLast Go.Proofs.YtolikggioekalaaW.PrintMore Go.Proofs.Ytolikggioekalaa.G
set_option linter.unusedVariables false
set_option linter.unusedSimpArgs false

/-! ### laws_toIntS -/
theorem laws_toIntS_loop (l : List Int) (hb : l.length ≤ 17592186044416) (d : Nat) : ∀ (n : Nat) (acc : List Int), acc.length = l.length → n ≤ l.length → l.length - n = d → acc.take n = l.take n →
    Ev (fun k => laws_toIntS.l0 k l acc (n : Int)) l := by
  induction d with
  | zero =>
    intro n acc h0 h1 h2 h3
    refine Ev_succ ?_
    simp only [laws_toIntS.l0]
    refine Ev_neg (by omega) (Ev_some ?_)
    have : n = l.length := by omega
    subst this
    rw [List.take_length, ← h0, List.take_length] at h3
    exact h3
  | succ d ih =>
    intro n acc h0 h1 h2 h3
    refine Ev_succ ?_
    simp only [laws_toIntS.l0]
    refine Ev_pos (by omega) (Ev_pos (by omega) (Ev_pos (by omega) ?_))
    rw [rd_cast, wsucc (by omega), Int.toNat_natCast]
    refine ih (n + 1) _ (by simpa using h0) (by omega) (by omega) ?_
    rw [set_take_succ acc n _ (by omega), take_succ_getD l n 0 (by omega), h3]

theorem laws_toIntS_ev (l : List Int) (hb : l.length ≤ 17592186044416) : Ev (fun k => laws_toIntS.f k l) l := by
  unfold laws_toIntS.f
  refine Ev_pos (by omega) (Ev_pos (by omega) ?_)
  exact laws_toIntS_loop l hb _ 0 _ (by simp) (by omega) rfl (by simp)

/-! ### laws_eqIntS -/
theorem laws_eqIntS_loop (a b : List Int) (hl : a.length = b.length) (hb : a.length ≤ 17592186044416) (d : Nat) : ∀ n : Nat, n ≤ a.length → a.length - n = d → a.take n = b.take n →
    Ev (fun k => laws_eqIntS.l0 k a b (n : Int)) (decide (a = b)) := by
  induction d with
  | zero =>
    intro n h1 h2 h3
    refine Ev_succ ?_
    simp only [laws_eqIntS.l0]
    refine Ev_neg (by omega) (Ev_some ?_)
    have : n = a.length := by omega
    subst this
    rw [List.take_length, hl, List.take_length] at h3
    simp [h3]
  | succ d ih =>
    intro n h1 h2 h3
    refine Ev_succ ?_
    simp only [laws_eqIntS.l0]
    refine Ev_pos (by omega) (Ev_pos (by omega) (Ev_pos (by omega) ?_))
    rw [rd_cast, rd_cast, wsucc (by omega)]
    refine Ev_ite (fun h => ?_) (fun h => Ev_some ?_)
    · refine ih (n + 1) (by omega) (by omega) ?_
      rw [take_succ_getD a n 0 (by omega), take_succ_getD b n 0 (by omega), h3, h]
    · symm
      rw [decide_eq_false_iff_not]
      intro e
      exact h (by rw [e])

theorem laws_eqIntS_ev (a b : List Int) (hb : a.length ≤ 17592186044416) : Ev (fun k => laws_eqIntS.f k a b) (decide (a = b)) := by
  unfold laws_eqIntS.f
  refine Ev_ite (fun h => ?_) (fun h => Ev_some ?_)
  · exact laws_eqIntS_loop a b (by omega) hb _ 0 (by omega) rfl (by simp)
  · symm
    rw [decide_eq_false_iff_not]
    intro e
    exact h (by rw [e])

/-! ### powers -/
instance (w : List Int) (p a c : Nat) : Decidable (Rep w p a c) := by unfold Rep; infer_instance

/-- The squares that begin at a, from the period p on (f: how many more to try). -/
def sqRow (w : List Int) (a : Nat) : Nat → Nat → List S91
  | 0, _ => []
  | f + 1, p => if a + 2 * p ≤ w.length then (if Rep w p a p then [⟨(a : Int), (p : Int), ((2 * p : Nat) : Int)⟩] else []) ++ sqRow w a f (p + 1) else []

/-- The squares that begin at a or behind. -/
def sqAll (w : List Int) : Nat → Nat → List S91
  | 0, _ => []
  | f + 1, a => if a < w.length then sqRow w a w.length 1 ++ sqAll w f (a + 1) else []

def sqs (w : List Int) : List S91 := if 64 < w.length then [] else sqAll w w.length 0

theorem sqRow_length (w : List Int) (a : Nat) : ∀ f p, (sqRow w a f p).length ≤ f := by
  intro f
  induction f with
  | zero => intro p; simp [sqRow]
  | succ f ih =>
    intro p
    rw [sqRow]
    have := ih (p + 1)
    split
    · split <;> simp <;> omega
    · simp

theorem sqAll_length (w : List Int) : ∀ f a, (sqAll w f a).length ≤ f * w.length := by
  intro f
  induction f with
  | zero => intro a; simp [sqAll]
  | succ f ih =>
    intro a
    rw [sqAll]
    have h1 := ih (a + 1)
    have h2 := sqRow_length w a w.length 1
    split
    · rw [List.length_append, Nat.succ_mul]; omega
    · simp

theorem sqs_length (w : List Int) : (sqs w).length ≤ 4096 := by
  unfold sqs
  split
  · simp
  · have h1 := sqAll_length w w.length 0
    have h2 : w.length * w.length ≤ 64 * 64 := Nat.mul_le_mul (by omega) (by omega)
    omega

theorem sqRow_pos (w : List Int) (a : Nat) : ∀ f p, 1 ≤ p → ∀ x ∈ sqRow w a f p, 1 ≤ x.f1 := by
  intro f
  induction f with
  | zero => intro p _ x hx; simp [sqRow] at hx
  | succ f ih =>
    intro p hp x hx
    rw [sqRow] at hx
    split at hx
    · rw [List.mem_append] at hx
      rcases hx with hx | hx
      · split at hx
        · simp at hx; subst hx; simp only []; omega
        · simp at hx
      · exact ih (p + 1) (by omega) x hx
    · simp at hx

theorem sqAll_pos (w : List Int) : ∀ f a, ∀ x ∈ sqAll w f a, 1 ≤ x.f1 := by
  intro f
  induction f with
  | zero => intro a x hx; simp [sqAll] at hx
  | succ f ih =>
    intro a x hx
    rw [sqAll] at hx
    split at hx
    · rw [List.mem_append] at hx
      rcases hx with hx | hx
      · exact sqRow_pos w a _ 1 (by omega) x hx
      · exact ih (a + 1) x hx
    · simp at hx

theorem sqs_pos (w : List Int) : ∀ x ∈ sqs w, 1 ≤ x.f1 := by
  unfold sqs
  split
  · intro x hx; simp at hx
  · exact sqAll_pos w _ _

/-! ### dsq -/
theorem mem_sqRow (w : List Int) (a : Nat) (x : S91) : ∀ f p0, x ∈ sqRow w a f p0 ↔ ∃ p, p0 ≤ p ∧ p < p0 + f ∧ a + 2 * p ≤ w.length ∧ Rep w p a p ∧ x = ⟨(a : Int), (p : Int), ((2 * p : Nat) : Int)⟩ := by
  intro f
  induction f with
  | zero => intro p0; simp only [sqRow, List.not_mem_nil, false_iff]; rintro ⟨p, h1, h2, _⟩; omega
  | succ f ih =>
    intro p0
    rw [sqRow]
    by_cases c : a + 2 * p0 ≤ w.length
    · rw [if_pos c, List.mem_append, ih]
      constructor
      · rintro (h | ⟨p, h1, h2, h3⟩)
        · by_cases r : Rep w p0 a p0
          · rw [if_pos r, List.mem_singleton] at h
            exact ⟨p0, Nat.le_refl _, by omega, c, r, h⟩
          · rw [if_neg r] at h; cases h
        · exact ⟨p, by omega, by omega, h3⟩
      · rintro ⟨p, h1, h2, h3, h4, h5⟩
        by_cases e : p = p0
        · subst e
          left
          rw [if_pos h4, List.mem_singleton]
          exact h5
        · exact .inr ⟨p, by omega, by omega, h3, h4, h5⟩
    · rw [if_neg c]
      simp only [List.not_mem_nil, false_iff]
      rintro ⟨p, h1, h2, h3, _⟩
      omega

theorem mem_sqAll (w : List Int) (x : S91) : ∀ f a0, x ∈ sqAll w f a0 ↔ ∃ a p, a0 ≤ a ∧ a < a0 + f ∧ 1 ≤ p ∧ a < w.length ∧ a + 2 * p ≤ w.length ∧ Rep w p a p ∧ x = ⟨(a : Int), (p : Int), ((2 * p : Nat) : Int)⟩ := by
  intro f
  induction f with
  | zero => intro a0; simp only [sqAll, List.not_mem_nil, false_iff]; rintro ⟨a, p, h1, h2, _⟩; omega
  | succ f ih =>
    intro a0
    rw [sqAll]
    by_cases c : a0 < w.length
    · rw [if_pos c, List.mem_append, ih, mem_sqRow]
      constructor
      · rintro (⟨p, h1, h2, h3⟩ | ⟨a, p, h1, h2, h3⟩)
        · exact ⟨a0, p, Nat.le_refl _, by omega, h1, c, h3⟩
        · exact ⟨a, p, by omega, by omega, h3⟩
      · rintro ⟨a, p, h1, h2, h3, h4, h5, h6⟩
        by_cases e : a = a0
        · subst e
          exact .inl ⟨p, h3, by omega, h5, h6⟩
        · exact .inr ⟨a, p, by omega, by omega, h3, h4, h5, h6⟩
    · rw [if_neg c]
      simp only [List.not_mem_nil, false_iff]
      rintro ⟨a, p, h1, h2, h3, h4, _⟩
      omega

theorem mem_sqs (w : List Int) (x : S91) : x ∈ sqs w ↔ w.length ≤ 64 ∧ ∃ a p : Nat, 1 ≤ p ∧ a + 2 * p ≤ w.length ∧ Rep w p a p ∧ x = ⟨(a : Int), (p : Int), ((2 * p : Nat) : Int)⟩ := by
  unfold sqs
  by_cases c : 64 < w.length
  · rw [if_pos c]
    simp only [List.not_mem_nil, false_iff]
    rintro ⟨h, _⟩
    omega
  · rw [if_neg c, mem_sqAll]
    constructor
    · rintro ⟨a, p, h1, h2, h3, h4, h5⟩
      exact ⟨by omega, a, p, h3, h5⟩
    · rintro ⟨_, a, p, h1, h2, h3⟩
      exact ⟨a, p, by omega, by omega, h1, by omega, h2, h3⟩

/-- A square's letters. -/
def sqCut (w : List Int) (x : S91) : List Int := (w.take (x.f0 + x.f2).toNat).drop x.f0.toNat

theorem sqs_in (w : List Int) (x : S91) (h : x ∈ sqs w) : 0 ≤ x.f0 ∧ x.f0 ≤ x.f0 + x.f2 ∧ x.f0 + x.f2 ≤ (w.length : Int) ∧ w.length ≤ 64 := by
  obtain ⟨h0, a, p, h1, h2, h3, rfl⟩ := (mem_sqs w x).1 h
  simp only []
  omega

def dsq (w : List Int) : List (List Int) := canon ((sqs w).map (sqCut w))

/-! ### spec_l10Match -/
theorem spec_l10Match_loop (w : List Int) (hb : w.length ≤ 1048576) (a p : Nat) (d : Nat) : ∀ c : Nat, Rep w p a c → w.length - (a + p + c) = d →
    ∃ C : Nat, RepMax w p a C ∧ Ev (fun k => spec_l10Match.l0 k w (a : Int) (p : Int) ((p + c : Nat) : Int)) ((C + p : Nat) : Int) := by
  induction d with
  | zero =>
    intro c h hd
    have h1 := h.1
    refine ⟨c, ⟨h, fun c' h' => by have := h'.1; omega⟩, Ev_succ ?_⟩
    simp only [spec_l10Match.l0]
    rw [wnat (x := (a : Int) + ((p + c : Nat) : Int)) (a + (p + c)) (by omega) (by omega), w64 (n := (w.length : Int) - a) (by omega) (by omega), mn_eq]
    exact Ev_neg (by omega) (Ev_some (by omega))
  | succ d ih =>
    intro c h hd
    have h1 := h.1
    by_cases e : w.getD (a + c) 0 = w.getD (a + c + p) 0
    · obtain ⟨C, hC, hev⟩ := ih (c + 1) (h.more (by omega) e) (by omega)
      refine ⟨C, hC, Ev_succ ?_⟩
      simp only [spec_l10Match.l0]
      rw [wnat (x := (a : Int) + ((p + c : Nat) : Int)) (a + (p + c)) (by omega) (by omega), wnat (x := ((a + (p + c) : Nat) : Int) - p) (a + c) (by omega) (by omega), rd_cast, rd_cast, wsucc (by omega)]
      refine Ev_pos (by omega) (Ev_pos (by omega) (Ev_pos (by omega) (Ev_pos (by omega) (Ev_pos ?_ hev))))
      rw [e]; congr 1; omega
    · refine ⟨c, ⟨h, fun c' h' => ?_⟩, Ev_succ ?_⟩
      · apply Nat.le_of_not_lt
        intro hlt
        exact e (h'.2 c hlt)
      · simp only [spec_l10Match.l0]
        rw [wnat (x := (a : Int) + ((p + c : Nat) : Int)) (a + (p + c)) (by omega) (by omega), wnat (x := ((a + (p + c) : Nat) : Int) - p) (a + c) (by omega) (by omega), w64 (n := (w.length : Int) - a) (by omega) (by omega), mn_eq, rd_cast, rd_cast]
        refine Ev_pos (by omega) (Ev_pos (by omega) (Ev_pos (by omega) (Ev_pos (by omega) (Ev_neg ?_ (Ev_some (by omega))))))
        rw [show a + (p + c) = a + c + p by omega]
        exact fun x => e x.symm

theorem spec_l10Match_ev (w : List Int) (hb : w.length ≤ 1048576) (a p : Nat) (h : a + p ≤ w.length) :
    ∃ C : Nat, RepMax w p a C ∧ Ev (fun k => spec_l10Match.f k w (a : Int) (p : Int)) ((C + p : Nat) : Int) := by
  unfold spec_l10Match.f
  exact spec_l10Match_loop w hb a p _ 0 ⟨by omega, fun j hj => by omega⟩ rfl

/-! ### spec_SquaresOf -/
theorem spec_SquaresOf_l1 (w : List Int) (hb : w.length ≤ 64) (a : Nat) (ha : a < w.length) (r : List S91) (f : Nat) : ∀ (p : Nat) (out : List S91), 1 ≤ p → w.length < a + 2 * p + 2 * f → p ≤ w.length + 1 → out.length ≤ a * w.length + p →
    Ev (fun k => spec_SquaresOf.l0 k w (out ++ sqRow w a f p) ((a + 1 : Nat) : Int)) r → Ev (fun k => spec_SquaresOf.l1 k w out (a : Int) (p : Int)) r := by
  have hm : a * w.length ≤ 64 * 64 := Nat.mul_le_mul (by omega) (by omega)
  induction f with
  | zero =>
    intro p out h1 h2 h3 h4 h5
    refine Ev_succ ?_
    simp only [spec_SquaresOf.l1]
    rw [wnat (x := 2 * (p : Int)) (2 * p) (by omega) (by omega), w64 (n := (a : Int) + ((2 * p : Nat) : Int)) (by omega) (by omega), wsucc (n := a) (by omega)]
    simp only [sqRow, List.append_nil] at h5
    exact Ev_neg (by omega) h5
  | succ f ih =>
    intro p out h1 h2 h3 h4 h5
    refine Ev_succ ?_
    simp only [spec_SquaresOf.l1]
    rw [wnat (x := 2 * (p : Int)) (2 * p) (by omega) (by omega), w64 (n := (a : Int) + ((2 * p : Nat) : Int)) (by omega) (by omega), wsucc (n := a) (by omega)]
    rw [sqRow] at h5
    by_cases c : a + 2 * p ≤ w.length
    · rw [if_pos c] at h5
      obtain ⟨C, hC, hev⟩ := spec_l10Match_ev w (by omega) a p (by omega)
      refine Ev_pos (by omega) (Ev_call _ hev ?_)
      rw [wsucc (n := p) (by omega)]
      by_cases c2 : Rep w p a p
      · rw [if_pos c2] at h5
        have hle := hC.2 _ c2
        refine Ev_pos (by omega) (Ev_pos (by omega) ?_)
        refine ih (p + 1) _ (by omega) (by omega) (by omega) (by simp; omega) ?_
        simpa using h5
      · rw [if_neg c2] at h5
        have hlt : C < p := by
          apply Nat.lt_of_not_le
          intro hle
          exact c2 (hC.1.less hle)
        refine Ev_neg (by omega) ?_
        refine ih (p + 1) _ (by omega) (by omega) (by omega) (by omega) ?_
        simpa using h5
    · rw [if_neg c] at h5
      simp only [List.append_nil] at h5
      exact Ev_neg (by omega) h5

theorem spec_SquaresOf_l0 (w : List Int) (hb : w.length ≤ 64) (f : Nat) : ∀ (a : Nat) (out : List S91), w.length ≤ a + f → a ≤ w.length → out.length ≤ a * w.length →
    Ev (fun k => spec_SquaresOf.l0 k w out (a : Int)) (out ++ sqAll w f a) := by
  induction f with
  | zero =>
    intro a out h1 h2 h3
    refine Ev_succ ?_
    simp only [spec_SquaresOf.l0]
    exact Ev_neg (by omega) (Ev_some (by simp [sqAll]))
  | succ f ih =>
    intro a out h1 h2 h3
    refine Ev_succ ?_
    simp only [spec_SquaresOf.l0]
    rw [sqAll]
    by_cases c : a < w.length
    · rw [if_pos c]
      refine Ev_pos (by omega) ?_
      refine spec_SquaresOf_l1 w hb a c _ w.length 1 out (by omega) (by omega) (by omega) (by omega) ?_
      rw [← List.append_assoc]
      refine ih (a + 1) _ (by omega) (by omega) ?_
      have := sqRow_length w a w.length 1
      rw [List.length_append, Nat.succ_mul]
      omega
    · rw [if_neg c]
      exact Ev_neg (by omega) (Ev_some (by simp))

theorem spec_SquaresOf_ev (w : List Int) (hb : w.length ≤ 1048576) : Ev (fun k => spec_SquaresOf.f k w) (sqs w) := by
  unfold spec_SquaresOf.f sqs
  simp only [Option.bind_some]
  by_cases h : 64 < w.length
  · rw [if_pos h]
    exact Ev_pos (by omega) (Ev.now _)
  · rw [if_neg h]
    exact Ev_neg (by omega) (spec_SquaresOf_l0 w (by omega) w.length 0 [] (by omega) (by omega) (by simp))

/-! ### spec_CompareWords -/
theorem spec_CompareWords_loop (u v : List Int) (hu : u.length ≤ 1048576) (d : Nat) : ∀ n : Nat, n + d = u.length → n ≤ v.length →
    Ev (fun k => spec_CompareWords.l0 k u v (n : Int)) (cmpW (u.drop n) (v.drop n)) := by
  induction d with
  | zero =>
    intro n h h2
    have hn : n = u.length := by omega
    subst hn
    refine Ev_succ ?_
    simp only [spec_CompareWords.l0]
    refine Ev_neg (by omega) (Ev_succ ?_)
    simp only [spec_CompareWords.j1]
    refine Ev_neg (by simp) ?_
    rw [List.drop_length, cmpW_nil_left]
    by_cases c : u.length < v.length
    · refine Ev_pos (by omega) (Ev_some ?_)
      rw [if_neg (by simp; omega)]
    · refine Ev_neg (by omega) (Ev_neg (by omega) (Ev_some ?_))
      rw [if_pos (by simp; omega)]
  | succ d ih =>
    intro n h h2
    refine Ev_succ ?_
    simp only [spec_CompareWords.l0]
    refine Ev_pos (by omega) (Ev_succ ?_)
    simp only [spec_CompareWords.j1]
    by_cases c : n < v.length
    · refine Ev_pos (by simp; omega) (Ev_pos (by omega) (Ev_pos (by omega) (Ev_pos (by omega) ?_)))
      rw [rd_cast, rd_cast, drop_cons u n 0 (by omega), drop_cons v n 0 c, cmpW_cons, wsucc (by omega)]
      refine Ev_ite (fun g => Ev_some ?_) (fun g => ?_)
      · rw [if_pos g]
      · rw [if_neg g]
        refine Ev_ite (fun g2 => Ev_some ?_) (fun g2 => ?_)
        · rw [if_pos g2]
        · rw [if_neg g2]
          exact ih (n + 1) (by omega) (by omega)
    · refine Ev_neg (by simp; omega) (Ev_neg (by omega) (Ev_pos (by omega) (Ev_some ?_)))
      rw [List.drop_eq_nil_of_le (show v.length ≤ n by omega), cmpW_nil_right, if_neg (by simp; omega)]

theorem spec_CompareWords_ev (u v : List Int) (hu : u.length ≤ 1048576) : Ev (fun k => spec_CompareWords.f k u v) (cmpW u v) := by
  unfold spec_CompareWords.f
  exact spec_CompareWords_loop u v hu _ 0 (Nat.zero_add _) (by omega)

/-! ### spec_l8Put -/
theorem spec_l8Put_loop (l : List (List Int)) (w : List Int) (hw : w.length ≤ 1048576) (hl : l.length ≤ 1048576) (d : Nat) : ∀ (n : Nat) (out : List (List Int)) (pl : Bool), n + d = l.length → out.length ≤ n + (if pl = true then 1 else 0) →
    Ev (fun k => spec_l8Put.l0 k l w out pl (n : Int)) (out ++ if pl = true then l.drop n else putW w (l.drop n)) := by
  induction d with
  | zero =>
    intro n out pl h1 h2
    have hn : n = l.length := by omega
    have h2' : out.length ≤ n + 1 := by split at h2 <;> omega
    refine Ev_succ ?_
    simp only [spec_l8Put.l0]
    refine Ev_neg (by omega) ?_
    rw [hn, List.drop_length]
    cases pl with
    | true => exact Ev_pos rfl (Ev_some (by simp))
    | false =>
      refine Ev_neg (by simp) ?_
      simp only [Option.bind_some]
      exact Ev_pos (by simp; omega) (Ev_pos (by omega) (Ev_some (by simp [putW])))
  | succ d ih =>
    intro n out pl h1 h2
    have h2' : out.length ≤ n + 1 := by split at h2 <;> omega
    refine Ev_succ ?_
    simp only [spec_l8Put.l0]
    refine Ev_pos (by omega) (Ev_pos (by omega) ?_)
    have hx : rd_L2 l (n : Int) = l.getD n [] := rfl
    rw [hx, drop_cons l n [] (by omega)]
    refine Ev_call _ (spec_CompareWords_ev w (l.getD n []) hw) ?_
    have step : ∀ (pl' : Bool) (out' : List (List Int)), out'.length ≤ n + 1 + (if pl' = true then 1 else 0) → Ev (fun k => spec_l8Put.l0 k l w out' pl' (wrap64 ((n : Int) + 1))) (out' ++ if pl' = true then l.drop (n + 1) else putW w (l.drop (n + 1))) := by
      intro pl' out' h
      rw [wsucc (by omega)]
      exact ih (n + 1) out' pl' (by omega) (by omega)
    by_cases c0 : cmpW w (l.getD n []) = 0
    · refine Ev_pos c0 (Ev_neg (by omega) (Ev_pos (by omega) (Ev_eq (step true _ (by simp; omega)) ?_)))
      rw [if_pos rfl, List.append_assoc]
      congr 1
      cases pl with
      | true => rfl
      | false => rw [if_neg (by simp), putW, if_neg (by omega), if_pos c0]; rfl
    · refine Ev_neg c0 ?_
      by_cases c1 : cmpW w (l.getD n []) < 0
      · refine Ev_pos c1 ?_
        cases pl with
        | true =>
          refine Ev_pos rfl (Ev_pos (by omega) (Ev_eq (step true _ (by simp; omega)) ?_))
          rw [if_pos rfl, if_pos rfl, List.append_assoc]
          rfl
        | false =>
          refine Ev_neg (by simp) ?_
          simp only [Option.bind_some]
          refine Ev_pos (by simp; omega) (Ev_pos (by omega) (Ev_pos (by simp; omega) (Ev_eq (step true _ (by simp at h2 ⊢; omega)) ?_)))
          rw [if_pos rfl, if_neg (by simp), putW, if_pos c1]
          simp
      · refine Ev_neg c1 (Ev_pos (by omega) (Ev_eq (step pl _ (by rw [List.length_append, List.length_singleton]; omega)) ?_))
        rw [List.append_assoc]
        congr 1
        cases pl with
        | true => rfl
        | false => rw [if_neg (by simp), if_neg (by simp), putW, if_neg c1, if_neg c0]; rfl

theorem spec_l8Put_ev (l : List (List Int)) (w : List Int) (hw : w.length ≤ 1048576) (hl : l.length ≤ 1048576) : Ev (fun k => spec_l8Put.f k l w) (putW w l) := by
  unfold spec_l8Put.f
  exact Ev_eq (spec_l8Put_loop l w hw hl l.length 0 [] false (by omega) (by simp)) (by simp)

/-! ### spec_DistinctSquares -/
theorem spec_DistinctSquares_loop (w : List Int) (hb : w.length ≤ 1048576) (d : Nat) : ∀ n : Nat, n + d = (sqs w).length →
    Ev (fun k => spec_DistinctSquares.l0 k w (sqs w) (canon (((sqs w).take n).map (sqCut w))) (n : Int)) ((dsq w).length : Int) := by
  have hlen := sqs_length w
  induction d with
  | zero =>
    intro n h
    refine Ev_succ ?_
    simp only [spec_DistinctSquares.l0]
    refine Ev_neg (by omega) (Ev_some ?_)
    rw [show n = (sqs w).length by omega, List.take_length]
    rfl
  | succ d ih =>
    intro n h
    refine Ev_succ ?_
    simp only [spec_DistinctSquares.l0]
    have hx : rd_T91 (sqs w) (n : Int) = (sqs w).getD n z91 := rfl
    have hm : (sqs w).getD n z91 ∈ sqs w := by rw [getD_eq (show n < (sqs w).length by omega)]; exact List.getElem_mem _
    obtain ⟨i0, i1, i2, i3⟩ := sqs_in w _ hm
    rw [hx, w64 (by omega) (by omega)]
    refine Ev_pos (by omega) (Ev_pos (by omega) (Ev_pos i0 (Ev_pos i1 (Ev_pos i2 ?_))))
    have hc : (List.take ((List.getD (sqs w) n z91).f0 + (List.getD (sqs w) n z91).f2).toNat w).drop (List.getD (sqs w) n z91).f0.toNat = sqCut w ((sqs w).getD n z91) := rfl
    rw [hc]
    have hcl : (sqCut w ((sqs w).getD n z91)).length ≤ 1048576 := by unfold sqCut; simp; omega
    have hkl := canon_length (((sqs w).take n).map (sqCut w))
    rw [List.length_map, List.length_take] at hkl
    refine Ev_call _ (spec_l8Put_ev _ _ hcl (by omega)) ?_
    rw [← canon_snoc, wsucc (by omega)]
    have := ih (n + 1) (by omega)
    rwa [take_succ_getD (sqs w) n z91 (by omega), List.map_append] at this

theorem spec_DistinctSquares_ev (w : List Int) (hb : w.length ≤ 1048576) : Ev (fun k => spec_DistinctSquares.f k w) ((dsq w).length : Int) := by
  unfold spec_DistinctSquares.f
  refine Ev_call _ (spec_SquaresOf_ev w hb) ?_
  exact spec_DistinctSquares_loop w hb (sqs w).length 0 (Nat.zero_add _)

/-! ### slices_Compare_int_int -/
theorem cmp_Compare_int_eq (a b : Int) : cmp_Compare_int.f a b = some (if a < b then -1 else if b < a then 1 else 0) := by
  unfold cmp_Compare_int.f cmp_isNaN_int.f
  simp only [Option.bind_some, bne_self_eq_false, Bool.false_eq_true, if_false]
  split
  · rfl
  · split <;> rfl

theorem slices_Compare_int_int_loop (u v : List Int) (hu : u.length ≤ 1048576) (d : Nat) : ∀ n : Nat, n + d = u.length → n ≤ v.length →
    Ev (fun k => slices_Compare_int_int.l0 k u v u (u.length : Int) (n : Int)) (cmpW (u.drop n) (v.drop n)) := by
  induction d with
  | zero =>
    intro n h h2
    have hn : n = u.length := by omega
    subst hn
    refine Ev_succ ?_
    simp only [slices_Compare_int_int.l0]
    refine Ev_neg (by omega) ?_
    rw [List.drop_length, cmpW_nil_left]
    by_cases c : u.length < v.length
    · refine Ev_pos (by omega) (Ev_some ?_)
      rw [if_neg (by simp; omega)]
    · refine Ev_neg (by omega) (Ev_some ?_)
      rw [if_pos (by simp; omega)]
  | succ d ih =>
    intro n h h2
    refine Ev_succ ?_
    simp only [slices_Compare_int_int.l0]
    refine Ev_pos (by omega) (Ev_pos (by omega) (Ev_pos (by omega) ?_))
    by_cases c : n < v.length
    · refine Ev_neg (by omega) (Ev_pos (by omega) ?_)
      simp only [cmp_Compare_int_eq, Option.bind_some]
      rw [rd_cast, rd_cast, drop_cons u n 0 (by omega), drop_cons v n 0 c, cmpW_cons, wsucc (by omega)]
      by_cases g : u.getD n 0 < v.getD n 0
      · rw [if_pos g, if_pos g]
        exact Ev_neg (by omega) (Ev.now _)
      · rw [if_neg g, if_neg g]
        by_cases g2 : v.getD n 0 < u.getD n 0
        · rw [if_pos g2, if_pos g2]
          exact Ev_neg (by omega) (Ev.now _)
        · rw [if_neg g2, if_neg g2]
          exact Ev_pos rfl (ih (n + 1) (by omega) (by omega))
    · refine Ev_pos (by omega) (Ev_some ?_)
      rw [List.drop_eq_nil_of_le (show v.length ≤ n by omega), cmpW_nil_right, if_neg (by simp; omega)]

theorem slices_Compare_int_int_ev (u v : List Int) (hu : u.length ≤ 1048576) : Ev (fun k => slices_Compare_int_int.f k u v) (cmpW u v) := by
  unfold slices_Compare_int_int.f
  exact slices_Compare_int_int_loop u v hu _ 0 (Nat.zero_add _) (by omega)

/-! ### impl_CompareWords -/
theorem impl_CompareWords_ev (u v : List Int) (hu : u.length ≤ 1048576) : Ev (fun k => impl_CompareWords.f k u v) (cmpW u v) := by
  unfold impl_CompareWords.f
  exact Ev_call _ (slices_Compare_int_int_ev u v hu) (Ev.now _)

/-! ### impl_SquaresOf -/
theorem rep_cut (w : List Int) (a p : Nat) (h : a + 2 * p ≤ w.length) : (w.take (a + p)).drop a = (w.take (a + 2 * p)).drop (a + p) ↔ Rep w p a p := by
  have l1 : ((w.take (a + p)).drop a).length = p := by simp; omega
  have l2 : ((w.take (a + 2 * p)).drop (a + p)).length = p := by simp; omega
  have g1 : ∀ i, i < p → ((w.take (a + p)).drop a).getD i 0 = w.getD (a + i) 0 := fun i hi => by rw [getD_drop, getD_take _ _ _ _ (by omega)]
  have g2 : ∀ i, i < p → ((w.take (a + 2 * p)).drop (a + p)).getD i 0 = w.getD (a + i + p) 0 := fun i hi => by rw [getD_drop, getD_take _ _ _ _ (by omega)]; congr 1; omega
  constructor
  · intro e
    refine ⟨by omega, fun i hi => ?_⟩
    rw [← g1 i hi, e, g2 i hi]
  · intro e
    apply ext_getD 0 (by omega)
    intro i hi
    rw [g1 i (by omega), g2 i (by omega)]
    exact e.2 i (by omega)

theorem impl_SquaresOf_l1 (w : List Int) (hb : w.length ≤ 64) (a : Nat) (ha : a < w.length) (r : List S91) (f : Nat) : ∀ (p : Nat) (out : List S91), 1 ≤ p → w.length < a + 2 * p + 2 * f → p ≤ w.length + 1 → out.length ≤ a * w.length + p →
    Ev (fun k => impl_SquaresOf.l0 k w (out ++ sqRow w a f p) (w.length : Int) ((a + 1 : Nat) : Int)) r → Ev (fun k => impl_SquaresOf.l1 k w out (a : Int) (p : Int) (w.length : Int) (a : Int)) r := by
  have hm : a * w.length ≤ 64 * 64 := Nat.mul_le_mul (by omega) (by omega)
  induction f with
  | zero =>
    intro p out h1 h2 h3 h4 h5
    refine Ev_succ ?_
    simp only [impl_SquaresOf.l1]
    rw [wnat (x := 2 * (p : Int)) (2 * p) (by omega) (by omega), w64 (n := (a : Int) + ((2 * p : Nat) : Int)) (by omega) (by omega), wsucc (n := a) (by omega)]
    simp only [sqRow, List.append_nil] at h5
    exact Ev_neg (by omega) h5
  | succ f ih =>
    intro p out h1 h2 h3 h4 h5
    refine Ev_succ ?_
    simp only [impl_SquaresOf.l1]
    rw [wnat (x := 2 * (p : Int)) (2 * p) (by omega) (by omega), wnat (x := (a : Int) + ((2 * p : Nat) : Int)) (a + 2 * p) (by omega) (by omega), wsucc (n := a) (by omega), wnat (x := (a : Int) + p) (a + p) (by omega) (by omega)]
    rw [sqRow] at h5
    by_cases c : a + 2 * p ≤ w.length
    · rw [if_pos c] at h5
      rw [Int.toNat_natCast, Int.toNat_natCast, Int.toNat_natCast, wsucc (n := p) (by omega)]
      refine Ev_pos (by omega) (Ev_pos (by omega) (Ev_pos (by omega) (Ev_pos (by omega) (Ev_pos (by omega) (Ev_pos (by omega) (Ev_call _ (impl_CompareWords_ev _ _ (by simp; omega)) ?_))))))
      by_cases c2 : Rep w p a p
      · rw [if_pos c2] at h5
        refine Ev_pos ((cmpW_zero _ _).2 ((rep_cut w a p c).2 c2)) (Ev_pos (by omega) ?_)
        refine ih (p + 1) _ (by omega) (by omega) (by omega) (by simp; omega) ?_
        simpa using h5
      · rw [if_neg c2] at h5
        refine Ev_neg (fun h => c2 ((rep_cut w a p c).1 ((cmpW_zero _ _).1 h))) ?_
        refine ih (p + 1) _ (by omega) (by omega) (by omega) (by omega) ?_
        simpa using h5
    · rw [if_neg c] at h5
      simp only [List.append_nil] at h5
      exact Ev_neg (by omega) h5

theorem impl_SquaresOf_l0 (w : List Int) (hb : w.length ≤ 64) (f : Nat) : ∀ (a : Nat) (out : List S91), w.length ≤ a + f → a ≤ w.length → out.length ≤ a * w.length →
    Ev (fun k => impl_SquaresOf.l0 k w out (w.length : Int) (a : Int)) (out ++ sqAll w f a) := by
  induction f with
  | zero =>
    intro a out h1 h2 h3
    refine Ev_succ ?_
    simp only [impl_SquaresOf.l0]
    exact Ev_neg (by omega) (Ev_some (by simp [sqAll]))
  | succ f ih =>
    intro a out h1 h2 h3
    refine Ev_succ ?_
    simp only [impl_SquaresOf.l0]
    rw [sqAll]
    by_cases c : a < w.length
    · rw [if_pos c]
      refine Ev_pos (by omega) ?_
      refine impl_SquaresOf_l1 w hb a c _ w.length 1 out (by omega) (by omega) (by omega) (by omega) ?_
      rw [← List.append_assoc]
      refine ih (a + 1) _ (by omega) (by omega) ?_
      have := sqRow_length w a w.length 1
      rw [List.length_append, Nat.succ_mul]
      omega
    · rw [if_neg c]
      exact Ev_neg (by omega) (Ev_some (by simp))

theorem impl_SquaresOf_ev (w : List Int) (hb : w.length ≤ 1048576) : Ev (fun k => impl_SquaresOf.f k w) (sqs w) := by
  unfold impl_SquaresOf.f sqs
  simp only [Option.bind_some]
  by_cases h : 64 < w.length
  · rw [if_pos h]
    exact Ev_pos (by omega) (Ev.now _)
  · rw [if_neg h]
    exact Ev_neg (by omega) (impl_SquaresOf_l0 w (by omega) w.length 0 [] (by omega) (by omega) (by simp))

/-! ### impl_DistinctSquares -/
theorem impl_different_ev (l : List (List Int)) (h : l.length < 4611686018427387904) : Ev (fun k => impl_different.f k l) (canon l) := by
  unfold impl_different.f
  exact Ev_pos h (Ev.now _)

theorem impl_DistinctSquares_loop (w : List Int) (hb : w.length ≤ 1048576) (d : Nat) : ∀ n : Nat, n + d = (sqs w).length →
    Ev (fun k => impl_DistinctSquares.l0 k w (((sqs w).take n).map (sqCut w)) (sqs w) ((sqs w).length : Int) (n : Int)) ((dsq w).length : Int) := by
  have hlen := sqs_length w
  induction d with
  | zero =>
    intro n h
    refine Ev_succ ?_
    simp only [impl_DistinctSquares.l0]
    refine Ev_neg (by omega) ?_
    rw [show n = (sqs w).length by omega, List.take_length]
    exact Ev_call _ (impl_different_ev _ (by rw [List.length_map]; omega)) (Ev_some rfl)
  | succ d ih =>
    intro n h
    refine Ev_succ ?_
    simp only [impl_DistinctSquares.l0]
    have hx : rd_T91 (sqs w) (n : Int) = (sqs w).getD n z91 := rfl
    have hm : (sqs w).getD n z91 ∈ sqs w := by rw [getD_eq (show n < (sqs w).length by omega)]; exact List.getElem_mem _
    obtain ⟨i0, i1, i2, i3⟩ := sqs_in w _ hm
    rw [hx, w64 (by omega) (by omega)]
    have hc : (List.take ((List.getD (sqs w) n z91).f0 + (List.getD (sqs w) n z91).f2).toNat w).drop (List.getD (sqs w) n z91).f0.toNat = sqCut w ((sqs w).getD n z91) := rfl
    rw [hc]
    have hcl : (sqCut w ((sqs w).getD n z91)).length ≤ 1048576 := by unfold sqCut; simp; omega
    simp only [Option.bind_some]
    refine Ev_pos (by omega) (Ev_pos (by omega) (Ev_pos (by omega) (Ev_pos i0 (Ev_pos i1 (Ev_pos i2 (Ev_pos (by rw [List.length_nil]; omega) (Ev_pos (by rw [List.length_map, List.length_take]; omega) ?_)))))))
    rw [wsucc (by omega)]
    have := ih (n + 1) (by omega)
    rwa [take_succ_getD (sqs w) n z91 (by omega), List.map_append] at this

theorem impl_DistinctSquares_ev (w : List Int) (hb : w.length ≤ 1048576) : Ev (fun k => impl_DistinctSquares.f k w) ((dsq w).length : Int) := by
  unfold impl_DistinctSquares.f
  refine Ev_call _ (impl_SquaresOf_ev w hb) ?_
  exact impl_DistinctSquares_loop w hb (sqs w).length 0 (Nat.zero_add _)

theorem FnExactDistinctSquares : laws_FnExactDistinctSquares.Pure := by
  intro l _ _ _
  refine Ev.rounds ?_
  unfold laws_FnExactDistinctSquares.f
  refine Ev_ite (fun _ => Ev.now _) (fun h => ?_)
  have hb : l.length ≤ 1048576 := by omega
  have t1 := laws_toIntS_ev l (by omega)
  have h1 := spec_DistinctSquares_ev l hb
  have h2 := impl_DistinctSquares_ev l hb
  repeat (first
    | exact Ev.now _
    | (refine Ev_call _ (by with_reducible assumption) ?_; try dsimp only)
    | refine Ev_call _ (laws_eqIntS_ev _ _ (by omega)) ?_
    | (refine Ev_pos ?hc ?_; (case hc => first | with_reducible rfl | omega | (simp; done)))
    | (refine Ev_neg ?hc ?_; (case hc => first | omega | (simp; done))))

end Go.Proofs.Ytolikggioekalaa.Pure
