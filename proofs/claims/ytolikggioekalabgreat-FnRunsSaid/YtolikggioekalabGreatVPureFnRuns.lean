/- The pure statement of FnRuns: whatever words and runs are drawn, the law's answer is true. -/
import Derived.Test.YtolikggioekalabGreatVMFnRunsx20
import Derived.Test.YtolikggioekalabGreatVGSized
import Derived.Test.YtolikggioekalabGreatVGRuns
import Derived.Test.YtolikggioekalabGreatVGDuval
import Derived.Test.YtolikggioekalabGreatVG2
import Derived.Test.YtolikggioekalabGreatVGConj
namespace Go.Proofs.YtolikggioekalabGreat.Pure
open Go.RowKit Go.Proofs.YtolikggioekalabGreat.PFnRuns Go.Proofs.YtolikggioekalabGreatW.PrintWords Go.Proofs.YtolikggioekalabGreatW.PrintLast Go.Proofs.YtolikggioekalabGreatW.PrintMore Go.Proofs.YtolikggioekalabGreat.G
set_option linter.unusedVariables false
set_option linter.unusedSimpArgs false
instance (w : List Int) (p a c : Nat) : Decidable (Rep w p a c) := by unfold Rep; infer_instance
def sqRow (w : List Int) (a : Nat) : Nat → Nat → List S39
 | 0, _ => []
 | f + 1, p => if a + 2 * p ≤ w.length then (if Rep w p a p then [⟨(a : Int), (p : Int), ((2 * p : Nat) : Int)⟩] else []) ++ sqRow w a f (p + 1) else []
def sqAll (w : List Int) : Nat → Nat → List S39
 | 0, _ => []
 | f + 1, a => if a < w.length then sqRow w a w.length 1 ++ sqAll w f (a + 1) else []
def sqs (w : List Int) : List S39 := if 64 < w.length then [] else sqAll w w.length 0
theorem sqRow_length (w : List Int) (a : Nat) : ∀ f p, (sqRow w a f p).length ≤ f := by
 intro f
 induction f with
 | zero => intro p; simp [sqRow]
 | succ f ih =>
  intro p
  rw [sqRow]
  have := ih (p + 1)
  split
  ·split <;> simp <;> omega
  ·simp
theorem sqAll_length (w : List Int) : ∀ f a, (sqAll w f a).length ≤ f * w.length := by
 intro f
 induction f with
 | zero => intro a; simp [sqAll]
 | succ f ih =>
  intro a
  rw [sqAll]
  have h1 := ih (a + 1)
  have h2 := sqRow_length w a w.length 1
  split
  ·rw [List.length_append, Nat.succ_mul]; omega
  ·simp
theorem sqs_length (w : List Int) : (sqs w).length ≤ 4096 := by
 unfold sqs
 split
 ·simp
 ·have h1 := sqAll_length w w.length 0
  have h2 : w.length * w.length ≤ 64 * 64 := Nat.mul_le_mul (by omega) (by omega)
  omega
theorem sqRow_pos (w : List Int) (a : Nat) : ∀ f p, 1 ≤ p → ∀ x ∈ sqRow w a f p, 1 ≤ x.f1 := by
 intro f
 induction f with
 | zero => intro p _ x hx; simp [sqRow] at hx
 | succ f ih =>
  intro p hp x hx
  rw [sqRow] at hx
  split at hx
  ·rw [List.mem_append] at hx
   rcases hx with hx | hx
   ·split at hx
    ·simp at hx; subst hx; simp only []; omega
    ·simp at hx
   ·exact ih (p + 1) (by omega) x hx
  ·simp at hx
theorem sqAll_pos (w : List Int) : ∀ f a, ∀ x ∈ sqAll w f a, 1 ≤ x.f1 := by
 intro f
 induction f with
 | zero => intro a x hx; simp [sqAll] at hx
 | succ f ih =>
  intro a x hx
  rw [sqAll] at hx
  split at hx
  ·rw [List.mem_append] at hx
   rcases hx with hx | hx
   ·exact sqRow_pos w a _ 1 (by omega) x hx
   ·exact ih (a + 1) x hx
  ·simp at hx
theorem sqs_pos (w : List Int) : ∀ x ∈ sqs w, 1 ≤ x.f1 := by
 unfold sqs
 split
 ·intro x hx; simp at hx
 ·exact sqAll_pos w _ _
theorem mem_sqRow (w : List Int) (a : Nat) (x : S39) : ∀ f p0, x ∈ sqRow w a f p0 ↔ ∃ p, p0 ≤ p ∧ p < p0 + f ∧ a + 2 * p ≤ w.length ∧ Rep w p a p ∧ x = ⟨(a : Int), (p : Int), ((2 * p : Nat) : Int)⟩ := by
 intro f
 induction f with
 | zero => intro p0; simp only [sqRow, List.not_mem_nil, false_iff]; rintro ⟨p, h1, h2, _⟩; omega
 | succ f ih =>
  intro p0
  rw [sqRow]
  by_cases c : a + 2 * p0 ≤ w.length
  ·rw [if_pos c, List.mem_append, ih]
   constructor
   ·rintro (h | ⟨p, h1, h2, h3⟩)
    ·by_cases r : Rep w p0 a p0
     ·rw [if_pos r, List.mem_singleton] at h
      exact ⟨p0, Nat.le_refl _, by omega, c, r, h⟩
     ·rw [if_neg r] at h; cases h
    ·exact ⟨p, by omega, by omega, h3⟩
   ·rintro ⟨p, h1, h2, h3, h4, h5⟩
    by_cases e : p = p0
    ·subst e
     left
     rw [if_pos h4, List.mem_singleton]
     exact h5
    ·exact .inr ⟨p, by omega, by omega, h3, h4, h5⟩
  ·rw [if_neg c]
   simp only [List.not_mem_nil, false_iff]
   rintro ⟨p, h1, h2, h3, _⟩
   omega
theorem mem_sqAll (w : List Int) (x : S39) : ∀ f a0, x ∈ sqAll w f a0 ↔ ∃ a p, a0 ≤ a ∧ a < a0 + f ∧ 1 ≤ p ∧ a < w.length ∧ a + 2 * p ≤ w.length ∧ Rep w p a p ∧ x = ⟨(a : Int), (p : Int), ((2 * p : Nat) : Int)⟩ := by
 intro f
 induction f with
 | zero => intro a0; simp only [sqAll, List.not_mem_nil, false_iff]; rintro ⟨a, p, h1, h2, _⟩; omega
 | succ f ih =>
  intro a0
  rw [sqAll]
  by_cases c : a0 < w.length
  ·rw [if_pos c, List.mem_append, ih, mem_sqRow]
   constructor
   ·rintro (⟨p, h1, h2, h3⟩ | ⟨a, p, h1, h2, h3⟩)
    ·exact ⟨a0, p, Nat.le_refl _, by omega, h1, c, h3⟩
    ·exact ⟨a, p, by omega, by omega, h3⟩
   ·rintro ⟨a, p, h1, h2, h3, h4, h5, h6⟩
    by_cases e : a = a0
    ·subst e
     exact .inl ⟨p, h3, by omega, h5, h6⟩
    ·exact .inr ⟨a, p, by omega, by omega, h3, h4, h5, h6⟩
  ·rw [if_neg c]
   simp only [List.not_mem_nil, false_iff]
   rintro ⟨a, p, h1, h2, h3, h4, _⟩
   omega
theorem mem_sqs (w : List Int) (x : S39) : x ∈ sqs w ↔ w.length ≤ 64 ∧ ∃ a p : Nat, 1 ≤ p ∧ a + 2 * p ≤ w.length ∧ Rep w p a p ∧ x = ⟨(a : Int), (p : Int), ((2 * p : Nat) : Int)⟩ := by
 unfold sqs
 by_cases c : 64 < w.length
 ·rw [if_pos c]
  simp only [List.not_mem_nil, false_iff]
  rintro ⟨h, _⟩
  omega
 ·rw [if_neg c, mem_sqAll]
  constructor
  ·rintro ⟨a, p, h1, h2, h3, h4, h5⟩
   exact ⟨by omega, a, p, h3, h5⟩
  ·rintro ⟨_, a, p, h1, h2, h3⟩
   exact ⟨a, p, by omega, by omega, h1, by omega, h2, h3⟩
theorem laws_sameInts_loop (a : List Int) (hb : a.length ≤ 17592186044416) (d : Nat) : ∀ n : Nat, n + d = a.length → Ev (fun k => laws_sameInts.l0 k a a (n : Int)) true := by
 induction d with
 | zero =>
  intro n h
  refine Ev_succ ?_
  simp only [laws_sameInts.l0]
  exact Ev_neg (by omega) (Ev.now _)
 | succ d ih =>
  intro n h
  refine Ev_succ ?_
  simp only [laws_sameInts.l0]
  rw [wsucc (n := n) (by omega)]
  exact Ev_pos (by omega) (Ev_pos (by omega) (Ev_pos (by omega) (Ev_pos (by simp) (ih (n + 1) (by omega)))))
theorem laws_sameInts_ev (a : List Int) (hb : a.length ≤ 17592186044416) : Ev (fun k => laws_sameInts.f k a a) true := by
 unfold laws_sameInts.f
 exact Ev_pos (by simp) (laws_sameInts_loop a hb _ 0 (Nat.zero_add _))
def rmk (i k q : Nat) : S32 := ⟨(i : Int), (k : Int), (q : Int)⟩
theorem spec_l9Borders_l1 (w : List Int) (hb : w.length ≤ 1048576) (n : Nat) (hn : 1 ≤ n) (hl : n < w.length) (out : List Int) (ho : out.length = n) (ho2 : ∀ m, m < n → out.getD m 0 = ((lb w (m + 1) : Nat) : Int)) (r : List Int)
 (hx : Ev (fun k => spec_l9Borders.l0 k w (out ++ [((lb w (n + 1) : Nat) : Int)]) ((lb w (n + 1) : Nat) : Int) ((n + 1 : Nat) : Int)) r) :
 ∀ k : Nat, Cand w (n + 1) (k + 1) → Ev (fun f => spec_l9Borders.l1 f w out (k : Int) (n : Int)) r := by
 intro k
 induction k using Nat.strongRecOn with
 | _ k ih =>
  intro hc
  have hkn : k < n := by have := hc.2.1; simp at this; omega
  refine Ev_succ ?_
  simp only [spec_l9Borders.l1]
  rw [rd_cast, rd_cast, wsucc (n := k) (by omega), wsucc (n := n) (by omega)]
  by_cases k0 : k = 0
  ·subst k0
   refine Ev_neg (by omega) (Ev_pos (by omega) (Ev_pos (by omega) (Ev_pos (by omega) (Ev_pos (by omega) ?_))))
   by_cases he : w.getD n 0 = w.getD 0 0
   ·have e := lb_of_cand (by omega) (by omega) hc (Or.inr (by simpa using he.symm))
    rw [e] at hx
    exact Ev_pos he (Ev_pos (by omega) hx)
   ·have hnx := hc.next (by omega) (by omega) (by simpa using fun h => he h.symm)
    rw [if_pos rfl] at hnx
    have e := lb_of_cand (by omega) (by omega) hnx (Or.inl rfl)
    rw [e] at hx
    exact Ev_neg he (Ev_pos (by omega) hx)
  ·refine Ev_pos (by omega) (Ev_pos (by omega) (Ev_pos (by omega) (Ev_pos (by omega) (Ev_pos (by omega) ?_))))
   by_cases he : w.getD n 0 = w.getD k 0
   ·have e := lb_of_cand (by omega) (by omega) hc (Or.inr (by simpa using he.symm))
    rw [e] at hx
    exact Ev_pos he (Ev_pos (by omega) hx)
   ·have hnx := hc.next (by omega) (by omega) (by simpa using fun h => he h.symm)
    rw [if_neg k0] at hnx
    have hlt := lb_lt w k (by omega) (by omega)
    have := ih _ (by omega) hnx
    rw [wnat (x := (k : Int) - 1) (k - 1) (by omega) (by omega), rd_cast, ho2 (k - 1) (by omega), show k - 1 + 1 = k by omega]
    exact Ev_neg he (Ev_pos (by omega) (Ev_pos (by omega) this))
theorem spec_l9Borders_l0 (w : List Int) (hb : w.length ≤ 1048576) (d : Nat) : ∀ (n : Nat) (out : List Int), 1 ≤ n → n + d = w.length → out.length = n → (∀ m, m < n → out.getD m 0 = ((lb w (m + 1) : Nat) : Int)) →
 ∃ r, r.length = w.length ∧ (∀ m, m < w.length → r.getD m 0 = ((lb w (m + 1) : Nat) : Int)) ∧ Ev (fun k => spec_l9Borders.l0 k w out ((lb w n : Nat) : Int) (n : Int)) r := by
 induction d with
 | zero =>
  intro n out h1 h h2 h3
  have : n = w.length := by omega
  subst this
  refine ⟨out, h2, h3, Ev_succ ?_⟩
  simp only [spec_l9Borders.l0]
  exact Ev_neg (by omega) (Ev.now _)
 | succ d ih =>
  intro n out h1 h h2 h3
  obtain ⟨r, g1, g2, g3⟩ := ih (n + 1) (out ++ [((lb w (n + 1) : Nat) : Int)]) (by omega) (by omega) (by simp; omega) (fun m hm => by
   by_cases e : m = n
   ·subst e; rw [getD_append_right _ _ _ _ (by omega), h2]; simp
   ·rw [getD_append_left _ _ _ _ (by omega)]; exact h3 m (by omega))
  refine ⟨r, g1, g2, Ev_succ ?_⟩
  simp only [spec_l9Borders.l0]
  refine Ev_pos (by omega) (Ev_neg (by omega) ?_)
  have hc := Cand.first (w := w) (n + 1) (by omega) (by omega)
  rw [if_neg (by omega), Nat.add_sub_cancel] at hc
  exact spec_l9Borders_l1 w hb n h1 (by omega) out h2 h3 r g3 _ hc
theorem spec_l9Borders_ev (w : List Int) (hb : w.length ≤ 1048576) : ∃ r, r.length = w.length ∧ (∀ m, m < w.length → r.getD m 0 = ((lb w (m + 1) : Nat) : Int)) ∧ Ev (fun k => spec_l9Borders.f k w) r := by
 unfold spec_l9Borders.f
 by_cases h : w.length = 0
 ·refine ⟨[], by simp [h], fun m hm => by omega, Ev_succ ?_⟩
  simp only [spec_l9Borders.l0]
  exact Ev_neg (by omega) (Ev.now _)
 ·have e1 : lb w 1 = 0 := by have := lb_lt w 1 (by omega) (by omega); omega
  obtain ⟨r, g1, g2, g3⟩ := spec_l9Borders_l0 w hb (w.length - 1) 1 [0] (by omega) (by omega) rfl (fun m hm => by
   have : m = 0 := by omega
   subst this; rw [e1]; rfl)
  refine ⟨r, g1, g2, Ev_succ ?_⟩
  simp only [spec_l9Borders.l0]
  rw [e1] at g3
  rw [show wrap64 (0 + 1) = ((1 : Nat) : Int) from by unfold wrap64; rfl]
  exact Ev_pos (by omega) (Ev_pos trivial (Ev_pos (by simp) g3))
theorem spec_BordersOf_loop (w : List Int) (hb : w.length ≤ 1048576) (b : List Int) (hb1 : b.length = w.length) (hb2 : ∀ m, m < w.length → b.getD m 0 = ((lb w (m + 1) : Nat) : Int)) :
 ∀ (n : Nat) (acc : List Int), n ≤ w.length → acc.length + n ≤ w.length → Ev (fun k => spec_BordersOf.l0 k acc b (n : Int)) (bc w n n ++ acc) := by
 intro n
 induction n using Nat.strongRecOn with
 | _ n ih =>
  intro acc hn ha
  refine Ev_succ ?_
  simp only [spec_BordersOf.l0]
  by_cases n0 : n = 0
  ·subst n0
   exact Ev_neg (by omega) (Ev_some (by simp [bc]))
  ·have hlt := lb_lt w n (by omega) hn
   rw [wnat (x := (n : Int) - 1) (n - 1) (by omega) (by omega), rd_cast, hb2 (n - 1) (by omega), show n - 1 + 1 = n by omega]
   simp only [Option.bind_some]
   refine Ev_pos (by omega) (Ev_pos (by omega) (Ev_pos (by omega) (Ev_pos (by simp; omega) ?_)))
   refine Ev_eq (ih (lb w n) hlt _ (by omega) (by simp; omega)) ?_
   rw [bc_step w n (by omega) hn]
   simp
theorem spec_BordersOf_ev (w : List Int) (hb : w.length ≤ 1048576) : Ev (fun k => spec_BordersOf.f k w) (bc w w.length w.length) := by
 unfold spec_BordersOf.f
 obtain ⟨r, h1, h2, h3⟩ := spec_l9Borders_ev w hb
 exact Ev_call _ h3 (Ev_eq (spec_BordersOf_loop w hb r h1 h2 w.length [] (by omega) (by simp)) (by simp))
theorem spec_PeriodsOf_loop (w : List Int) (hb : w.length ≤ 1048576) (b : List Int) (hl : b.length ≤ 1048576) (hx : ∀ x ∈ b, 0 ≤ x ∧ x < w.length) :
 ∀ (n : Nat) (acc : List Int), n ≤ b.length → acc.length + n ≤ b.length →
 Ev (fun k => spec_PeriodsOf.l0 k w acc b ((n : Int) - 1)) (acc ++ ((b.take n).map fun x => (w.length : Int) - x).reverse) := by
 intro n
 induction n with
 | zero =>
  intro acc h1 h2
  refine Ev_succ ?_
  simp only [spec_PeriodsOf.l0]
  exact Ev_neg (by omega) (Ev_some (by simp))
 | succ n ih =>
  intro acc h1 h2
  refine Ev_succ ?_
  simp only [spec_PeriodsOf.l0]
  rw [show ((n + 1 : Nat) : Int) - 1 = (n : Int) by omega, rd_cast, w64 (n := (n : Int) - 1) (by omega) (by omega)]
  have hm := hx (b.getD n 0) (by rw [getD_eq (by omega)]; exact List.getElem_mem _)
  rw [w64 (n := (w.length : Int) - b.getD n 0) (by omega) (by omega)]
  refine Ev_pos (by omega) (Ev_pos (by omega) (Ev_pos (by omega) (Ev_pos (by omega) ?_)))
  refine Ev_eq (ih _ (by omega) (by simp; omega)) ?_
  rw [take_succ_getD b n 0 (by omega)]
  simp
theorem spec_PeriodsOf_ev (w : List Int) (hb : w.length ≤ 1048576) : Ev (fun k => spec_PeriodsOf.f k w) (pers w) := by
 unfold spec_PeriodsOf.f
 have hl := bc_length w w.length w.length
 refine Ev_call _ (spec_BordersOf_ev w hb) ?_
 rw [w64 (by omega) (by omega)]
 refine Ev_eq (spec_PeriodsOf_loop w hb _ (by omega) (bc_bounds w _ _ (by omega)) _ [] (Nat.le_refl _) (by simp)) ?_
 rw [List.take_length]
 rfl
theorem spec_LeastPeriod_ev (w : List Int) (hb : w.length ≤ 1048576) : Ev (fun k => spec_LeastPeriod.f k w) (lper w) := by
 unfold spec_LeastPeriod.f
 refine Ev_call _ (spec_PeriodsOf_ev w hb) ?_
 unfold pers lper
 by_cases h : w.length = 0
 ·rw [h, if_pos rfl]
  exact Ev_pos (by simp [bc]) (Ev.now _)
 ·rw [if_neg h, bc_step w w.length (by omega) (by omega)]
  refine Ev_neg (by simp; omega) (Ev_pos (by simp) (Ev_some ?_))
  simp [rd]
noncomputable def runQ (w : List Int) (a b p : Int) : Bool := @decide (w.length ≤ 64 ∧ 0 ≤ a ∧ 0 ≤ b ∧ 0 ≤ p ∧ RunN w a.toNat b.toNat p.toNat) (Classical.propDecidable _)
theorem runQ_iff {w : List Int} {a b p : Int} : runQ w a b p = true ↔ w.length ≤ 64 ∧ 0 ≤ a ∧ 0 ≤ b ∧ 0 ≤ p ∧ RunN w a.toNat b.toNat p.toNat := by
 unfold runQ
 exact @decide_eq_true_iff _ (Classical.propDecidable _)
theorem runQ_eq {w : List Int} {a b p : Int} {x : Bool} (h : x = true ↔ w.length ≤ 64 ∧ 0 ≤ a ∧ 0 ≤ b ∧ 0 ≤ p ∧ RunN w a.toNat b.toNat p.toNat) : x = runQ w a b p := Bool.eq_iff_iff.2 (h.trans runQ_iff.symm)
theorem spec_IsRun_no (w : List Int) (a b p : Int) : Ev (fun k => spec_IsRun.j0 k w true a b p) false := by
 refine Ev_succ ?_
 simp only [spec_IsRun.j0]
 exact Ev_pos (by simp) (Ev.now _)
theorem spec_IsRun_yes (w : List Int) (hb : w.length ≤ 64) (i k q : Nat) (h1 : i + 2 * q ≤ k) (h2 : k ≤ w.length) (h3 : 1 ≤ q) : Ev (fun g => spec_IsRun.j0 g w false (i : Int) (k : Int) (q : Int)) (runQ w i k q) := by
 refine Ev_succ ?_
 simp only [spec_IsRun.j0, Int.toNat_natCast]
 have hp := lpN_pos (w := w) (i := i) (k := k) (by omega) h2
 have hl := spec_LeastPeriod_ev (cut w i k) (by rw [cut_length h2]; omega)
 rw [hp.2.2] at hl
 have hall : runQ w i k q = true ↔ RunN w i k q := by
  rw [runQ_iff]
  simp only [Int.toNat_natCast]
  exact ⟨fun h => h.2.2.2.2, fun h => ⟨hb, by omega, by omega, by omega, h⟩⟩
 refine Ev_neg (by simp) (Ev_pos (by omega) (Ev_pos (by omega) (Ev_pos (by omega) (Ev_call _ hl ?_))))
 by_cases c : lpN w i k = q
 ·refine Ev_pos (by omega) ?_
  have hr : (!decide (k < w.length ∧ w.getD k 0 = w.getD (k - q) 0)) = true ↔ (k = w.length ∨ w.getD k 0 ≠ w.getD (k - q) 0) := by
   simp only [Bool.not_eq_true', decide_eq_false_iff_not]
   constructor
   ·intro h
    by_cases e : k = w.length
    ·exact .inl e
    ·exact .inr (fun g => h ⟨by omega, g⟩)
   ·rintro (e | e) ⟨h, g⟩
    ·omega
    ·exact e g
  have right : ∀ (hleft : i = 0 ∨ w.getD (i - 1) 0 ≠ w.getD (i - 1 + q) 0), (!decide (k < w.length ∧ w.getD k 0 = w.getD (k - q) 0)) = runQ w i k q := fun hleft => by
   refine Bool.eq_iff_iff.2 (hr.trans (Iff.trans ?_ hall.symm))
   exact ⟨fun h => ⟨by omega, h2, c, h1, hleft, h⟩, fun h => h.right⟩
  have er : (k : Int) < (w.length : Int) → (!(rd w (k : Int) == rd w ((k - q : Nat) : Int))) = (!decide (k < w.length ∧ w.getD k 0 = w.getD (k - q) 0)) := fun h => by
   rw [rd_cast, rd_cast]
   congr 1
   refine Bool.eq_iff_iff.2 ?_
   simp only [beq_iff_eq, decide_eq_true_eq]
   exact ⟨fun g => ⟨by omega, g⟩, fun g => g.2⟩
  have en : ¬ (k : Int) < (w.length : Int) → (!false) = (!decide (k < w.length ∧ w.getD k 0 = w.getD (k - q) 0)) := fun h => by
   congr 1
   exact (decide_eq_false (fun g => h (by omega))).symm
  rw [wnat (x := (k : Int) - q) (k - q) (by omega) (by omega)]
  by_cases ci : i = 0
  ·subst ci
   refine Ev_neg (by omega) ?_
   by_cases ck : (k : Int) < (w.length : Int)
   ·exact Ev_pos ck (Ev_pos (by omega) (Ev_pos (by omega) (Ev_pos (by omega) (Ev_some ((er ck).trans (right (.inl rfl)))))))
   ·exact Ev_neg ck (Ev_some ((en ck).trans (right (.inl rfl))))
  ·rw [wnat (x := (i : Int) - 1) (i - 1) (by omega) (by omega), wnat (x := ((i - 1 : Nat) : Int) + q) (i - 1 + q) (by omega) (by omega)]
   refine Ev_pos (by omega) (Ev_pos (by omega) (Ev_pos (by omega) (Ev_pos (by omega) (Ev_pos (by omega) ?_))))
   simp only [rd_cast w (i - 1), rd_cast w (i - 1 + q)]
   have no : w.getD (i - 1) 0 = w.getD (i - 1 + q) 0 → false = runQ w i k q := fun e => by
    refine Bool.eq_iff_iff.2 (Iff.trans ?_ hall.symm)
    exact ⟨fun h => by simp at h, fun h => by
     rcases h.left with g | g
     ·omega
     ·exact absurd e g⟩
   by_cases ck : (k : Int) < (w.length : Int)
   ·exact Ev_pos ck (Ev_pos (by omega) (Ev_pos (by omega) (Ev_pos (by omega) (Ev_ite (fun e => Ev_some (no e)) (fun e => Ev_some ((er ck).trans (right (.inr e))))))))
   ·exact Ev_neg ck (Ev_ite (fun e => Ev_some (no e)) (fun e => Ev_some ((en ck).trans (right (.inr e)))))
 ·refine Ev_neg (by omega) (Ev_some ?_)
  refine Bool.eq_iff_iff.2 (Iff.trans ?_ hall.symm)
  exact ⟨fun h => by simp at h, fun h => absurd h.per c⟩
theorem spec_IsRun_ev (w : List Int) (hw : w.length ≤ 1048576) (a b p : Int) : Ev (fun k => spec_IsRun.f k w a b p) (runQ w a b p) := by
 unfold spec_IsRun.f
 have hno : ¬ (w.length ≤ 64 ∧ 0 ≤ a ∧ 0 ≤ b ∧ 0 ≤ p ∧ RunN w a.toNat b.toNat p.toNat) → Ev (fun k => spec_IsRun.j0 k w true a b p) (runQ w a b p) := fun h => by
  have e : runQ w a b p = false := by
   cases hq : runQ w a b p
   ·rfl
   ·exact absurd (runQ_iff.1 hq) h
  rw [e]
  exact spec_IsRun_no w a b p
 have facts : ∀ (c : Prop), (RunN w a.toNat b.toNat p.toNat → 0 ≤ a → 0 ≤ b → 0 ≤ p → a.toNat < b.toNat → b.toNat ≤ w.length → a.toNat + 2 * p.toNat ≤ b.toNat → 1 ≤ p.toNat → w.length ≤ 64 → False) → Ev (fun k => spec_IsRun.j0 k w true a b p) (runQ w a b p) := fun c h => hno (fun ⟨h0, h1, h2, h3, r⟩ => h r h1 h2 h3 r.lt r.le r.twice r.pos h0)
 refine Ev_ite (fun h => facts True (fun _ _ _ _ _ _ _ _ _ => by omega)) (fun h1 => ?_)
 refine Ev_ite (fun h => facts True (fun _ _ _ _ _ _ _ _ _ => by omega)) (fun h2 => ?_)
 refine Ev_ite (fun h => facts True (fun _ _ _ _ _ _ _ _ _ => by omega)) (fun h3 => ?_)
 refine Ev_ite (fun h => facts True (fun _ _ _ _ _ _ _ _ _ => by omega)) (fun h4 => ?_)
 refine Ev_ite (fun h => facts True (fun _ _ _ _ _ _ _ _ _ => by omega)) (fun h5 => ?_)
 rw [w64 (n := b - a) (by omega) (by omega), w64 (n := 2 * p) (by omega) (by omega)]
 refine Ev_ite (fun h => facts True (fun _ _ _ _ _ _ _ _ _ => by omega)) (fun h6 => ?_)
 by_cases c : w.length ≤ 64
 ·rw [show decide ((w.length : Int) > 64) = false from decide_eq_false (by omega)]
  obtain ⟨i, rfl⟩ : ∃ i : Nat, a = i := ⟨a.toNat, by omega⟩
  obtain ⟨k, rfl⟩ : ∃ k : Nat, b = k := ⟨b.toNat, by omega⟩
  obtain ⟨q, rfl⟩ : ∃ q : Nat, p = q := ⟨p.toNat, by omega⟩
  exact spec_IsRun_yes w c i k q (by omega) (by omega) (by omega)
 ·rw [show decide ((w.length : Int) > 64) = true from decide_eq_true (by omega)]
  exact facts True (fun _ _ _ _ _ _ _ _ _ => by omega)
theorem spec_RunsOf_l1 (w : List Int) (hb : w.length ≤ 64) (i : Nat) (hi : i < w.length) (out : List S32) (ho : out.length ≤ 5000) (r : List S32)
 (hr : Ev (fun g => spec_RunsOf.l0 g w (out ++ srow rmk w i (w.length - 1 - i)) ((i + 1 : Nat) : Int)) r) (d : Nat) : ∀ t : Nat, t + d = w.length - 1 - i →
 Ev (fun g => spec_RunsOf.l1 g w (out ++ srow rmk w i t) (i : Int) ((i + 2 + t : Nat) : Int)) r := by
 induction d with
 | zero =>
  intro t ht
  refine Ev_succ ?_
  simp only [spec_RunsOf.l1]
  rw [wsucc (n := i) (by omega)]
  obtain rfl : t = w.length - 1 - i := by omega
  exact Ev_neg (by omega) hr
 | succ d ih =>
  intro t ht
  refine Ev_succ ?_
  simp only [spec_RunsOf.l1, Int.toNat_natCast]
  rw [wnat (x := ((i + 2 + t : Nat) : Int) + 1) (i + 2 + (t + 1)) (by omega) (by omega)]
  have hp := lpN_pos (w := w) (i := i) (k := i + 2 + t) (by omega) (by omega)
  have hl := spec_LeastPeriod_ev (cut w i (i + 2 + t)) (by rw [cut_length (by omega)]; omega)
  rw [hp.2.2] at hl
  have hs := srow_length rmk w i t
  have ih' := ih (t + 1) (by omega)
  rw [srow_succ] at ih'
  have hq := spec_IsRun_ev w (by omega) (i : Int) ((i + 2 + t : Nat) : Int) (lpN w i (i + 2 + t) : Int)
  have e : runQ w (i : Int) ((i + 2 + t : Nat) : Int) (lpN w i (i + 2 + t) : Int) = runB w i (i + 2 + t) := by
   refine (runQ_eq (runB_iff.trans ?_)).symm
   simp only [Int.toNat_natCast]
   exact ⟨fun h => ⟨hb, by omega, by omega, by omega, h⟩, fun h => h.2.2.2.2⟩
  rw [e] at hq
  refine Ev_pos (by omega) (Ev_pos (by omega) (Ev_pos (by omega) (Ev_call _ hl (Ev_call _ hq ?_))))
  by_cases c : runB w i (i + 2 + t) = true
  ·rw [if_pos c] at ih'
   refine Ev_pos c (Ev_pos (by rw [List.length_append]; omega) ?_)
   rw [List.append_assoc]
   exact ih'
  ·rw [if_neg c, List.append_nil] at ih'
   exact Ev_neg c ih'
theorem spec_RunsOf_l0 (w : List Int) (hb : w.length ≤ 64) (d : Nat) : ∀ i : Nat, i + d = w.length → Ev (fun g => spec_RunsOf.l0 g w (sall rmk w i) (i : Int)) (sall rmk w w.length) := by
 induction d with
 | zero =>
  intro i h
  obtain rfl : i = w.length := by omega
  refine Ev_succ ?_
  simp only [spec_RunsOf.l0]
  refine Ev_neg (by omega) (Ev_succ ?_)
  simp only [spec_RunsOf.j1]
  exact Ev_neg (by simp) (Ev.now _)
 | succ d ih =>
  intro i h
  refine Ev_succ ?_
  simp only [spec_RunsOf.l0]
  refine Ev_pos (by omega) (Ev_succ ?_)
  simp only [spec_RunsOf.j1]
  have hs := sall_length rmk w i
  have hm : i * w.length ≤ 64 * 64 := Nat.mul_le_mul (by omega) (by omega)
  rw [wnat (x := (i : Int) + 2) (i + 2) (by omega) (by omega)]
  refine Ev_pos (by simp; omega) ?_
  have ih' := ih (i + 1) (by omega)
  rw [sall_succ] at ih'
  have := spec_RunsOf_l1 w hb i (by omega) (sall rmk w i) (by omega) _ ih' (w.length - 1 - i) 0 (by omega)
  rw [show srow rmk w i 0 = [] from rfl, List.append_nil] at this
  exact this
theorem spec_RunsOf_ev (w : List Int) (hw : w.length ≤ 1048576) : Ev (fun g => spec_RunsOf.f g w) (sruns rmk w) := by
 unfold spec_RunsOf.f sruns
 by_cases c : 64 < w.length
 ·rw [if_pos c]
  refine Ev_succ ?_
  simp only [spec_RunsOf.l0]
  refine Ev_pos (by omega) (Ev_succ ?_)
  simp only [spec_RunsOf.j1]
  exact Ev_neg (by simp; omega) (Ev.now _)
 ·rw [if_neg c]
  exact spec_RunsOf_l0 w (by omega) w.length 0 (Nat.zero_add _)
theorem impl_borders_l1 (w : List Int) (hb : w.length ≤ 1048576) (n : Nat) (hn : 1 ≤ n) (hl : n ≤ w.length) (out : List Int) (ho : BrdTo w out n) (r : List Int)
 (hx : Ev (fun k => impl_borders.l0 k w (out.set n ((lb w n : Nat) : Int)) ((n + 1 : Nat) : Int)) r) :
 ∀ k : Nat, Cand w n k → Ev (fun f => impl_borders.l1 f w out (n : Int) ((k : Int) - 1)) r := by
 intro k
 induction k using Nat.strongRecOn with
 | _ k ih =>
  intro hc
  have hkn : k < n := by have := hc.2.1; simpa using this
  refine Ev_succ ?_
  simp only [impl_borders.l1]
  have hlen := ho.1
  by_cases k0 : k = 0
  ·subst k0
   have e := lb_of_cand hn hl hc (Or.inl rfl)
   rw [e] at hx
   refine Ev_neg (by omega) (Ev_pos (by omega) (Ev_pos (by omega) ?_))
   rw [wnat (x := ((0 : Nat) : Int) - 1 + 1) 0 (by omega) (by omega), wsucc (n := n) (by omega), Int.toNat_natCast]
   exact hx
  ·obtain ⟨j, rfl⟩ : ∃ j, k = j + 1 := ⟨k - 1, by omega⟩
   rw [show ((j + 1 : Nat) : Int) - 1 = (j : Int) by omega, wnat (x := (n : Int) - 1) (n - 1) (by omega) (by omega), rd_cast, rd_cast]
   refine Ev_pos (by omega) (Ev_pos (by omega) (Ev_pos (by omega) (Ev_pos (by omega) (Ev_pos (by omega) ?_))))
   by_cases he : w.getD j 0 = w.getD (n - 1) 0
   ·refine Ev_pos he (Ev_pos (by omega) (Ev_pos (by omega) ?_))
    have e := lb_of_cand hn hl hc (Or.inr (by simpa using he))
    rw [e] at hx
    rw [wsucc (n := j) (by omega), wsucc (n := n) (by omega), Int.toNat_natCast]
    exact hx
   ·refine Ev_neg he (Ev_pos (by omega) ?_)
    have hnx := hc.next hn hl he
    rw [rd_cast]
    by_cases j0 : j = 0
    ·subst j0
     rw [if_pos rfl] at hnx
     have := ih 0 (by omega) hnx
     rw [ho.2.1]
     exact this
    ·rw [if_neg j0] at hnx
     have hlt := lb_lt w j (by omega) (by omega)
     have := ih _ (by omega) hnx
     rw [ho.2.2 j (by omega) (by omega)]
     rw [show ((lb w j + 1 : Nat) : Int) - 1 = ((lb w j : Nat) : Int) by omega] at this
     exact this
theorem impl_borders_l0 (w : List Int) (hb : w.length ≤ 1048576) (d : Nat) : ∀ (n : Nat) (out : List Int), n + d = w.length + 1 → 1 ≤ n → BrdTo w out n →
 ∃ r, BrdTo w r (w.length + 1) ∧ Ev (fun k => impl_borders.l0 k w out (n : Int)) r := by
 induction d with
 | zero =>
  intro n out h h1 ho
  have : n = w.length + 1 := by omega
  subst this
  refine ⟨out, ho, Ev_succ ?_⟩
  simp only [impl_borders.l0]
  exact Ev_neg (by omega) (Ev.now _)
 | succ d ih =>
  intro n out h h1 ho
  have hlen := ho.1
  have hnew : BrdTo w (out.set n ((lb w n : Nat) : Int)) (n + 1) := by
   refine ⟨by simpa using hlen, ?_, fun m hm hm2 => ?_⟩
   ·rw [getD_set, if_neg (by omega)]; exact ho.2.1
   ·rw [getD_set]
    by_cases e : n = m
    ·subst e; rw [if_pos ⟨rfl, by omega⟩]
    ·rw [if_neg (by omega)]; exact ho.2.2 m hm (by omega)
  obtain ⟨r, hr, hev⟩ := ih (n + 1) _ (by omega) (by omega) hnew
  refine ⟨r, hr, Ev_succ ?_⟩
  simp only [impl_borders.l0]
  rw [wnat (x := (n : Int) - 1) (n - 1) (by omega) (by omega), rd_cast]
  refine Ev_pos (by omega) (Ev_pos (by omega) (Ev_pos (by omega) ?_))
  have hc := Cand.first (w := w) n h1 (by omega)
  have := impl_borders_l1 w hb n h1 (by omega) out ho r hev _ hc
  by_cases e : n = 1
  ·rw [if_pos e] at this
   rw [e] at this ⊢
   rw [ho.2.1]
   exact this
  ·rw [if_neg e] at this
   rw [ho.2.2 (n - 1) (by omega) (by omega)]
   rw [show ((lb w (n - 1) + 1 : Nat) : Int) - 1 = ((lb w (n - 1) : Nat) : Int) by omega] at this
   exact this
theorem impl_borders_start (w : List Int) : BrdTo w ((List.replicate (w.length + 1) (0 : Int)).set 0 (-1)) 1 :=
 ⟨by simp, by simp [List.replicate_succ], fun m hm hm2 => by omega⟩
theorem impl_borders_ev (w : List Int) (hb : w.length ≤ 1048576) : ∃ r, BrdTo w r (w.length + 1) ∧ Ev (fun k => impl_borders.f k w) r := by
 obtain ⟨r, h1, h2⟩ := impl_borders_l0 w hb w.length 1 _ (by omega) (by omega) (impl_borders_start w)
 refine ⟨r, h1, ?_⟩
 unfold impl_borders.f
 have e1 : wrap64 ((w.length : Int) + 1) = ((w.length + 1 : Nat) : Int) := wsucc (by omega)
 have e2 : Int.toNat 0 = 0 := rfl
 have e3 : ((1 : Nat) : Int) = 1 := rfl
 have e4 : 0 < ((List.replicate (w.length + 1) (0 : Int)).length : Int) := by simp
 rw [e3] at h2
 simp only [Option.bind_some, e1, Int.toNat_natCast, e2]
 exact Ev_pos (by omega) (Ev_pos (by omega) (Ev_pos e4 h2))
theorem impl_LeastPeriod_ev (w : List Int) (hb : w.length ≤ 1048576) : Ev (fun k => impl_LeastPeriod.f k w) (lper w) := by
 unfold impl_LeastPeriod.f lper
 by_cases h : w.length = 0
 ·rw [h, if_pos rfl]
  exact Ev_pos rfl (Ev.now _)
 ·rw [if_neg h]
  obtain ⟨r, h1, h2⟩ := impl_borders_ev w hb
  have hlen := h1.1
  have hlt := lb_lt w w.length (by omega) (by omega)
  refine Ev_neg (by omega) (Ev_call _ h2 (Ev_pos (by omega) (Ev_pos (by omega) (Ev_some ?_))))
  rw [rd_cast, h1.2.2 w.length (by omega) (by omega), w64 (by omega) (by omega)]
theorem rmk_key (i k q : Nat) : runKey (rmk i k q) = [(i : Int), (k : Int)] := rfl
theorem rmk_inj (i k q i' k' q' : Nat) (h : runKey (rmk i k q) = runKey (rmk i' k' q')) : i = i' ∧ k = k' := by
 rw [rmk_key, rmk_key] at h
 injection h with h1 h2
 injection h2 with h2
 omega
theorem impl_RunsOf_tail (w : List Int) (hb : w.length ≤ 64) (m p k : Nat) (hp : 1 ≤ p) (out : List S32) (ho : out.length ≤ 50000) (r : List S32) (he : Ext w m p k)
 (h1 : k - m ≥ 2 * p → lpN w m k = p → Ev (fun g => impl_RunsOf.l1 g w (out ++ [rmk m k p]) (p : Int) ((k - p + 1 : Nat) : Int)) r)
 (h2 : ¬ (k - m ≥ 2 * p ∧ lpN w m k = p) → Ev (fun g => impl_RunsOf.l1 g w out (p : Int) ((k - p + 1 : Nat) : Int)) r) :
 Ev (fun g => if ((k - m : Nat) : Int) ≥ ((2 * p : Nat) : Int) then (if 0 ≤ (m : Int) then (if (m : Int) ≤ (k : Int) then (if (k : Int) ≤ (w.length : Int) then ((impl_LeastPeriod.f g (cut w m k)).bind fun t => (if t = (p : Int) then (if out.length < 5864062014805 then (impl_RunsOf.l1 g w (out ++ [rmk m k p]) (p : Int) ((k - p + 1 : Nat) : Int)) else none) else (impl_RunsOf.l1 g w out (p : Int) ((k - p + 1 : Nat) : Int)))) else none) else none) else none) else (impl_RunsOf.l1 g w out (p : Int) ((k - p + 1 : Nat) : Int))) r := by
 have hge := he.ge
 have hle := he.le
 have hq := lpN_pos (w := w) (i := m) (k := k) (by omega) hle
 have hl := impl_LeastPeriod_ev (cut w m k) (by rw [cut_length hle]; omega)
 rw [hq.2.2] at hl
 by_cases c : k - m ≥ 2 * p
 ·refine Ev_pos (by omega) (Ev_pos (by omega) (Ev_pos (by omega) (Ev_pos (by omega) (Ev_call _ hl ?_))))
  by_cases c2 : lpN w m k = p
  ·exact Ev_pos (by omega) (Ev_pos (by omega) (h1 c c2))
  ·exact Ev_neg (by omega) (h2 (fun h => c2 h.2))
 ·exact Ev_neg (by omega) (h2 (fun h => c h.1))
theorem impl_RunsOf_l2 (w : List Int) (hb : w.length ≤ 64) (m p : Nat) (hp : 1 ≤ p) (out : List S32) (ho : out.length ≤ 50000) (r : List S32)
 (hc : ∀ k, Ext w m p k → (k - m ≥ 2 * p → lpN w m k = p → Ev (fun g => impl_RunsOf.l1 g w (out ++ [rmk m k p]) (p : Int) ((k - p + 1 : Nat) : Int)) r) ∧ (¬ (k - m ≥ 2 * p ∧ lpN w m k = p) → Ev (fun g => impl_RunsOf.l1 g w out (p : Int) ((k - p + 1 : Nat) : Int)) r))
 (f : Nat) : ∀ k : Nat, m + p ≤ k → k + f = w.length → Per w m k p → Ev (fun g => impl_RunsOf.l2 g w out (p : Int) (m : Int) (k : Int)) r := by
 have tail : ∀ k, Ext w m p k → _ := fun k he => impl_RunsOf_tail w hb m p k hp out ho r he (hc k he).1 (hc k he).2
 induction f with
 | zero =>
  intro k h1 h2 h3
  refine Ev_succ ?_
  simp only [impl_RunsOf.l2, Int.toNat_natCast]
  rw [wnat (x := (k : Int) - p) (k - p) (by omega) (by omega), wnat (x := (k : Int) - m) (k - m) (by omega) (by omega), wnat (x := 2 * (p : Int)) (2 * p) (by omega) (by omega), wsucc (n := k - p) (by omega)]
  exact Ev_neg (by omega) (tail k ⟨h1, by omega, h3, .inl (by omega)⟩)
 | succ f ih =>
  intro k h1 h2 h3
  refine Ev_succ ?_
  simp only [impl_RunsOf.l2, Int.toNat_natCast]
  rw [wnat (x := (k : Int) - p) (k - p) (by omega) (by omega), wnat (x := (k : Int) - m) (k - m) (by omega) (by omega), wnat (x := 2 * (p : Int)) (2 * p) (by omega) (by omega), wsucc (n := k - p) (by omega), wsucc (n := k) (by omega)]
  refine Ev_pos (by omega) (Ev_pos (by omega) (Ev_pos (by omega) (Ev_pos (by omega) ?_)))
  rw [rd_cast, rd_cast]
  by_cases c : w.getD k 0 = w.getD (k - p) 0
  ·refine Ev_pos c (ih (k + 1) (by omega) (by omega) (fun t t1 t2 => ?_))
   by_cases e : t + p = k
   ·rw [e, c, ← e, Nat.add_sub_cancel]
   ·exact h3 t t1 (by omega)
  ·exact Ev_neg c (tail k ⟨h1, by omega, h3, .inr c⟩)
theorem impl_RunsOf_l1 (w : List Int) (hb : w.length ≤ 64) (p : Nat) (hp : 1 ≤ p) (hp2 : p ≤ 64) (r : List S32)
 (hn : ∀ out : List S32, Scan rmk runKey w (p + 1) 0 out → out.length ≤ (p + 1) * 200 → Ev (fun g => impl_RunsOf.l0 g w out ((p + 1 : Nat) : Int)) r)
 (f : Nat) : ∀ (m : Nat) (out : List S32), w.length ≤ m + p + f → m ≤ w.length + 1 → (m + p < w.length → Fresh w p m) → Scan rmk runKey w p m out → out.length ≤ p * 200 + m → Ev (fun g => impl_RunsOf.l1 g w out (p : Int) (m : Int)) r := by
 induction f with
 | zero =>
  intro m out h1 h2 h3 h4 h5
  refine Ev_succ ?_
  simp only [impl_RunsOf.l1]
  rw [wnat (x := (m : Int) + p) (m + p) (by omega) (by omega), wsucc (n := p) (by omega)]
  exact Ev_neg (by omega) (hn out (h4.next (by omega)) (by omega))
 | succ f ih =>
  intro m out h1 h2 h3 h4 h5
  refine Ev_succ ?_
  simp only [impl_RunsOf.l1]
  rw [wnat (x := (m : Int) + p) (m + p) (by omega) (by omega), wsucc (n := p) (by omega)]
  by_cases c : m + p < w.length
  ·refine Ev_pos (by omega) ?_
   refine impl_RunsOf_l2 w hb m p hp out (by omega) r (fun k he => ?_) (w.length - (m + p)) (m + p) (by omega) (by omega) (fun t t1 t2 => by omega)
   have hge := he.ge
   have hle := he.le
   have st := h4.step hp he (h3 c) rmk_inj
   refine ⟨fun c1 c2 => ih (k - p + 1) _ (by omega) (by omega) (fun h => he.fresh (by omega) hp) (st.1 c1 c2) (by rw [List.length_append, List.length_singleton]; omega), fun c1 => ih (k - p + 1) _ (by omega) (by omega) (fun h => he.fresh (by omega) hp) (st.2 c1) (by omega)⟩
  ·exact Ev_neg (by omega) (hn out (h4.next (by omega)) (by omega))
theorem impl_RunsOf_end (w : List Int) (hb : w.length ≤ 64) (p : Nat) (out : List S32) (h : Scan rmk runKey w p 0 out) (hl : out.length ≤ 50000) (hp : w.length < 2 * p) : runsO out = some (sruns rmk w) := by
 unfold runsO
 rw [if_pos ⟨h.2, by omega⟩, h.done rmk_key hb hp]
theorem impl_RunsOf_l0 (w : List Int) (hb : w.length ≤ 64) (d : Nat) : ∀ (p : Nat) (out : List S32), 1 ≤ p → p ≤ 65 → w.length ≤ p + d → Scan rmk runKey w p 0 out → out.length ≤ p * 200 → Ev (fun g => impl_RunsOf.l0 g w out (p : Int)) (sruns rmk w) := by
 induction d with
 | zero =>
  intro p out h1 h2 h3 h4 h5
  refine Ev_succ ?_
  simp only [impl_RunsOf.l0]
  rw [wnat (x := 2 * (p : Int)) (2 * p) (by omega) (by omega)]
  exact Ev_neg (by omega) (Ev_const (impl_RunsOf_end w hb p out h4 (by omega) (by omega)))
 | succ d ih =>
  intro p out h1 h2 h3 h4 h5
  refine Ev_succ ?_
  simp only [impl_RunsOf.l0]
  rw [wnat (x := 2 * (p : Int)) (2 * p) (by omega) (by omega)]
  by_cases c : 2 * p ≤ w.length
  ·refine Ev_pos (by omega) ?_
   exact impl_RunsOf_l1 w hb p h1 (by omega) _ (fun out' s l => ih (p + 1) out' (by omega) (by omega) (by omega) s l) w.length 0 out (by omega) (by omega) (fun _ => .inl rfl) h4 (by omega)
  ·exact Ev_neg (by omega) (Ev_const (impl_RunsOf_end w hb p out h4 (by omega) (by omega)))
theorem impl_RunsOf_ev (w : List Int) (hw : w.length ≤ 1048576) : Ev (fun g => impl_RunsOf.f g w) (sruns rmk w) := by
 unfold impl_RunsOf.f
 simp only [Option.bind_some]
 by_cases c : 64 < w.length
 ·unfold sruns
  rw [if_pos c]
  exact Ev_pos (by omega) (Ev.now _)
 ·exact Ev_neg (by omega) (impl_RunsOf_l0 w (by omega) w.length 1 [] (by omega) (by omega) (by omega) (Scan.start rmk runKey w) (by simp))
theorem sruns_length (w : List Int) : (sruns rmk w).length ≤ 5000 := by
 unfold sruns
 split
 ·simp
 ·have := sall_length rmk w w.length
  have hm : w.length * w.length ≤ 64 * 64 := Nat.mul_le_mul (by omega) (by omega)
  omega
theorem has_loop (l : List S32) (hl : l.length ≤ 5000) (a b c : Int) (d : Nat) : ∀ (n : Nat), n + d = l.length → (∀ j, j < n → ¬ (a = (l.getD j z32).f0 ∧ b = (l.getD j z32).f1 ∧ c = (l.getD j z32).f2)) →
 ∃ r : Int, Ev (fun k => impl_Run_46.l0 k l (l.length : Int) (n : Int) a b c) r ∧ (r ≥ 0 ↔ ∃ x ∈ l, a = x.f0 ∧ b = x.f1 ∧ c = x.f2) := by
 induction d with
 | zero =>
  intro n h hno
  refine ⟨-1, Ev_succ ?_, ?_⟩
  ·simp only [impl_Run_46.l0]
   exact Ev_neg (by omega) (Ev.now _)
  ·constructor
   ·intro h; omega
   ·rintro ⟨x, hx, e⟩
    obtain ⟨j, hj, rfl⟩ := List.getElem_of_mem hx
    refine (hno j (by omega) ?_).elim
    rw [getD_eq hj]
    exact e
 | succ d ih =>
  intro n h hno
  by_cases cc : a = (l.getD n z32).f0 ∧ b = (l.getD n z32).f1 ∧ c = (l.getD n z32).f2
  ·refine ⟨(n : Int), Ev_succ ?_, ?_⟩
   ·simp only [impl_Run_46.l0]
    refine Ev_pos (by omega) (Ev_pos (by omega) (Ev_pos (by omega) (Ev_pos ?_ (Ev.now _))))
    show (a == (l.getD n z32).f0 && (b == (l.getD n z32).f1 && (c == (l.getD n z32).f2))) = true
    simp only [Bool.and_eq_true, beq_iff_eq]
    exact cc
   ·refine ⟨fun _ => ⟨l[n], List.getElem_mem _, ?_⟩, fun _ => by omega⟩
    rw [getD_eq (by omega)] at cc
    exact cc
  ·obtain ⟨r, h1, h2⟩ := ih (n + 1) (by omega) (fun j hj => by
    by_cases e : j = n
    ·subst e; exact cc
    ·exact hno j (by omega))
   refine ⟨r, Ev_succ ?_, h2⟩
   simp only [impl_Run_46.l0]
   rw [wsucc (n := n) (by omega)]
   refine Ev_pos (by omega) (Ev_pos (by omega) (Ev_pos (by omega) (Ev_neg ?_ h1)))
   show ¬ (a == (l.getD n z32).f0 && (b == (l.getD n z32).f1 && (c == (l.getD n z32).f2))) = true
   simp only [Bool.and_eq_true, beq_iff_eq]
   exact cc
theorem impl_IsRun_ev (w : List Int) (hb : w.length ≤ 1048576) (a b c : Int) : Ev (fun k => impl_IsRun.f k w a b c) (runQ w a b c) := by
 unfold impl_IsRun.f impl_Run_32.f impl_Run_46.f
 obtain ⟨r, h1, h2⟩ := has_loop (sruns rmk w) (sruns_length w) a b c _ 0 (Nat.zero_add _) (fun j hj => by omega)
 refine Ev_call _ (impl_RunsOf_ev w hb) (Ev_call _ (Ev_call _ h1 (Ev.now _)) (Ev_some (runQ_eq ?_)))
 rw [decide_eq_true_eq, h2]
 constructor
 ·rintro ⟨x, hx, e1, e2, e3⟩
  obtain ⟨hw, i, k, q, r, e⟩ := mem_sruns.1 hx
  subst e
  subst e1 e2 e3
  refine ⟨hw, ?_, ?_, ?_, ?_⟩
  ·show (0 : Int) ≤ (i : Int); omega
  ·show (0 : Int) ≤ (k : Int); omega
  ·show (0 : Int) ≤ (q : Int); omega
  ·exact r
 ·rintro ⟨hw, h1, h2, h3, r⟩
  refine ⟨_, mem_sruns.2 ⟨hw, _, _, _, r, rfl⟩, ?_, ?_, ?_⟩
  ·show a = (a.toNat : Int); omega
  ·show b = (b.toNat : Int); omega
  ·show c = (c.toNat : Int); omega
theorem spec_CompareWords_loop (u v : List Int) (hu : u.length ≤ 1048576) (d : Nat) : ∀ n : Nat, n + d = u.length → n ≤ v.length →
 Ev (fun k => spec_CompareWords.l0 k u v (n : Int)) (cmpW (u.drop n) (v.drop n)) := by
 induction d with
 | zero =>
  intro n h h2
  have hn : n = u.length := by omega
  subst hn
  refine Ev_succ ?_
  simp only [spec_CompareWords.l0]
  refine Ev_neg (by omega) (Ev_succ ?_)
  simp only [spec_CompareWords.j1]
  refine Ev_neg (by simp) ?_
  rw [List.drop_length, cmpW_nil_left]
  by_cases c : u.length < v.length
  ·refine Ev_pos (by omega) (Ev_some ?_)
   rw [if_neg (by simp; omega)]
  ·refine Ev_neg (by omega) (Ev_neg (by omega) (Ev_some ?_))
   rw [if_pos (by simp; omega)]
 | succ d ih =>
  intro n h h2
  refine Ev_succ ?_
  simp only [spec_CompareWords.l0]
  refine Ev_pos (by omega) (Ev_succ ?_)
  simp only [spec_CompareWords.j1]
  by_cases c : n < v.length
  ·refine Ev_pos (by simp; omega) (Ev_pos (by omega) (Ev_pos (by omega) (Ev_pos (by omega) ?_)))
   rw [rd_cast, rd_cast, drop_cons u n 0 (by omega), drop_cons v n 0 c, cmpW_cons, wsucc (by omega)]
   refine Ev_ite (fun g => Ev_some ?_) (fun g => ?_)
   ·rw [if_pos g]
   ·rw [if_neg g]
    refine Ev_ite (fun g2 => Ev_some ?_) (fun g2 => ?_)
    ·rw [if_pos g2]
    ·rw [if_neg g2]
     exact ih (n + 1) (by omega) (by omega)
  ·refine Ev_neg (by simp; omega) (Ev_neg (by omega) (Ev_pos (by omega) (Ev_some ?_)))
   rw [List.drop_eq_nil_of_le (show v.length ≤ n by omega), cmpW_nil_right, if_neg (by simp; omega)]
theorem spec_CompareWords_ev (u v : List Int) (hu : u.length ≤ 1048576) : Ev (fun k => spec_CompareWords.f k u v) (cmpW u v) := by
 unfold spec_CompareWords.f
 exact spec_CompareWords_loop u v hu _ 0 (Nat.zero_add _) (by omega)
theorem spec_l8Put_loop (l : List (List Int)) (w : List Int) (hw : w.length ≤ 1048576) (hl : l.length ≤ 1048576) (d : Nat) : ∀ (n : Nat) (out : List (List Int)) (pl : Bool), n + d = l.length → out.length ≤ n + (if pl = true then 1 else 0) →
 Ev (fun k => spec_l8Put.l0 k l w out pl (n : Int)) (out ++ if pl = true then l.drop n else putW w (l.drop n)) := by
 induction d with
 | zero =>
  intro n out pl h1 h2
  have hn : n = l.length := by omega
  have h2' : out.length ≤ n + 1 := by split at h2 <;> omega
  refine Ev_succ ?_
  simp only [spec_l8Put.l0]
  refine Ev_neg (by omega) ?_
  rw [hn, List.drop_length]
  cases pl with
  | true => exact Ev_pos rfl (Ev_some (by simp))
  | false =>
   refine Ev_neg (by simp) ?_
   simp only [Option.bind_some]
   exact Ev_pos (by simp; omega) (Ev_pos (by omega) (Ev_some (by simp [putW])))
 | succ d ih =>
  intro n out pl h1 h2
  have h2' : out.length ≤ n + 1 := by split at h2 <;> omega
  refine Ev_succ ?_
  simp only [spec_l8Put.l0]
  refine Ev_pos (by omega) (Ev_pos (by omega) ?_)
  have hx : rd_L2 l (n : Int) = l.getD n [] := rfl
  rw [hx, drop_cons l n [] (by omega)]
  refine Ev_call _ (spec_CompareWords_ev w (l.getD n []) hw) ?_
  have step : ∀ (pl' : Bool) (out' : List (List Int)), out'.length ≤ n + 1 + (if pl' = true then 1 else 0) → Ev (fun k => spec_l8Put.l0 k l w out' pl' (wrap64 ((n : Int) + 1))) (out' ++ if pl' = true then l.drop (n + 1) else putW w (l.drop (n + 1))) := by
   intro pl' out' h
   rw [wsucc (by omega)]
   exact ih (n + 1) out' pl' (by omega) (by omega)
  by_cases c0 : cmpW w (l.getD n []) = 0
  ·refine Ev_pos c0 (Ev_neg (by omega) (Ev_pos (by omega) (Ev_eq (step true _ (by simp; omega)) ?_)))
   rw [if_pos rfl, List.append_assoc]
   congr 1
   cases pl with
   | true => rfl
   | false => rw [if_neg (by simp), putW, if_neg (by omega), if_pos c0]; rfl
  ·refine Ev_neg c0 ?_
   by_cases c1 : cmpW w (l.getD n []) < 0
   ·refine Ev_pos c1 ?_
    cases pl with
    | true =>
     refine Ev_pos rfl (Ev_pos (by omega) (Ev_eq (step true _ (by simp; omega)) ?_))
     rw [if_pos rfl, if_pos rfl, List.append_assoc]
     rfl
    | false =>
     refine Ev_neg (by simp) ?_
     simp only [Option.bind_some]
     refine Ev_pos (by simp; omega) (Ev_pos (by omega) (Ev_pos (by simp; omega) (Ev_eq (step true _ (by simp at h2 ⊢; omega)) ?_)))
     rw [if_pos rfl, if_neg (by simp), putW, if_pos c1]
     simp
   ·refine Ev_neg c1 (Ev_pos (by omega) (Ev_eq (step pl _ (by rw [List.length_append, List.length_singleton]; omega)) ?_))
    rw [List.append_assoc]
    congr 1
    cases pl with
    | true => rfl
    | false => rw [if_neg (by simp), if_neg (by simp), putW, if_neg c1, if_neg c0]; rfl
theorem spec_l8Put_ev (l : List (List Int)) (w : List Int) (hw : w.length ≤ 1048576) (hl : l.length ≤ 1048576) : Ev (fun k => spec_l8Put.f k l w) (putW w l) := by
 unfold spec_l8Put.f
 exact Ev_eq (spec_l8Put_loop l w hw hl l.length 0 [] false (by omega) (by simp)) (by simp)
theorem spec_l11Turn_ev (w : List Int) (i : Nat) (hw : w.length ≤ 1048576) (hi : i ≤ w.length) : spec_l11Turn.f w (i : Int) = some (rot w i) := by
 unfold spec_l11Turn.f
 simp only [Option.bind_some]
 rw [if_pos (by omega), if_pos (by omega), Int.toNat_natCast, if_pos (by rw [List.length_nil, List.length_drop]; omega), if_pos (by rw [List.nil_append, List.length_drop, List.length_take]; omega)]
 rfl
theorem spec_ConjugatesOf_loop (w : List Int) (hw : w.length ≤ 64) (d : Nat) : ∀ i : Nat, i + d = w.length →
 Ev (fun k => spec_ConjugatesOf.l0 k w (canon (rotsTo w i)) (i : Int)) (conj w) := by
 induction d with
 | zero =>
  intro i h
  refine Ev_succ ?_
  simp only [spec_ConjugatesOf.l0]
  refine Ev_neg (by omega) (Ev_succ ?_)
  simp only [spec_ConjugatesOf.j1]
  refine Ev_neg (by simp) (Ev_some ?_)
  unfold conj
  rw [if_neg (by omega), show i = w.length by omega]
 | succ d ih =>
  intro i h
  refine Ev_succ ?_
  simp only [spec_ConjugatesOf.l0]
  refine Ev_pos (by omega) (Ev_succ ?_)
  simp only [spec_ConjugatesOf.j1]
  refine Ev_pos (by simp; omega) ?_
  simp only [spec_l11Turn_ev w i (by omega) (by omega), Option.bind_some]
  have h2 := canon_length (rotsTo w i)
  rw [rotsTo_length] at h2
  refine Ev_call _ (spec_l8Put_ev _ _ (by rw [rot_length]; omega) (by omega)) ?_
  rw [← canon_snoc, ← rotsTo_succ, wsucc (by omega)]
  exact ih (i + 1) (by omega)
theorem spec_ConjugatesOf_ev (w : List Int) (hb : w.length ≤ 1048576) : Ev (fun k => spec_ConjugatesOf.f k w) (conj w) := by
 unfold spec_ConjugatesOf.f
 by_cases h : w.length ≤ 64
 ·exact spec_ConjugatesOf_loop w h w.length 0 (by omega)
 ·refine Ev_succ ?_
  simp only [spec_ConjugatesOf.l0]
  have e : conj w = [] := by unfold conj; rw [if_pos (by omega)]
  rw [e]
  refine Ev_pos (by omega) (Ev_succ ?_)
  simp only [spec_ConjugatesOf.j1]
  exact Ev_neg (by simp; omega) (Ev.now _)
theorem impl_different_ev2 (l : List (List Int)) (h : l.length < 4611686018427387904) : Ev (fun k => impl_different.f k l) (canon l) := by
 unfold impl_different.f
 exact Ev_pos h (Ev.now _)
theorem impl_ConjugatesOf_loop (w : List Int) (hw : w.length ≤ 64) (d : Nat) : ∀ i : Nat, i + d = w.length →
 Ev (fun k => impl_ConjugatesOf.l0 k w (rotsTo w i) (w.length : Int) (i : Int)) (conj w) := by
 induction d with
 | zero =>
  intro i h
  refine Ev_succ ?_
  simp only [impl_ConjugatesOf.l0]
  refine Ev_neg (by omega) (Ev_call _ (impl_different_ev2 _ (by rw [rotsTo_length]; omega)) (Ev_some ?_))
  unfold conj
  rw [if_neg (by omega), show i = w.length by omega]
 | succ d ih =>
  intro i h
  refine Ev_succ ?_
  simp only [impl_ConjugatesOf.l0, Option.bind_some]
  rw [Int.toNat_natCast]
  refine Ev_pos (by omega) (Ev_pos (by omega) (Ev_pos (by omega) (Ev_pos (by rw [List.length_nil, List.length_drop]; omega) (Ev_pos (by rw [List.nil_append, List.length_drop, List.length_take]; omega) (Ev_pos (by rw [rotsTo_length]; omega) ?_)))))
  have e : ([] ++ List.drop i w) ++ List.take i w = rot w i := rfl
  rw [e, ← rotsTo_succ, wsucc (by omega)]
  exact ih (i + 1) (by omega)
theorem impl_ConjugatesOf_ev (w : List Int) (hb : w.length ≤ 1048576) : Ev (fun k => impl_ConjugatesOf.f k w) (conj w) := by
 unfold impl_ConjugatesOf.f
 simp only [Option.bind_some]
 refine Ev_ite (fun h => Ev_some ?_) (fun h => ?_)
 ·unfold conj; rw [if_pos (by omega)]
 ·exact impl_ConjugatesOf_loop w (by omega) w.length 0 (by omega)
def leastC (w : List Int) : List Int := if (conj w).length = 0 then w else (conj w).getD 0 []
theorem spec_LeastConjugate_ev (w : List Int) (hb : w.length ≤ 1048576) : Ev (fun k => spec_LeastConjugate.f k w) (leastC w) := by
 unfold spec_LeastConjugate.f leastC
 refine Ev_call _ (spec_ConjugatesOf_ev w hb) ?_
 refine Ev_ite (fun h => ?_) (fun h => Ev_pos (by omega) (Ev_some ?_))
 ·simp only [Option.bind_some]
  exact Ev_pos (by rw [List.length_nil]; omega) (Ev_some (by rw [if_pos (by omega)]; rfl))
 ·rw [if_neg (by omega)]; rfl
theorem impl_LeastConjugate_ev (w : List Int) (hb : w.length ≤ 1048576) : Ev (fun k => impl_LeastConjugate.f k w) (leastC w) := by
 unfold impl_LeastConjugate.f leastC
 refine Ev_call _ (impl_ConjugatesOf_ev w hb) ?_
 refine Ev_ite (fun h => ?_) (fun h => Ev_pos (by omega) (Ev_some ?_))
 ·simp only [Option.bind_some]
  exact Ev_pos (by rw [List.length_nil]; omega) (Ev_some (by rw [if_pos (by omega)]; rfl))
 ·rw [if_neg (by omega)]; rfl
theorem leastC_length (w : List Int) : (leastC w).length = w.length := by
 unfold leastC
 split
 ·rfl
 ·rename_i h
  rw [getD_eq (by omega)]
  exact (conj_rows w).2 _ (List.getElem_mem _)
noncomputable def rootR (w : List Int) (a b c : Int) : List Int × Bool := if runQ w a b c = true then (leastC (cut w a.toNat (a + c).toNat), true) else ([], false)
theorem rootR_facts {w : List Int} {a b c : Int} (h : runQ w a b c = true) : 0 ≤ a ∧ 1 ≤ c ∧ a + c ≤ w.length ∧ w.length ≤ 64 := by
 obtain ⟨h0, h1, h2, h3, r⟩ := runQ_iff.1 h
 have := r.lt
 have := r.le
 have := r.twice
 have := r.pos
 omega
theorem rootR_length (w : List Int) (a b c : Int) (hw : w.length ≤ 1048576) : (rootR w a b c).1.length ≤ 1048576 := by
 unfold rootR
 split
 ·rw [leastC_length]
  unfold cut
  rw [List.length_drop, List.length_take]
  omega
 ·simp
theorem spec_RootOfRun_ev (w : List Int) (hw : w.length ≤ 1048576) (a b c : Int) : Ev (fun k => spec_RootOfRun.f k w a b c) (rootR w a b c) := by
 unfold spec_RootOfRun.f rootR
 refine Ev_call _ (spec_IsRun_ev w hw a b c) ?_
 by_cases h : runQ w a b c = true
 ·obtain ⟨h0, h1, h2, h3⟩ := rootR_facts h
  rw [if_pos h, w64 (n := a + c) (by omega) (by omega)]
  refine Ev_pos h (Ev_pos (by omega) (Ev_pos (by omega) (Ev_pos (by omega) (Ev_call _ (spec_LeastConjugate_ev (cut w a.toNat (a + c).toNat) ?_) (Ev.now _)))))
  unfold cut
  rw [List.length_drop, List.length_take]
  omega
 ·rw [if_neg h]
  exact Ev_neg h (Ev.now _)
theorem impl_RootOfRun_ev (w : List Int) (hw : w.length ≤ 1048576) (a b c : Int) : Ev (fun k => impl_RootOfRun.f k w a b c) (rootR w a b c) := by
 unfold impl_RootOfRun.f rootR
 refine Ev_call _ (impl_IsRun_ev w hw a b c) ?_
 by_cases h : runQ w a b c = true
 ·obtain ⟨h0, h1, h2, h3⟩ := rootR_facts h
  rw [if_pos h, w64 (n := a + c) (by omega) (by omega)]
  refine Ev_pos h (Ev_pos (by omega) (Ev_pos (by omega) (Ev_pos (by omega) (Ev_call _ (impl_LeastConjugate_ev (cut w a.toNat (a + c).toNat) ?_) (Ev.now _)))))
  unfold cut
  rw [List.length_drop, List.length_take]
  omega
 ·rw [if_neg h]
  exact Ev_neg h (Ev.now _)
theorem sruns_pos (w : List Int) (j : Nat) (h : j < (sruns rmk w).length) : ((sruns rmk w).getD j z32).f2 ≠ 0 := by
 rw [getD_eq h]
 obtain ⟨_, i, k, q, r, e⟩ := mem_sruns.1 (List.getElem_mem h)
 rw [e]
 have := r.pos
 show (q : Int) ≠ 0
 omega
theorem exps_loop (l : List S32) (hl : l.length ≤ 5000) (hp : ∀ j, j < l.length → (l.getD j z32).f2 ≠ 0) (d : Nat) : ∀ (n : Nat), n + d = l.length → ∀ x : Int, ∃ r : Int, Ev (fun k => spec_RunExponents.l0 k x l (n : Int)) r ∧ Ev (fun k => impl_RunExponents.l0 k x l (l.length : Int) (n : Int)) r := by
 induction d with
 | zero =>
  intro n h x
  refine ⟨x, Ev_succ ?_, Ev_succ ?_⟩
  ·simp only [spec_RunExponents.l0]
   exact Ev_neg (by omega) (Ev.now _)
  ·simp only [impl_RunExponents.l0]
   exact Ev_neg (by omega) (Ev.now _)
 | succ d ih =>
  intro n h x
  obtain ⟨r, h1, h2⟩ := ih (n + 1) (by omega) (wrap64 (x + (wrap64 (Int.tdiv (wrap64 (((rd_T32 l n).f1) - ((rd_T32 l n).f0))) ((rd_T32 l n).f2)))))
  have hq := hp n (by omega)
  refine ⟨r, Ev_succ ?_, Ev_succ ?_⟩
  ·simp only [spec_RunExponents.l0]
   rw [wsucc (n := n) (by omega)]
   exact Ev_pos (by omega) (Ev_pos (by omega) (Ev_neg hq h1))
  ·simp only [impl_RunExponents.l0]
   rw [wsucc (n := n) (by omega)]
   exact Ev_pos (by omega) (Ev_pos (by omega) (Ev_pos (by omega) (Ev_neg hq h2)))
theorem spec_l10Match_loop (w : List Int) (hb : w.length ≤ 1048576) (a p : Nat) (d : Nat) : ∀ c : Nat, Rep w p a c → w.length - (a + p + c) = d →
 ∃ C : Nat, RepMax w p a C ∧ Ev (fun k => spec_l10Match.l0 k w (a : Int) (p : Int) ((p + c : Nat) : Int)) ((C + p : Nat) : Int) := by
 induction d with
 | zero =>
  intro c h hd
  have h1 := h.1
  refine ⟨c, ⟨h, fun c' h' => by have := h'.1; omega⟩, Ev_succ ?_⟩
  simp only [spec_l10Match.l0]
  rw [wnat (x := (a : Int) + ((p + c : Nat) : Int)) (a + (p + c)) (by omega) (by omega), w64 (n := (w.length : Int) - a) (by omega) (by omega), mn_eq]
  exact Ev_neg (by omega) (Ev_some (by omega))
 | succ d ih =>
  intro c h hd
  have h1 := h.1
  by_cases e : w.getD (a + c) 0 = w.getD (a + c + p) 0
  ·obtain ⟨C, hC, hev⟩ := ih (c + 1) (h.more (by omega) e) (by omega)
   refine ⟨C, hC, Ev_succ ?_⟩
   simp only [spec_l10Match.l0]
   rw [wnat (x := (a : Int) + ((p + c : Nat) : Int)) (a + (p + c)) (by omega) (by omega), wnat (x := ((a + (p + c) : Nat) : Int) - p) (a + c) (by omega) (by omega), rd_cast, rd_cast, wsucc (by omega)]
   refine Ev_pos (by omega) (Ev_pos (by omega) (Ev_pos (by omega) (Ev_pos (by omega) (Ev_pos ?_ hev))))
   rw [e]; congr 1; omega
  ·refine ⟨c, ⟨h, fun c' h' => ?_⟩, Ev_succ ?_⟩
   ·apply Nat.le_of_not_lt
    intro hlt
    exact e (h'.2 c hlt)
   ·simp only [spec_l10Match.l0]
    rw [wnat (x := (a : Int) + ((p + c : Nat) : Int)) (a + (p + c)) (by omega) (by omega), wnat (x := ((a + (p + c) : Nat) : Int) - p) (a + c) (by omega) (by omega), w64 (n := (w.length : Int) - a) (by omega) (by omega), mn_eq, rd_cast, rd_cast]
    refine Ev_pos (by omega) (Ev_pos (by omega) (Ev_pos (by omega) (Ev_pos (by omega) (Ev_neg ?_ (Ev_some (by omega))))))
    rw [show a + (p + c) = a + c + p by omega]
    exact fun x => e x.symm
theorem spec_l10Match_ev (w : List Int) (hb : w.length ≤ 1048576) (a p : Nat) (h : a + p ≤ w.length) :
 ∃ C : Nat, RepMax w p a C ∧ Ev (fun k => spec_l10Match.f k w (a : Int) (p : Int)) ((C + p : Nat) : Int) := by
 unfold spec_l10Match.f
 exact spec_l10Match_loop w hb a p _ 0 ⟨by omega, fun j hj => by omega⟩ rfl
theorem spec_SquaresOf_l1 (w : List Int) (hb : w.length ≤ 64) (a : Nat) (ha : a < w.length) (r : List S39) (f : Nat) : ∀ (p : Nat) (out : List S39), 1 ≤ p → w.length < a + 2 * p + 2 * f → p ≤ w.length + 1 → out.length ≤ a * w.length + p →
 Ev (fun k => spec_SquaresOf.l0 k w (out ++ sqRow w a f p) ((a + 1 : Nat) : Int)) r → Ev (fun k => spec_SquaresOf.l1 k w out (a : Int) (p : Int)) r := by
 have hm : a * w.length ≤ 64 * 64 := Nat.mul_le_mul (by omega) (by omega)
 induction f with
 | zero =>
  intro p out h1 h2 h3 h4 h5
  refine Ev_succ ?_
  simp only [spec_SquaresOf.l1]
  rw [wnat (x := 2 * (p : Int)) (2 * p) (by omega) (by omega), w64 (n := (a : Int) + ((2 * p : Nat) : Int)) (by omega) (by omega), wsucc (n := a) (by omega)]
  simp only [sqRow, List.append_nil] at h5
  exact Ev_neg (by omega) h5
 | succ f ih =>
  intro p out h1 h2 h3 h4 h5
  refine Ev_succ ?_
  simp only [spec_SquaresOf.l1]
  rw [wnat (x := 2 * (p : Int)) (2 * p) (by omega) (by omega), w64 (n := (a : Int) + ((2 * p : Nat) : Int)) (by omega) (by omega), wsucc (n := a) (by omega)]
  rw [sqRow] at h5
  by_cases c : a + 2 * p ≤ w.length
  ·rw [if_pos c] at h5
   obtain ⟨C, hC, hev⟩ := spec_l10Match_ev w (by omega) a p (by omega)
   refine Ev_pos (by omega) (Ev_call _ hev ?_)
   rw [wsucc (n := p) (by omega)]
   by_cases c2 : Rep w p a p
   ·rw [if_pos c2] at h5
    have hle := hC.2 _ c2
    refine Ev_pos (by omega) (Ev_pos (by omega) ?_)
    refine ih (p + 1) _ (by omega) (by omega) (by omega) (by simp; omega) ?_
    simpa using h5
   ·rw [if_neg c2] at h5
    have hlt : C < p := by
     apply Nat.lt_of_not_le
     intro hle
     exact c2 (hC.1.less hle)
    refine Ev_neg (by omega) ?_
    refine ih (p + 1) _ (by omega) (by omega) (by omega) (by omega) ?_
    simpa using h5
  ·rw [if_neg c] at h5
   simp only [List.append_nil] at h5
   exact Ev_neg (by omega) h5
theorem spec_SquaresOf_l0 (w : List Int) (hb : w.length ≤ 64) (f : Nat) : ∀ (a : Nat) (out : List S39), w.length ≤ a + f → a ≤ w.length → out.length ≤ a * w.length →
 Ev (fun k => spec_SquaresOf.l0 k w out (a : Int)) (out ++ sqAll w f a) := by
 induction f with
 | zero =>
  intro a out h1 h2 h3
  refine Ev_succ ?_
  simp only [spec_SquaresOf.l0]
  exact Ev_neg (by omega) (Ev_some (by simp [sqAll]))
 | succ f ih =>
  intro a out h1 h2 h3
  refine Ev_succ ?_
  simp only [spec_SquaresOf.l0]
  rw [sqAll]
  by_cases c : a < w.length
  ·rw [if_pos c]
   refine Ev_pos (by omega) ?_
   refine spec_SquaresOf_l1 w hb a c _ w.length 1 out (by omega) (by omega) (by omega) (by omega) ?_
   rw [← List.append_assoc]
   refine ih (a + 1) _ (by omega) (by omega) ?_
   have := sqRow_length w a w.length 1
   rw [List.length_append, Nat.succ_mul]
   omega
  ·rw [if_neg c]
   exact Ev_neg (by omega) (Ev_some (by simp))
theorem spec_SquaresOf_ev (w : List Int) (hb : w.length ≤ 1048576) : Ev (fun k => spec_SquaresOf.f k w) (sqs w) := by
 unfold spec_SquaresOf.f sqs
 simp only [Option.bind_some]
 by_cases h : 64 < w.length
 ·rw [if_pos h]
  exact Ev_pos (by omega) (Ev.now _)
 ·rw [if_neg h]
  exact Ev_neg (by omega) (spec_SquaresOf_l0 w (by omega) w.length 0 [] (by omega) (by omega) (by simp))
theorem spec_IsLyndon_loop (w : List Int) (hb : w.length ≤ 1048576) (d : Nat) : ∀ n : Nat, 1 ≤ n → w.length ≤ n + d → (∀ k, 1 ≤ k → k < n → k < w.length → cmpW w (w.drop k) < 0) →
 n ≤ w.length + 1 → ∃ b : Bool, Ev (fun k => spec_IsLyndon.l0 k w (n : Int)) b ∧ (b = true ↔ LynIx w 0 w.length) := by
 induction d with
 | zero =>
  intro n h1 h2 h3 h4
  refine ⟨decide ((w.length : Int) > 0), Ev_succ ?_, ?_⟩
  ·simp only [spec_IsLyndon.l0]
   exact Ev_neg (by omega) (Ev.now _)
  ·rw [decide_eq_true_eq, lynIx_iff]
   exact ⟨fun h => ⟨by omega, fun k g1 g2 => h3 k g1 (by omega) g2⟩, fun h => by omega⟩
 | succ d ih =>
  intro n h1 h2 h3 h4
  by_cases hlt : n < w.length
  ·have ev := spec_CompareWords_ev w (w.drop n) hb
   by_cases c : cmpW w (w.drop n) ≥ 0
   ·refine ⟨false, Ev_succ ?_, ⟨fun h => absurd h (by simp), fun h => ?_⟩⟩
    ·simp only [spec_IsLyndon.l0]
     rw [Int.toNat_natCast]
     exact Ev_pos (by omega) (Ev_pos (by omega) (Ev_pos (by omega) (Ev_call _ ev (Ev_pos c (Ev.now _)))))
    ·have := ((lynIx_iff w).1 h).2 n h1 hlt
     omega
   ·obtain ⟨b, g1, g2⟩ := ih (n + 1) (by omega) (by omega) (fun k e1 e2 e3 => by
     by_cases e : k = n
     ·subst e; omega
     ·exact h3 k e1 (by omega) e3) (by omega)
    refine ⟨b, Ev_succ ?_, g2⟩
    simp only [spec_IsLyndon.l0]
    rw [Int.toNat_natCast, wsucc (n := n) (by omega)]
    exact Ev_pos (by omega) (Ev_pos (by omega) (Ev_pos (by omega) (Ev_call _ ev (Ev_neg c g1))))
  ·refine ⟨decide ((w.length : Int) > 0), Ev_succ ?_, ?_⟩
   ·simp only [spec_IsLyndon.l0]
    exact Ev_neg (by omega) (Ev.now _)
   ·rw [decide_eq_true_eq, lynIx_iff]
    exact ⟨fun h => ⟨by omega, fun k g1 g2 => h3 k g1 (by omega) g2⟩, fun h => by omega⟩
theorem spec_IsLyndon_ev (w : List Int) (hb : w.length ≤ 1048576) : ∃ b : Bool, Ev (fun k => spec_IsLyndon.f k w) b ∧ (b = true ↔ LynIx w 0 w.length) := by
 unfold spec_IsLyndon.f
 exact spec_IsLyndon_loop w hb w.length 1 (by omega) (by omega) (fun k h1 h2 => by omega) (by omega)
theorem run_prim {w : List Int} {i k q : Nat} (r : RunN w i k q) : Prim (cut w i (i + q)) := by
 have hq := r.pos
 have h2 := r.twice
 have hk := r.le
 have hp := r.isPer
 have hul : (cut w i (i + q)).length = q := by rw [cut_length (by omega)]; omega
 have hug : ∀ t, t < q → (cut w i (i + q)).getD t 0 = w.getD (i + t) 0 := fun t ht => cut_getD (by omega)
 generalize cut w i (i + q) = u at hul hug
 have hW : ∀ t, i ≤ t → t < k → w.getD t 0 = u.getD ((t - i) % q) 0 := by
  intro t
  induction t using Nat.strongRecOn with
  | ind t ih =>
   intro h1 h3
   by_cases c2 : t < i + q
   ·rw [Nat.mod_eq_of_lt (by omega), hug _ (by omega)]
    congr 1; omega
   ·have e := hp (t - q) (by omega) (by omega)
    rw [show t - q + q = t by omega] at e
    rw [← e, ih (t - q) (by omega) (by omega) (by omega), show t - i = t - q - i + q by omega, Nat.add_mod_right]
 refine ⟨by omega, fun s h0 hs e => ?_⟩
 rw [hul] at hs
 have hps : Per w i k s := by
  intro t h1 h3
  have hm : (t - i) % q < q := Nat.mod_lt _ (by omega)
  have e1 := rot_getD u s ((t - i) % q) (by omega) (by omega)
  rw [e, hul, Nat.add_mod_mod] at e1
  rw [hW t h1 (by omega), hW (t + s) (by omega) h3, e1]
  congr 2
  omega
 have := lpN_least r.lt r.le h0 hps
 rw [r.per] at this
 omega
theorem least_lyn {u : List Int} (h : Prim u) (h64 : u.length ≤ 64) : Lyn (leastC u) := by
 obtain ⟨j, hj, hL, hle⟩ := lyn_exists h
 have hc : conj u = canon (rotsTo u u.length) := by unfold conj; rw [if_neg (by omega)]
 have hmem : ∀ x, x ∈ conj u ↔ ∃ m, m < u.length ∧ rot u m = x := by
  intro x
  rw [hc, canon_mem]
  unfold rotsTo
  rw [List.mem_map]
  constructor
  ·rintro ⟨m, hm, e⟩; exact ⟨m, List.mem_range.1 hm, e⟩
  ·rintro ⟨m, hm, e⟩; exact ⟨m, List.mem_range.2 hm, e⟩
 have hasc : Asc (conj u) := by rw [hc]; exact canon_asc _
 obtain ⟨n, hn, e⟩ := List.getElem_of_mem ((hmem _).2 ⟨j, hj, rfl⟩)
 have hx : leastC u = (conj u)[0]'(by omega) := by
  unfold leastC
  rw [if_neg (by omega), getD_eq (by omega)]
 by_cases c : n = 0
 ·subst c
  rw [hx, e]
  exact hL
 ·obtain ⟨m, hm, em⟩ := (hmem _).1 (List.getElem_mem (show 0 < (conj u).length by omega))
  have h1 := List.pairwise_iff_getElem.1 hasc 0 n (by omega) hn (by omega)
  rw [e] at h1
  have h2 := hle m hm
  rw [em] at h2
  have h3 := cmpW_anti (rot u j) ((conj u)[0]'(by omega))
  omega
theorem run_row {w : List Int} {x : S32} (hx : x ∈ sruns rmk w) : w.length ≤ 64 ∧ ∃ i k q : Nat, RunN w i k q ∧ x = ⟨(i : Int), (k : Int), (q : Int)⟩ := by
 obtain ⟨h, i, k, q, r, e⟩ := mem_sruns.1 hx
 exact ⟨h, i, k, q, r, e⟩
theorem run_q {w : List Int} {i k q : Nat} (h : w.length ≤ 64) (r : RunN w i k q) : runQ w (i : Int) (k : Int) (q : Int) = true := runQ_iff.2 ⟨h, by omega, by omega, by omega, by simpa using r⟩
theorem run_root {w : List Int} {i k q : Nat} (h : w.length ≤ 64) (r : RunN w i k q) : ∃ v : List Int, rootR w (i : Int) (k : Int) (q : Int) = (v, true) ∧ Lyn v ∧ v.length ≤ 64 := by
 have h2 := r.twice
 have h3 := r.le
 have hl : (cut w i (i + q)).length = q := by rw [cut_length (by omega)]; omega
 refine ⟨leastC (cut w i (i + q)), ?_, least_lyn (run_prim r) (by omega), by rw [leastC_length]; omega⟩
 unfold rootR
 rw [if_pos (run_q h r), show ((i : Int) + (q : Int)).toNat = i + q by omega, Int.toNat_natCast]
theorem sir_both (a b c : Int) : ∃ r, impl_SquaresInRun.f a b c = some r ∧ spec_SquaresInRun.f a b c = some r := by
 have e : spec_SquaresInRun.f a b c = impl_SquaresInRun.f a b c := by
  unfold spec_SquaresInRun.f impl_SquaresInRun.f
  by_cases h1 : a < 0 <;> by_cases h2 : b > 64 <;> by_cases h3 : c < 1 <;> by_cases h4 : c > 64 <;> by_cases h5 : b < a <;> simp [h1, h2, h3, h4, h5]
 have : ∃ r, impl_SquaresInRun.f a b c = some r := by
  unfold impl_SquaresInRun.f
  repeat' split
  all_goals exact ⟨_, rfl⟩
 obtain ⟨r, h⟩ := this
 exact ⟨r, h, by rw [e, h]⟩
theorem sir_run {i k q : Nat} (h1 : 1 ≤ q) (h2 : i + 2 * q ≤ k) (h3 : k ≤ 64) : ∃ r, impl_SquaresInRun.f (i : Int) (k : Int) (q : Int) = some r ∧ 1 ≤ r := by
 unfold impl_SquaresInRun.f
 rw [if_neg (by omega), if_neg (by omega), if_neg (by omega), if_neg (by omega), if_neg (by omega)]
 refine ⟨_, rfl, ?_⟩
 rw [mx_eq, w64 (n := (k : Int) - (i : Int)) (by omega) (by omega), w64 (n := 2 * (q : Int)) (by omega) (by omega), w64 (n := (k : Int) - (i : Int) - 2 * (q : Int)) (by omega) (by omega), w64 (n := (k : Int) - (i : Int) - 2 * (q : Int) + 1) (by omega) (by omega)]
 omega
theorem FnRuns_last (code : List Int) (R : List S32) (Q : List S39) : Ev (fun k => laws_FnRuns.l1 k code R Q (Q.length : Int)) true := by
 refine Ev_succ ?_
 simp only [laws_FnRuns.l1]
 refine Ev_neg (by omega) (Ev_const (draw_in ?_))
 rintro ⟨a, a0, a1, a2⟩ ⟨ha, _⟩
 refine Ev.rounds (Ev_const (draw_in ?_))
 rintro ⟨c, c0, c1, c2⟩ ⟨hc, _⟩
 simp only [] at ha hc
 refine Ev.rounds ?_
 have hl := rootR_length c c0 c1 c2 (by omega)
 refine Ev_call _ (impl_RootOfRun_ev c (by omega) c0 c1 c2) (Ev_call _ (spec_RootOfRun_ev c (by omega) c0 c1 c2) (Ev_const (draw_in ?_)))
 rintro ⟨e0, e1, e2⟩ _
 refine Ev.rounds ?_
 obtain ⟨r, h1, h2⟩ := sir_both e0 e1 e2
 exact Ev_call _ (impl_IsRun_ev a (by omega) a0 a1 a2) (Ev_call _ (spec_IsRun_ev a (by omega) a0 a1 a2) (Ev_pos (by simp) (Ev_pos (by simp) (Ev_call _ (laws_sameInts_ev _ (by omega)) (Ev_pos rfl (Ev_call _ (Ev_const h1) (Ev_call _ (Ev_const h2) (Ev_some (by simp)))))))))
theorem FnRuns_l2 (code : List Int) (R : List S32) (hR : R.length ≤ 5000) (hq : ∀ x ∈ R, x.f2 ≠ 0) (Q : List S39) (j : Nat) (hj : j < Q.length) (a p : Nat) (ha : a + 2 * p ≤ 64) (hy : Q.getD j z39 = ⟨(a : Int), (p : Int), ((2 * p : Nat) : Int)⟩)
 (hn : Ev (fun k => laws_FnRuns.l1 k code R Q (wrap64 ((j : Int) + 1))) true) (d : Nat) : ∀ (m : Nat) (b : Bool), m + d = R.length → (b = true ∨ ∃ n, m ≤ n ∧ n < R.length ∧ ∃ i k q : Nat, R.getD n z32 = ⟨(i : Int), (k : Int), (q : Int)⟩ ∧ i ≤ a ∧ a + 2 * p ≤ k ∧ p % q = 0) →
 Ev (fun k => laws_FnRuns.l2 k code R Q (j : Int) b (m : Int)) true := by
 induction d with
 | zero =>
  intro m b h hb
  refine Ev_succ ?_
  simp only [laws_FnRuns.l2]
  have hb : b = true := by
   rcases hb with hb | ⟨n, h1, h2, _⟩
   ·exact hb
   ·omega
  exact Ev_neg (by omega) (Ev_pos hb hn)
 | succ d ih =>
  intro m b h hb
  refine Ev_succ ?_
  simp only [laws_FnRuns.l2]
  rw [show rd_T39 Q (j : Int) = ⟨(a : Int), (p : Int), ((2 * p : Nat) : Int)⟩ from hy, show rd_T32 R (m : Int) = R.getD m z32 from rfl, wsucc (n := m) (by omega)]
  simp only []
  refine Ev_pos (by omega) ?_
  cases b with
  | true => exact Ev_pos rfl (ih (m + 1) true (by omega) (.inl rfl))
  | false =>
   have hb : ∃ n, m ≤ n ∧ n < R.length ∧ ∃ i k q : Nat, R.getD n z32 = ⟨(i : Int), (k : Int), (q : Int)⟩ ∧ i ≤ a ∧ a + 2 * p ≤ k ∧ p % q = 0 := by
    rcases hb with hb | hb
    ·exact absurd hb (by simp)
    ·exact hb
   have hx : R.getD m z32 ∈ R := by rw [getD_eq (by omega)]; exact List.getElem_mem _
   have hz := hq _ hx
   rw [w64 (n := (a : Int) + ((2 * p : Nat) : Int)) (by omega) (by omega)]
   obtain ⟨n, h1, h2, i, k, q, e, g1, g2, g3⟩ := hb
   refine Ev_neg (by simp) (Ev_pos (by omega) (Ev_pos (by omega) (Ev_pos (by omega) ?_)))
   by_cases c : n = m
   ·subst c
    rw [e] at hz ⊢
    simp only [] at hz ⊢
    refine Ev_pos (by omega) (Ev_pos (by omega) (Ev_neg hz (ih (n + 1) _ (by omega) (.inl ?_))))
    rw [beq_iff_eq, Int.tmod_eq_emod_of_nonneg (by omega)]
    omega
   ·have hr : ∀ b', Ev (fun k => laws_FnRuns.l2 k code R Q (j : Int) b' ((m + 1 : Nat) : Int)) true := fun b' => ih (m + 1) b' (by omega) (.inr ⟨n, by omega, h2, i, k, q, e, g1, g2, g3⟩)
    exact Ev_ite (fun _ => Ev_ite (fun _ => Ev_neg hz (hr _)) (fun _ => hr false)) (fun _ => hr false)
theorem FnRuns_l1 (code w : List Int) (hw : w.length ≤ 64) (d : Nat) : ∀ j : Nat, j + d = (sqs w).length → Ev (fun k => laws_FnRuns.l1 k code (sruns rmk w) (sqs w) (j : Int)) true := by
 have hl := sqs_length w
 induction d with
 | zero =>
  intro j h
  rw [show j = (sqs w).length by omega]
  exact FnRuns_last code _ _
 | succ d ih =>
  intro j h
  refine Ev_succ ?_
  simp only [laws_FnRuns.l1]
  have hx : (sqs w).getD j z39 ∈ sqs w := by rw [getD_eq (by omega)]; exact List.getElem_mem _
  obtain ⟨_, a, p, hp, hl2, hr, e⟩ := (mem_sqs w _).1 hx
  have i := ih (j + 1) (by omega)
  rw [← wsucc (n := j) (by omega)] at i
  have hper : Per w a (a + 2 * p) p := by
   intro t h1 h2
   have := hr.2 (t - a) (by omega)
   rw [show a + (t - a) = t by omega] at this
   rw [this]
  obtain ⟨i', k', q', r, g1, g2, g3⟩ := sq_in_run hp hl2 hper
  have hm : rmk i' k' q' ∈ sruns rmk w := mem_sruns.2 ⟨hw, i', k', q', r, rfl⟩
  obtain ⟨n, hn, en⟩ := List.getElem_of_mem hm
  refine Ev_pos (by omega) (FnRuns_l2 code (sruns rmk w) (sruns_length w) ?_ (sqs w) j (by omega) a p (by omega) e i _ 0 false (Nat.zero_add _) (.inr ⟨n, by omega, hn, i', k', q', ?_, g1, g2, g3⟩))
  ·intro x hx
   obtain ⟨_, i1, k1, q1, r1, rfl⟩ := run_row hx
   have := r1.pos
   show (q1 : Int) ≠ 0
   omega
  ·rw [getD_eq hn, en]
   rfl
theorem FnRuns_l0 (code w : List Int) (hw : w.length ≤ 64) (d : Nat) : ∀ n : Nat, n + d = (sruns rmk w).length → Ev (fun k => laws_FnRuns.l0 k code w (sruns rmk w) (sruns rmk w) (n : Int)) true := by
 have hl := sruns_length w
 induction d with
 | zero =>
  intro n h
  refine Ev_succ ?_
  simp only [laws_FnRuns.l0]
  exact Ev_neg (by omega) (Ev_call _ (spec_SquaresOf_ev w (by omega)) (FnRuns_l1 code w hw _ 0 (Nat.zero_add _)))
 | succ d ih =>
  intro n h
  refine Ev_succ ?_
  simp only [laws_FnRuns.l0]
  have hx : (sruns rmk w).getD n z32 ∈ sruns rmk w := by rw [getD_eq (by omega)]; exact List.getElem_mem _
  obtain ⟨_, i, k, q, r, e⟩ := run_row hx
  have i2 := ih (n + 1) (by omega)
  rw [show rd_T32 (sruns rmk w) (n : Int) = ⟨(i : Int), (k : Int), (q : Int)⟩ from e, wsucc (n := n) (by omega)]
  simp only []
  obtain ⟨v, hv, hL, hvl⟩ := run_root hw r
  have hrt := impl_RootOfRun_ev w (by omega) (i : Int) (k : Int) (q : Int)
  rw [hv] at hrt
  have his := impl_IsRun_ev w (by omega) (i : Int) (k : Int) (q : Int)
  rw [run_q hw r] at his
  obtain ⟨b, g1, g2⟩ := spec_IsLyndon_ev v (by omega)
  obtain ⟨s, s1, s2⟩ := sir_run (i := i) (k := k) (q := q) r.pos r.twice (by have := r.le; omega)
  exact Ev_pos (by omega) (Ev_pos (by omega) (Ev_pos (by omega) (Ev_call _ hrt (Ev_neg (by simp) (Ev_call _ his (Ev_pos rfl (Ev_pos rfl (Ev_call _ g1 (Ev_pos (g2.2 ((lyn_iff v).1 hL)) (Ev_call _ (Ev_const s1) (Ev_neg (by omega) i2)))))))))))
theorem FnRuns_word (code w : List Int) (hb : w.length ≤ 1048576) : Ev (fun k => laws_FnRuns.j0 k code w (sruns rmk w) (sruns rmk w) false) true := by
 refine Ev_succ ?_
 simp only [laws_FnRuns.j0]
 refine Ev_neg (by simp) ?_
 by_cases hw : w.length ≤ 64
 ·exact FnRuns_l0 code w hw _ 0 (Nat.zero_add _)
 ·have e1 : sruns rmk w = [] := by unfold sruns; rw [if_pos (by omega)]
  have e2 : sqs w = [] := by unfold sqs; rw [if_pos (by omega)]
  have hq := spec_SquaresOf_ev w hb
  rw [e2] at hq
  rw [e1]
  refine Ev_succ ?_
  simp only [laws_FnRuns.l0]
  exact Ev_neg (by simp) (Ev_call _ hq (FnRuns_last code _ _))
theorem FnRuns : laws_FnRuns.Pure := by
 refine ⟨fun u hu => ?_, ?_⟩
 ·refine ⟨sruns rmk u, spec_RunsOf_ev u (by omega), by have := sruns_length u; omega, fun x hx => ?_⟩
  obtain ⟨h64, i, k, q, r, rfl⟩ := run_row hx
  have h1 := r.lt
  have h2 := r.le
  have h3 := r.twice
  simp only []
  omega
 intro l _ _ _
 refine Ev.rounds ?_
 unfold laws_FnRuns.f
 have hbig : ∃ b, laws_big.f l = some b := ⟨_, rfl⟩
 obtain ⟨b, hb⟩ := hbig
 simp only [hb, Option.bind_some]
 refine Ev_ite (fun _ => Ev.now _) (fun h => Ev_const (draw_in ?_))
 intro w hw
 have hw : w.length ≤ 1001 := hw
 refine Ev.rounds ?_
 obtain ⟨r, r1, r2⟩ := exps_loop (sruns rmk w) (sruns_length w) (sruns_pos w) _ 0 (Nat.zero_add _) 0
 have h1 : Ev (fun k => spec_RunExponents.f k w) r := by
  unfold spec_RunExponents.f
  exact Ev_call _ (spec_RunsOf_ev w (by omega)) r1
 have h2 : Ev (fun k => impl_RunExponents.f k w) r := by
  unfold impl_RunExponents.f
  exact Ev_call _ (impl_RunsOf_ev w (by omega)) r2
 have h3 : Ev (fun k => impl_CountRuns.f k w) ((sruns rmk w).length : Int) := by
  unfold impl_CountRuns.f
  exact Ev_call _ (impl_RunsOf_ev w (by omega)) (Ev.now _)
 have hj := FnRuns_word l w (by omega)
 refine Ev_call _ (impl_RunsOf_ev w (by omega)) (Ev_call _ (spec_RunsOf_ev w (by omega)) (Ev_pos rfl (Ev_call _ h3 (Ev_pos rfl (Ev_call _ h2 (Ev_call _ h1 (Ev_pos rfl (Ev_ite (fun h0 => ?_) (fun _ => hj)))))))))
 have hlt := runs_lt (mk := rmk) (key := runKey) rmk_key w (by omega)
 rw [decide_eq_false (by omega)]
 exact hj
end Go.Proofs.YtolikggioekalabGreat.Pure
