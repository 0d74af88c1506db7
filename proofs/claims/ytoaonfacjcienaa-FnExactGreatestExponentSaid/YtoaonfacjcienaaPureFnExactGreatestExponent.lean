/- The pure statement of FnExactGreatestExponent: at every list the law's answer is true. -/
import Derived.Test.YtoaonfacjcienaaPFnExactGreatestExponentx2
import Derived.Test.YtoaonfacjcienaaG0
import Derived.Test.YtoaonfacjcienaaGSized
import Derived.Test.YtoaonfacjcienaaG8
import Derived.Test.YtoaonfacjcienaaG2
import Derived.Test.YtoaonfacjcienaaG7
namespace Go.Proofs.Ytoaonfacjcienaa.Pure
open Go.RowKit Go.Proofs.Ytoaonfacjcienaa.PFnExactGreatestExponent Go.Proofs.YtoaonfacjcienaaW.PrintWords Go.Proofs.YtoaonfacjcienaaW.PrintLast Go.Proofs.YtoaonfacjcienaaW.PrintMore Go.Proofs.Ytoaonfacjcienaa.G
set_option linter.unusedVariables false
set_option linter.unusedSimpArgs false

/-! ### laws_toIntS -/
theorem laws_toIntS_loop (l : List Int) (hb : l.length ≤ 17592186044416) (d : Nat) : ∀ (n : Nat) (acc : List Int), acc.length = l.length → n ≤ l.length → l.length - n = d → acc.take n = l.take n →
    Ev (fun k => laws_toIntS.l0 k l acc (n : Int)) l := by
  induction d with
  | zero =>
    intro n acc h0 h1 h2 h3
    refine Ev_succ ?_
    simp only [laws_toIntS.l0]
    refine Ev_neg (by omega) (Ev_some ?_)
    have : n = l.length := by omega
    subst this
    rw [List.take_length, ← h0, List.take_length] at h3
    exact h3
  | succ d ih =>
    intro n acc h0 h1 h2 h3
    refine Ev_succ ?_
    simp only [laws_toIntS.l0]
    refine Ev_pos (by omega) (Ev_pos (by omega) (Ev_pos (by omega) ?_))
    rw [rd_cast, wsucc (by omega), Int.toNat_natCast]
    refine ih (n + 1) _ (by simpa using h0) (by omega) (by omega) ?_
    rw [set_take_succ acc n _ (by omega), take_succ_getD l n 0 (by omega), h3]

theorem laws_toIntS_ev (l : List Int) (hb : l.length ≤ 17592186044416) : Ev (fun k => laws_toIntS.f k l) l := by
  unfold laws_toIntS.f
  refine Ev_pos (by omega) (Ev_pos (by omega) ?_)
  exact laws_toIntS_loop l hb _ 0 _ (by simp) (by omega) rfl (by simp)

/-! ### laws_eqIntS -/
theorem laws_eqIntS_loop (a b : List Int) (hl : a.length = b.length) (hb : a.length ≤ 17592186044416) (d : Nat) : ∀ n : Nat, n ≤ a.length → a.length - n = d → a.take n = b.take n →
    Ev (fun k => laws_eqIntS.l0 k a b (n : Int)) (decide (a = b)) := by
  induction d with
  | zero =>
    intro n h1 h2 h3
    refine Ev_succ ?_
    simp only [laws_eqIntS.l0]
    refine Ev_neg (by omega) (Ev_some ?_)
    have : n = a.length := by omega
    subst this
    rw [List.take_length, hl, List.take_length] at h3
    simp [h3]
  | succ d ih =>
    intro n h1 h2 h3
    refine Ev_succ ?_
    simp only [laws_eqIntS.l0]
    refine Ev_pos (by omega) (Ev_pos (by omega) (Ev_pos (by omega) ?_))
    rw [rd_cast, rd_cast, wsucc (by omega)]
    refine Ev_ite (fun h => ?_) (fun h => Ev_some ?_)
    · refine ih (n + 1) (by omega) (by omega) ?_
      rw [take_succ_getD a n 0 (by omega), take_succ_getD b n 0 (by omega), h3, h]
    · symm
      rw [decide_eq_false_iff_not]
      intro e
      exact h (by rw [e])

theorem laws_eqIntS_ev (a b : List Int) (hb : a.length ≤ 17592186044416) : Ev (fun k => laws_eqIntS.f k a b) (decide (a = b)) := by
  unfold laws_eqIntS.f
  refine Ev_ite (fun h => ?_) (fun h => Ev_some ?_)
  · exact laws_eqIntS_loop a b (by omega) hb _ 0 (by omega) rfl (by simp)
  · symm
    rw [decide_eq_false_iff_not]
    intro e
    exact h (by rw [e])

/-! ### spec_l10Match -/
theorem spec_l10Match_loop (w : List Int) (hb : w.length ≤ 1048576) (a p : Nat) (d : Nat) : ∀ c : Nat, Rep w p a c → w.length - (a + p + c) = d →
    ∃ C : Nat, RepMax w p a C ∧ Ev (fun k => spec_l10Match.l0 k w (a : Int) (p : Int) ((p + c : Nat) : Int)) ((C + p : Nat) : Int) := by
  induction d with
  | zero =>
    intro c h hd
    have h1 := h.1
    refine ⟨c, ⟨h, fun c' h' => by have := h'.1; omega⟩, Ev_succ ?_⟩
    simp only [spec_l10Match.l0]
    rw [wnat (x := (a : Int) + ((p + c : Nat) : Int)) (a + (p + c)) (by omega) (by omega), w64 (n := (w.length : Int) - a) (by omega) (by omega), mn_eq]
    exact Ev_neg (by omega) (Ev_some (by omega))
  | succ d ih =>
    intro c h hd
    have h1 := h.1
    by_cases e : w.getD (a + c) 0 = w.getD (a + c + p) 0
    · obtain ⟨C, hC, hev⟩ := ih (c + 1) (h.more (by omega) e) (by omega)
      refine ⟨C, hC, Ev_succ ?_⟩
      simp only [spec_l10Match.l0]
      rw [wnat (x := (a : Int) + ((p + c : Nat) : Int)) (a + (p + c)) (by omega) (by omega), wnat (x := ((a + (p + c) : Nat) : Int) - p) (a + c) (by omega) (by omega), rd_cast, rd_cast, wsucc (by omega)]
      refine Ev_pos (by omega) (Ev_pos (by omega) (Ev_pos (by omega) (Ev_pos (by omega) (Ev_pos ?_ hev))))
      rw [e]; congr 1; omega
    · refine ⟨c, ⟨h, fun c' h' => ?_⟩, Ev_succ ?_⟩
      · apply Nat.le_of_not_lt
        intro hlt
        exact e (h'.2 c hlt)
      · simp only [spec_l10Match.l0]
        rw [wnat (x := (a : Int) + ((p + c : Nat) : Int)) (a + (p + c)) (by omega) (by omega), wnat (x := ((a + (p + c) : Nat) : Int) - p) (a + c) (by omega) (by omega), w64 (n := (w.length : Int) - a) (by omega) (by omega), mn_eq, rd_cast, rd_cast]
        refine Ev_pos (by omega) (Ev_pos (by omega) (Ev_pos (by omega) (Ev_pos (by omega) (Ev_neg ?_ (Ev_some (by omega))))))
        rw [show a + (p + c) = a + c + p by omega]
        exact fun x => e x.symm

theorem spec_l10Match_ev (w : List Int) (hb : w.length ≤ 1048576) (a p : Nat) (h : a + p ≤ w.length) :
    ∃ C : Nat, RepMax w p a C ∧ Ev (fun k => spec_l10Match.f k w (a : Int) (p : Int)) ((C + p : Nat) : Int) := by
  unfold spec_l10Match.f
  exact spec_l10Match_loop w hb a p _ 0 ⟨by omega, fun j hj => by omega⟩ rfl

/-! ### spec_l10Gcd -/
theorem spec_l10Gcd_ev : ∀ b a : Nat, Ev (fun k => spec_l10Gcd.f k (a : Int) (b : Int)) ((Nat.gcd a b : Nat) : Int) := by
  intro b
  unfold spec_l10Gcd.f
  induction b using Nat.strongRecOn with
  | _ b ih =>
    intro a
    refine Ev_succ ?_
    simp only [spec_l10Gcd.l0]
    by_cases h : b = 0
    · subst h
      exact Ev_neg (by omega) (Ev_some (by rw [Nat.gcd_zero_right]))
    · refine Ev_pos (by omega) (Ev_neg (by omega) ?_)
      rw [tmod_nat, gcd_step a b h]
      exact ih _ (Nat.mod_lt _ (by omega)) b

/-! ### spec_GreatestExponent -/
def SpGE (w : List Int) (a p N D : Nat) : Prop :=
  (D = 0 → N = 0 ∧ a = 0 ∧ p = 1) ∧ (1 ≤ D → RatIn w N D ∧ ∀ q a' c, 1 ≤ q → (a' < a ∨ (a' = a ∧ q < p)) → Rep w q a' c → (c + q) * D ≤ N * q)

def spOut (N D : Nat) : Int × Int := (((N / Nat.gcd N D : Nat) : Int), ((D / Nat.gcd N D : Nat) : Int))

theorem spec_GreatestExponent_l1 (w : List Int) (hb : w.length ≤ 128) (a : Nat) (ha : a < w.length)
    (hx : ∀ N D, SpGE w (a + 1) 1 N D → ∃ N' D' : Nat, RatMax w N' D' ∧ Ev (fun k => spec_GreatestExponent.l0 k w (N : Int) (D : Int) ((a + 1 : Nat) : Int)) (spOut N' D')) (d : Nat) :
    ∀ p N D : Nat, 1 ≤ p → p ≤ w.length + 1 → w.length < a + p + d → SpGE w a p N D →
    ∃ N' D' : Nat, RatMax w N' D' ∧ Ev (fun k => spec_GreatestExponent.l1 k w (N : Int) (D : Int) (a : Int) (p : Int)) (spOut N' D') := by
  induction d with
  | zero =>
    intro p N D hp hp2 hd hi
    obtain ⟨N', D', h1, h2⟩ := hx N D ⟨fun e => by have := hi.1 e; omega, fun hD => by
      obtain ⟨g1, g2⟩ := hi.2 hD
      refine ⟨g1, fun q a' c e1 e2 e3 => ?_⟩
      by_cases c1 : a' < a
      · exact g2 q a' c e1 (Or.inl c1) e3
      · have := e3.1
        exact g2 q a' c e1 (Or.inr ⟨by omega, by omega⟩) e3⟩
    refine ⟨N', D', h1, Ev_succ ?_⟩
    simp only [spec_GreatestExponent.l1]
    rw [w64 (n := (a : Int) + p) (by omega) (by omega), wsucc (n := a) (by omega)]
    exact Ev_neg (by omega) h2
  | succ d ih =>
    intro p N D hp hp2 hd hi
    by_cases hend : a + p ≤ w.length
    · obtain ⟨C, hC, hev⟩ := spec_l10Match_ev w (by omega) a p hend
      have hC1 := hC.1.1
      by_cases hD : D = 0
      · have h0 := hi.1 hD
        obtain ⟨N', D', h1, h2⟩ := ih (p + 1) (C + p) p (by omega) (by omega) (by omega) ⟨fun e => by omega, fun _ => ⟨⟨hp, a, C, hC.1, rfl⟩, fun q a' c e1 e2 e3 => by
          have : a' = a ∧ q = p := by omega
          obtain ⟨rfl, rfl⟩ := this
          exact Nat.mul_le_mul_right _ (by have := hC.2 c e3; omega)⟩⟩
        refine ⟨N', D', h1, Ev_succ ?_⟩
        simp only [spec_GreatestExponent.l1]
        rw [w64 (n := (a : Int) + p) (by omega) (by omega), wsucc (n := p) (by omega)]
        exact Ev_pos (by omega) (Ev_call _ hev (Ev_pos (by omega) h2))
      · obtain ⟨g1, g2⟩ := hi.2 (by omega)
        have hle := g1.le
        by_cases hlt : N * p < (C + p) * D
        · obtain ⟨N', D', h1, h2⟩ := ih (p + 1) (C + p) p (by omega) (by omega) (by omega) ⟨fun e => by omega, fun _ => ⟨⟨hp, a, C, hC.1, rfl⟩, fun q a' c e1 e2 e3 => by
            by_cases e : a' = a ∧ q = p
            · obtain ⟨rfl, rfl⟩ := e
              exact Nat.mul_le_mul_right _ (by have := hC.2 c e3; omega)
            · exact rat_up g1.1 hlt (g2 q a' c e1 (by omega) e3)⟩⟩
          refine ⟨N', D', h1, Ev_succ ?_⟩
          simp only [spec_GreatestExponent.l1]
          rw [w64 (n := (a : Int) + p) (by omega) (by omega), wsucc (n := p) (by omega)]
          refine Ev_pos (by omega) (Ev_call _ hev (Ev_neg (by omega) ?_))
          rw [wmul (C + p) D (by omega) (by omega), wmul N p (by omega) (by omega)]
          exact Ev_pos (Int.ofNat_lt.2 hlt) h2
        · obtain ⟨N', D', h1, h2⟩ := ih (p + 1) N D (by omega) (by omega) (by omega) ⟨fun e => absurd e hD, fun _ => ⟨g1, fun q a' c e1 e2 e3 => by
            by_cases e : a' = a ∧ q = p
            · obtain ⟨rfl, rfl⟩ := e
              have a1 : (c + q) * D ≤ (C + q) * D := Nat.mul_le_mul_right _ (by have := hC.2 c e3; omega)
              omega
            · exact g2 q a' c e1 (by omega) e3⟩⟩
          refine ⟨N', D', h1, Ev_succ ?_⟩
          simp only [spec_GreatestExponent.l1]
          rw [w64 (n := (a : Int) + p) (by omega) (by omega), wsucc (n := p) (by omega)]
          refine Ev_pos (by omega) (Ev_call _ hev (Ev_neg (by omega) ?_))
          rw [wmul (C + p) D (by omega) (by omega), wmul N p (by omega) (by omega)]
          exact Ev_neg (fun h => hlt (Int.ofNat_lt.1 h)) h2
    · obtain ⟨N', D', h1, h2⟩ := hx N D ⟨fun e => by have := hi.1 e; omega, fun hD => by
        obtain ⟨g1, g2⟩ := hi.2 hD
        refine ⟨g1, fun q a' c e1 e2 e3 => ?_⟩
        by_cases c1 : a' < a
        · exact g2 q a' c e1 (Or.inl c1) e3
        · have := e3.1
          exact g2 q a' c e1 (Or.inr ⟨by omega, by omega⟩) e3⟩
      refine ⟨N', D', h1, Ev_succ ?_⟩
      simp only [spec_GreatestExponent.l1]
      rw [w64 (n := (a : Int) + p) (by omega) (by omega), wsucc (n := a) (by omega)]
      exact Ev_neg (by omega) h2

theorem spec_GreatestExponent_l0 (w : List Int) (hb : w.length ≤ 128) (h1l : 1 ≤ w.length) (d : Nat) : ∀ a N D : Nat, a + d = w.length → SpGE w a 1 N D →
    ∃ N' D' : Nat, RatMax w N' D' ∧ Ev (fun k => spec_GreatestExponent.l0 k w (N : Int) (D : Int) (a : Int)) (spOut N' D') := by
  induction d with
  | zero =>
    intro a N D hd hi
    have hD : D ≠ 0 := fun e => by have := hi.1 e; omega
    obtain ⟨g1, g2⟩ := hi.2 (by omega)
    have hle := g1.le
    have hg : 0 < Nat.gcd N D := Nat.gcd_pos_of_pos_right _ (by omega)
    have l1 : N / Nat.gcd N D ≤ N := Nat.div_le_self _ _
    have l2 : D / Nat.gcd N D ≤ D := Nat.div_le_self _ _
    refine ⟨N, D, ⟨g1, fun q a' c e1 e2 => g2 q a' c e1 (Or.inl (by have := e2.1; omega)) e2⟩, Ev_succ ?_⟩
    simp only [spec_GreatestExponent.l0]
    refine Ev_neg (by omega) (Ev_succ ?_)
    simp only [spec_GreatestExponent.j1]
    refine Ev_neg (by simp) (Ev_neg (by omega) (Ev_call _ (spec_l10Gcd_ev D N) (Ev_neg (by omega) (Ev_some ?_))))
    rw [tdiv_nat, tdiv_nat, w64_le l1 (by omega), w64_le l2 (by omega)]
    rfl
  | succ d ih =>
    intro a N D hd hi
    have hlt : (a : Int) < (w.length : Int) := by omega
    have hle : decide ((w.length : Int) ≤ 128) = true := by simp; omega
    obtain ⟨N', D', h1, h2⟩ := spec_GreatestExponent_l1 w hb a (by omega) (fun N D => ih (a + 1) N D (by omega)) w.length 1 N D (by omega) (by omega) (by omega) hi
    refine ⟨N', D', h1, Ev_succ ?_⟩
    simp only [spec_GreatestExponent.l0]
    refine Ev_pos hlt (Ev_succ ?_)
    simp only [spec_GreatestExponent.j1]
    exact Ev_pos hle h2

theorem spec_GreatestExponent_ev (w : List Int) (hb : w.length ≤ 1048576) :
    (w.length = 0 ∨ 128 < w.length → Ev (fun k => spec_GreatestExponent.f k w) ((0 : Int), (0 : Int))) ∧
    (1 ≤ w.length → w.length ≤ 128 → ∃ N D : Nat, RatMax w N D ∧ Ev (fun k => spec_GreatestExponent.f k w) (spOut N D)) := by
  unfold spec_GreatestExponent.f
  constructor
  · rintro (h | h)
    · refine Ev_succ ?_
      simp only [spec_GreatestExponent.l0]
      refine Ev_neg (by omega) (Ev_succ ?_)
      simp only [spec_GreatestExponent.j1]
      exact Ev_neg (by simp) (Ev_pos (by simp) (Ev.now _))
    · refine Ev_succ ?_
      simp only [spec_GreatestExponent.l0]
      refine Ev_pos (by omega) (Ev_succ ?_)
      simp only [spec_GreatestExponent.j1]
      exact Ev_neg (by simp; omega) (Ev_pos (by simp) (Ev.now _))
  · intro h1 h2
    exact spec_GreatestExponent_l0 w h2 h1 _ 0 0 0 (Nat.zero_add _) ⟨fun _ => ⟨rfl, rfl, rfl⟩, fun h => by omega⟩

/-! ### impl_longestRepeat -/
theorem impl_longestRepeat_loop (w : List Int) (hb : w.length ≤ 1048576) (p : Nat) (d : Nat) : ∀ i best count : Nat, RepInv w p i best count → best ≤ i → w.length - (i + p) = d →
    ∃ B : Nat, RepBest w p B ∧ B + p ≤ w.length ∧ Ev (fun k => impl_longestRepeat.l0 k w (p : Int) (best : Int) (count : Int) (i : Int)) ((B + p : Nat) : Int) := by
  induction d with
  | zero =>
    intro i best count h hbi hd
    have h0 := h.1
    refine ⟨best, h.done (by omega), by omega, Ev_succ ?_⟩
    simp only [impl_longestRepeat.l0]
    rw [wnat (x := (i : Int) + p) (i + p) (by omega) (by omega), wnat (x := (best : Int) + p) (best + p) (by omega) (by omega)]
    exact Ev_neg (by omega) (Ev_some rfl)
  | succ d ih =>
    intro i best count h hbi hd
    have h0 := h.1
    have h3 := h.2.2.2.1
    by_cases e : w.getD i 0 = w.getD (i + p) 0
    · obtain ⟨B, hB, hl, hev⟩ := ih (i + 1) _ _ (h.yes (by omega) e) (by omega) (by omega)
      refine ⟨B, hB, hl, Ev_succ ?_⟩
      simp only [impl_longestRepeat.l0]
      rw [wnat (x := (i : Int) + p) (i + p) (by omega) (by omega), wsucc (n := count) (by omega), wsucc (n := i) (by omega), rd_cast, rd_cast, mx_eq]
      rw [show max (best : Int) ((count + 1 : Nat) : Int) = ((max best (count + 1) : Nat) : Int) by omega]
      exact Ev_pos (by omega) (Ev_pos (by omega) (Ev_pos (by omega) (Ev_pos (by omega) (Ev_pos e hev))))
    · obtain ⟨B, hB, hl, hev⟩ := ih (i + 1) _ _ (h.no (by omega) e) (by omega) (by omega)
      refine ⟨B, hB, hl, Ev_succ ?_⟩
      simp only [impl_longestRepeat.l0]
      rw [wnat (x := (i : Int) + p) (i + p) (by omega) (by omega), wsucc (n := i) (by omega), rd_cast, rd_cast]
      exact Ev_pos (by omega) (Ev_pos (by omega) (Ev_pos (by omega) (Ev_pos (by omega) (Ev_neg e hev))))

theorem impl_longestRepeat_ev (w : List Int) (hb : w.length ≤ 1048576) (p : Nat) (h : p ≤ w.length) :
    ∃ B : Nat, RepBest w p B ∧ B + p ≤ w.length ∧ Ev (fun k => impl_longestRepeat.f k w (p : Int)) ((B + p : Nat) : Int) := by
  unfold impl_longestRepeat.f
  exact impl_longestRepeat_loop w hb p _ 0 0 0 (RepInv.start h) (by omega) rfl

/-! ### impl_gcd -/
theorem impl_gcd_ev : ∀ b a : Nat, Ev (fun k => impl_gcd.f k (a : Int) (b : Int)) ((Nat.gcd a b : Nat) : Int) := by
  intro b
  unfold impl_gcd.f
  induction b using Nat.strongRecOn with
  | _ b ih =>
    intro a
    refine Ev_succ ?_
    simp only [impl_gcd.l0]
    by_cases h : b = 0
    · subst h
      exact Ev_pos (by omega) (Ev_some (by rw [Nat.gcd_zero_right]))
    · refine Ev_neg (by omega) ?_
      rw [tmod_nat, gcd_step a b h]
      exact ih _ (Nat.mod_lt _ (by omega)) b

/-! ### impl_lowest -/
theorem impl_lowest_ev (a b : Nat) (ha : a ≤ 1048576) (hb : b ≤ 1048576) (h : 0 < b) : Ev (fun k => impl_lowest.f k (a : Int) (b : Int)) (((a / Nat.gcd a b : Nat) : Int), ((b / Nat.gcd a b : Nat) : Int)) := by
  unfold impl_lowest.f
  have hg : 0 < Nat.gcd a b := Nat.gcd_pos_of_pos_right _ h
  have h1 : a / Nat.gcd a b ≤ a := Nat.div_le_self _ _
  have h2 : b / Nat.gcd a b ≤ b := Nat.div_le_self _ _
  refine Ev_call _ (impl_gcd_ev b a) (Ev_neg (by omega) (Ev_some ?_))
  rw [tdiv_nat, tdiv_nat, w64_le h1 ha, w64_le h2 hb]

/-! ### impl_GreatestExponent -/
theorem impl_GreatestExponent_loop (w : List Int) (hb : w.length ≤ 128) (d : Nat) : ∀ p N D : Nat, 1 ≤ p → p + d = w.length + 1 → RatIn w N D → (∀ q a c, 1 ≤ q → q < p → Rep w q a c → (c + q) * D ≤ N * q) →
    ∃ N' D' : Nat, RatMax w N' D' ∧ Ev (fun k => impl_GreatestExponent.l0 k w (N : Int) (D : Int) (p : Int)) (((N' / Nat.gcd N' D' : Nat) : Int), ((D' / Nat.gcd N' D' : Nat) : Int)) := by
  induction d with
  | zero =>
    intro p N D hp hd hi hm
    have hle := hi.le
    refine ⟨N, D, ⟨hi, fun q a c h1 h2 => hm q a c h1 (by have := h2.1; omega) h2⟩, Ev_succ ?_⟩
    simp only [impl_GreatestExponent.l0]
    exact Ev_neg (by omega) (Ev_call _ (impl_lowest_ev N D (by omega) (by omega) hi.1) (Ev.now _))
  | succ d ih =>
    intro p N D hp hd hi hm
    have hle := hi.le
    obtain ⟨B, hB, hl, hev⟩ := impl_longestRepeat_ev w (by omega) p (by omega)
    by_cases hlt : N * p < (B + p) * D
    · have hnew : RatIn w (B + p) p := ⟨hp, by obtain ⟨a, ha⟩ := hB.1; exact ⟨a, B, ha, rfl⟩⟩
      obtain ⟨N', D', h1, h2⟩ := ih (p + 1) (B + p) p (by omega) (by omega) hnew (fun q a c g1 g2 g3 => by
        by_cases e : q = p
        · subst e
          exact Nat.mul_le_mul_right _ (by have := hB.2 a c g3; omega)
        · exact rat_up hi.1 hlt (hm q a c g1 (by omega) g3))
      refine ⟨N', D', h1, Ev_succ ?_⟩
      simp only [impl_GreatestExponent.l0]
      refine Ev_pos (by omega) (Ev_call _ hev ?_)
      rw [wmul (B + p) D (by omega) (by omega), wmul N p (by omega) (by omega), wsucc (n := p) (by omega)]
      exact Ev_pos (Int.ofNat_lt.2 hlt) h2
    · obtain ⟨N', D', h1, h2⟩ := ih (p + 1) N D (by omega) (by omega) hi (fun q a c g1 g2 g3 => by
        by_cases e : q = p
        · subst e
          have a1 : (c + q) * D ≤ (B + q) * D := Nat.mul_le_mul_right _ (by have := hB.2 a c g3; omega)
          omega
        · exact hm q a c g1 (by omega) g3)
      refine ⟨N', D', h1, Ev_succ ?_⟩
      simp only [impl_GreatestExponent.l0]
      refine Ev_pos (by omega) (Ev_call _ hev ?_)
      rw [wmul (B + p) D (by omega) (by omega), wmul N p (by omega) (by omega), wsucc (n := p) (by omega)]
      exact Ev_neg (fun h => hlt (Int.ofNat_lt.1 h)) h2

theorem impl_GreatestExponent_ev (w : List Int) (hb : w.length ≤ 1048576) :
    (w.length = 0 ∨ 128 < w.length → Ev (fun k => impl_GreatestExponent.f k w) ((0 : Int), (0 : Int))) ∧
    (1 ≤ w.length → w.length ≤ 128 → ∃ N D : Nat, RatMax w N D ∧ Ev (fun k => impl_GreatestExponent.f k w) (((N / Nat.gcd N D : Nat) : Int), ((D / Nat.gcd N D : Nat) : Int))) := by
  unfold impl_GreatestExponent.f
  constructor
  · rintro (h | h)
    · refine Ev_pos (by omega) (Ev_succ ?_)
      simp only [impl_GreatestExponent.j0]
      exact Ev_pos (by simp) (Ev.now _)
    · refine Ev_neg (by omega) (Ev_succ ?_)
      simp only [impl_GreatestExponent.j0]
      exact Ev_pos (by simp; omega) (Ev.now _)
  · intro h1 h2
    obtain ⟨N, D, h3, h4⟩ := impl_GreatestExponent_loop w h2 w.length 1 1 1 (by omega) (by omega) ⟨by omega, 0, 0, ⟨by omega, fun j hj => by omega⟩, rfl⟩ (fun q a c g1 g2 => by omega)
    refine ⟨N, D, h3, Ev_neg (by omega) (Ev_succ ?_)⟩
    simp only [impl_GreatestExponent.j0]
    exact Ev_neg (by simp; omega) h4

theorem both_GreatestExponent (w : List Int) (hb : w.length ≤ 1048576) : ∃ r : Int × Int, Ev (fun k => spec_GreatestExponent.f k w) r ∧ Ev (fun k => impl_GreatestExponent.f k w) r := by
  by_cases h : 1 ≤ w.length ∧ w.length ≤ 128
  · obtain ⟨N, D, h1, h2⟩ := (spec_GreatestExponent_ev w hb).2 h.1 h.2
    obtain ⟨N', D', h3, h4⟩ := (impl_GreatestExponent_ev w hb).2 h.1 h.2
    obtain ⟨e1, e2⟩ := lowest_eq h1.1.1 h3.1.1 (h1.cross h3)
    refine ⟨_, h2, ?_⟩
    unfold spOut
    rw [e1, e2]
    exact h4
  · have h' : w.length = 0 ∨ 128 < w.length := by omega
    exact ⟨_, (spec_GreatestExponent_ev w hb).1 h', (impl_GreatestExponent_ev w hb).1 h'⟩

theorem FnExactGreatestExponent : laws_FnExactGreatestExponent.Pure := by
  intro l _ _ _
  refine Ev.rounds ?_
  unfold laws_FnExactGreatestExponent.f
  refine Ev_ite (fun _ => Ev.now _) (fun h => ?_)
  have hb : l.length ≤ 1048576 := by omega
  have t1 := laws_toIntS_ev l (by omega)
  obtain ⟨r, h1, h2⟩ := both_GreatestExponent l hb
  repeat (first
    | exact Ev.now _
    | (refine Ev_call _ (by with_reducible assumption) ?_; try dsimp only)
    | refine Ev_call _ (laws_eqIntS_ev _ _ (by omega)) ?_
    | (refine Ev_pos ?hc ?_; (case hc => first | with_reducible rfl | omega | (simp; done)))
    | (refine Ev_neg ?hc ?_; (case hc => first | omega | (simp; done)))
    | (refine Ev_succ ?_; simp only [laws_FnExactGreatestExponent.j0]))

end Go.Proofs.Ytoaonfacjcienaa.Pure
