/- The pure statement of FnExactMirrorWord: at every list the law's answer is true. -/
import Derived.Test.YtighhipoodijfaaPFnExactMirrorWordx2
import Derived.Test.YtighhipoodijfaaG0
import Derived.Test.YtighhipoodijfaaGSized
namespace Go.Proofs.Ytighhipoodijfaa.Pure
open Go.RowKit Go.Proofs.Ytighhipoodijfaa.PFnExactMirrorWord Go.Proofs.YtighhipoodijfaaW.PrintWords Go.Proofs.YtighhipoodijfaaW.PrintLast Go.Proofs.YtighhipoodijfaaW.PrintMore Go.Proofs.Ytighhipoodijfaa.G
set_option linter.unusedVariables false
set_option linter.unusedSimpArgs false

/-! ### laws_toIntS -/
theorem laws_toIntS_loop (l : List Int) (hb : l.length ≤ 17592186044416) (d : Nat) : ∀ (n : Nat) (acc : List Int), acc.length = l.length → n ≤ l.length → l.length - n = d → acc.take n = l.take n →
    Ev (fun k => laws_toIntS.l0 k l acc (n : Int)) l := by
  induction d with
  | zero =>
    intro n acc h0 h1 h2 h3
    refine Ev_succ ?_
    simp only [laws_toIntS.l0]
    refine Ev_neg (by omega) (Ev_some ?_)
    have : n = l.length := by omega
    subst this
    rw [List.take_length, ← h0, List.take_length] at h3
    exact h3
  | succ d ih =>
    intro n acc h0 h1 h2 h3
    refine Ev_succ ?_
    simp only [laws_toIntS.l0]
    refine Ev_pos (by omega) (Ev_pos (by omega) (Ev_pos (by omega) ?_))
    rw [rd_cast, wsucc (by omega), Int.toNat_natCast]
    refine ih (n + 1) _ (by simpa using h0) (by omega) (by omega) ?_
    rw [set_take_succ acc n _ (by omega), take_succ_getD l n 0 (by omega), h3]

theorem laws_toIntS_ev (l : List Int) (hb : l.length ≤ 17592186044416) : Ev (fun k => laws_toIntS.f k l) l := by
  unfold laws_toIntS.f
  refine Ev_pos (by omega) (Ev_pos (by omega) ?_)
  exact laws_toIntS_loop l hb _ 0 _ (by simp) (by omega) rfl (by simp)

/-! ### laws_eqIntS -/
theorem laws_eqIntS_loop (a b : List Int) (hl : a.length = b.length) (hb : a.length ≤ 17592186044416) (d : Nat) : ∀ n : Nat, n ≤ a.length → a.length - n = d → a.take n = b.take n →
    Ev (fun k => laws_eqIntS.l0 k a b (n : Int)) (decide (a = b)) := by
  induction d with
  | zero =>
    intro n h1 h2 h3
    refine Ev_succ ?_
    simp only [laws_eqIntS.l0]
    refine Ev_neg (by omega) (Ev_some ?_)
    have : n = a.length := by omega
    subst this
    rw [List.take_length, hl, List.take_length] at h3
    simp [h3]
  | succ d ih =>
    intro n h1 h2 h3
    refine Ev_succ ?_
    simp only [laws_eqIntS.l0]
    refine Ev_pos (by omega) (Ev_pos (by omega) (Ev_pos (by omega) ?_))
    rw [rd_cast, rd_cast, wsucc (by omega)]
    refine Ev_ite (fun h => ?_) (fun h => Ev_some ?_)
    · refine ih (n + 1) (by omega) (by omega) ?_
      rw [take_succ_getD a n 0 (by omega), take_succ_getD b n 0 (by omega), h3, h]
    · symm
      rw [decide_eq_false_iff_not]
      intro e
      exact h (by rw [e])

theorem laws_eqIntS_ev (a b : List Int) (hb : a.length ≤ 17592186044416) : Ev (fun k => laws_eqIntS.f k a b) (decide (a = b)) := by
  unfold laws_eqIntS.f
  refine Ev_ite (fun h => ?_) (fun h => Ev_some ?_)
  · exact laws_eqIntS_loop a b (by omega) hb _ 0 (by omega) rfl (by simp)
  · symm
    rw [decide_eq_false_iff_not]
    intro e
    exact h (by rw [e])

/-! ### laws_markIntS -/
theorem laws_markIntS_loop (L : Nat) (m : Int) (hm : 0 ≤ m) (hm2 : m ≤ 17592186044416) (hb : L ≤ 17592186044416) (d : Nat) : ∀ (n : Nat) (acc : List Int), acc.length = L → n ≤ L → L - n = d → acc.take n = iota m n →
    Ev (fun k => laws_markIntS.l0 k acc (m + n) (n : Int)) (m + L, iota m L) := by
  induction d with
  | zero =>
    intro n acc h0 h1 h2 h3
    refine Ev_succ ?_
    simp only [laws_markIntS.l0]
    refine Ev_neg (by omega) (Ev_some ?_)
    have : n = L := by omega
    subst this
    rw [← h3, ← h0, List.take_length]
  | succ d ih =>
    intro n acc h0 h1 h2 h3
    refine Ev_succ ?_
    simp only [laws_markIntS.l0]
    refine Ev_pos (by omega) (Ev_pos (by omega) ?_)
    rw [wsucc (by omega), Int.toNat_natCast, w64 (n := m + (n : Int) + 1) (by omega) (by omega)]
    have e : m + (n : Int) + 1 = m + ((n + 1 : Nat) : Int) := by omega
    rw [e]
    refine ih (n + 1) _ (by simpa using h0) (by omega) (by omega) ?_
    rw [set_take_succ acc n _ (by omega), h3, iota_succ]

theorem laws_markIntS_ev (l : List Int) (m : Int) (hm : 0 ≤ m) (hm2 : m ≤ 17592186044416) (hb : l.length ≤ 17592186044416) : Ev (fun k => laws_markIntS.f k l m) (m + l.length, iota m l.length) := by
  unfold laws_markIntS.f
  have := laws_markIntS_loop l.length m hm hm2 hb _ 0 l rfl (by omega) rfl (by simp [iota])
  simpa using this

/-! ### laws_heldIntS -/
theorem laws_heldIntS_loop (L : Nat) (m : Int) (hm : 0 ≤ m) (hm2 : m ≤ 17592186044416) (hb : L ≤ 17592186044416) (d : Nat) : ∀ (n : Nat), n ≤ L → L - n = d →
    Ev (fun k => laws_heldIntS.l0 k (iota m L) (m + n) (n : Int)) (m + L) := by
  induction d with
  | zero =>
    intro n h1 h2
    refine Ev_succ ?_
    simp only [laws_heldIntS.l0]
    refine Ev_neg (by rw [iota_length]; omega) (Ev_some ?_)
    omega
  | succ d ih =>
    intro n h1 h2
    refine Ev_succ ?_
    simp only [laws_heldIntS.l0]
    refine Ev_pos (by rw [iota_length]; omega) (Ev_pos (by omega) ?_)
    rw [rd_cast, iota_getD m L n (by omega)]
    refine Ev_pos rfl ?_
    rw [wsucc (by omega), w64 (n := m + (n : Int) + 1) (by omega) (by omega)]
    have e : m + (n : Int) + 1 = m + ((n + 1 : Nat) : Int) := by omega
    rw [e]
    exact ih (n + 1) (by omega) (by omega)

theorem laws_heldIntS_ev (L : Nat) (m : Int) (hm : 0 ≤ m) (hm2 : m ≤ 17592186044416) (hb : L ≤ 17592186044416) : Ev (fun k => laws_heldIntS.f k (iota m L) m) (m + L) := by
  unfold laws_heldIntS.f
  have := laws_heldIntS_loop L m hm hm2 hb _ 0 (by omega) rfl
  simpa using this

/-! ### spec_ReverseDigits -/
theorem spec_ReverseDigits_loop (l : List Int) (hb : l.length ≤ 1048576) : ∀ (n : Nat) (acc : List Int), n ≤ l.length → acc.length + n ≤ l.length →
    Ev (fun k => spec_ReverseDigits.l0 k l acc ((n : Int) - 1)) (acc ++ (l.take n).reverse) := by
  intro n
  induction n with
  | zero =>
    intro acc h1 h2
    refine Ev_succ ?_
    simp only [spec_ReverseDigits.l0]
    refine Ev_neg (by omega) (Ev_some ?_)
    simp
  | succ n ih =>
    intro acc h1 h2
    refine Ev_succ ?_
    simp only [spec_ReverseDigits.l0]
    have e : (((n + 1 : Nat) : Int) - 1) = (n : Int) := by omega
    rw [e]
    refine Ev_pos (by omega) (Ev_pos (by omega) (Ev_pos (by omega) (Ev_pos (by omega) ?_)))
    rw [rd_cast, w64 (by omega) (by omega)]
    refine Ev_eq (ih (acc ++ [l.getD n 0]) (by omega) (by simp; omega)) ?_
    rw [take_succ_getD l n 0 (by omega)]
    simp

theorem spec_ReverseDigits_ev (l : List Int) (hb : l.length ≤ 1048576) : Ev (fun k => spec_ReverseDigits.f k l) l.reverse := by
  unfold spec_ReverseDigits.f
  rw [w64 (by omega) (by omega)]
  refine Ev_eq (spec_ReverseDigits_loop l hb l.length [] (by omega) (by simp)) ?_
  simp

/-! ### spec_MirrorWord -/
theorem spec_MirrorWord_ev (l : List Int) (hb : l.length ≤ 1048576) : Ev (fun k => spec_MirrorWord.f k l) l.reverse := by
  unfold spec_MirrorWord.f
  exact Ev_call _ (spec_ReverseDigits_ev l hb) (Ev.now _)

/-! ### slices_Reverse_int_int -/
theorem slices_Reverse_int_int_loop (l : List Int) (hb : l.length ≤ 1048576) (d : Nat) : ∀ (n : Nat) (cur : List Int), cur.length = l.length → l.length ≤ 2 * n + d → 2 * n ≤ l.length →
    (∀ i, i < l.length → cur.getD i 0 = if i < n ∨ l.length ≤ i + n then l.getD (l.length - 1 - i) 0 else l.getD i 0) →
    Ev (fun k => slices_Reverse_int_int.l0 k cur (n : Int) ((l.length : Int) - 1 - n)) l.reverse := by
  induction d using Nat.strongRecOn with
  | _ d ih =>
    intro n cur h0 h1 h2 h3
    refine Ev_succ ?_
    simp only [slices_Reverse_int_int.l0]
    by_cases hlt : 2 * n + 1 < l.length
    · refine Ev_pos (by omega) (Ev_pos (by omega) (Ev_pos (by omega) (Ev_pos (by omega) (Ev_pos (by omega) ?_))))
      have e : (l.length : Int) - 1 - n = ((l.length - 1 - n : Nat) : Int) := by omega
      rw [wsucc (by omega), w64 (n := (l.length : Int) - 1 - n - 1) (by omega) (by omega), e, rd_cast, rd_cast, Int.toNat_natCast, Int.toNat_natCast]
      have e2 : ((l.length - 1 - n : Nat) : Int) - 1 = (l.length : Int) - 1 - ((n + 1 : Nat) : Int) := by omega
      rw [e2]
      refine ih (d - 2) (by omega) (n + 1) _ (by simpa using h0) (by omega) (by omega) ?_
      intro i hi
      rw [getD_set, getD_set, List.length_set, h3 n (by omega), h3 (l.length - 1 - n) (by omega)]
      by_cases c1 : l.length - 1 - n = i
      · subst c1
        rw [if_pos ⟨rfl, by omega⟩, if_neg (by omega), if_pos (by omega)]
        congr 1; omega
      · rw [if_neg (by omega)]
        by_cases c2 : n = i
        · subst c2
          rw [if_pos ⟨rfl, by omega⟩, if_neg (by omega), if_pos (by omega)]
        · rw [if_neg (by omega), h3 i hi]
          by_cases c3 : i < n ∨ l.length ≤ i + n
          · rw [if_pos c3, if_pos (by omega)]
          · rw [if_neg c3, if_neg (by omega)]
    · refine Ev_neg (by omega) (Ev_some ?_)
      apply ext_getD 0 (by simpa using h0)
      intro i hi
      rw [getD_reverse _ _ _ (by omega), h3 i (by omega)]
      split
      · rfl
      · congr 1; omega

theorem slices_Reverse_int_int_ev (l : List Int) (hb : l.length ≤ 1048576) : Ev (fun k => slices_Reverse_int_int.f k l) l.reverse := by
  unfold slices_Reverse_int_int.f
  rw [w64 (by omega) (by omega)]
  have := slices_Reverse_int_int_loop l hb l.length 0 l rfl (by omega) (by omega) (by intro i hi; rw [if_neg (by omega)])
  simpa using this

/-! ### impl_ReverseDigits -/
theorem impl_ReverseDigits_ev (l : List Int) (hb : l.length ≤ 1048576) : Ev (fun k => impl_ReverseDigits.f k l) l.reverse := by
  unfold impl_ReverseDigits.f
  simp only [Option.bind_some, List.nil_append, List.length_nil]
  exact Ev_pos (by omega) (Ev_call _ (slices_Reverse_int_int_ev l hb) (Ev.now _))

/-! ### impl_MirrorWord -/
theorem impl_MirrorWord_ev (l : List Int) (hb : l.length ≤ 1048576) : Ev (fun k => impl_MirrorWord.f k l) l.reverse := by
  unfold impl_MirrorWord.f
  exact Ev_call _ (impl_ReverseDigits_ev l hb) (Ev.now _)

theorem FnExactMirrorWord : laws_FnExactMirrorWord.Pure := by
  intro l _ _ _
  refine Ev.rounds ?_
  unfold laws_FnExactMirrorWord.f
  refine Ev_ite (fun _ => Ev.now _) (fun h => ?_)
  have hb : l.length ≤ 1048576 := by omega
  have hr : l.reverse.length = l.length := List.length_reverse
  refine Ev_call _ (laws_toIntS_ev l (by omega)) ?_
  refine Ev_call _ (spec_MirrorWord_ev l hb) ?_
  refine Ev_call _ (laws_toIntS_ev l (by omega)) ?_
  refine Ev_call _ (impl_MirrorWord_ev l hb) ?_
  refine Ev_call _ (laws_eqIntS_ev _ _ (by omega)) ?_
  refine Ev_pos (by simp) ?_
  refine Ev_call _ (laws_toIntS_ev l (by omega)) ?_
  refine Ev_call _ (laws_eqIntS_ev _ _ (by omega)) ?_
  refine Ev_pos (by simp) ?_
  refine Ev_call _ (laws_markIntS_ev _ 1 (by omega) (by omega) (by omega)) ?_
  refine Ev_neg (by simp only []; omega) ?_
  refine Ev_call _ (laws_eqIntS_ev _ _ (by omega)) ?_
  refine Ev_succ ?_
  simp only [laws_FnExactMirrorWord.j0]
  refine Ev_neg (by simp) ?_
  refine Ev_call _ (laws_markIntS_ev _ 1 (by omega) (by omega) (by omega)) ?_
  refine Ev_call _ (laws_heldIntS_ev _ 1 (by omega) (by omega) (by omega)) ?_
  refine Ev_neg (by omega) (Ev_pos rfl ?_)
  refine Ev_call _ (laws_toIntS_ev l (by omega)) ?_
  refine Ev_call _ (impl_MirrorWord_ev l hb) ?_
  refine Ev_call _ (laws_eqIntS_ev _ _ (by omega)) ?_
  refine Ev_pos (by simp) ?_
  refine Ev_call _ (laws_heldIntS_ev _ 1 (by omega) (by omega) (by omega)) ?_
  exact Ev_neg (by omega) (Ev_pos rfl (Ev.now _))

end Go.Proofs.Ytighhipoodijfaa.Pure
