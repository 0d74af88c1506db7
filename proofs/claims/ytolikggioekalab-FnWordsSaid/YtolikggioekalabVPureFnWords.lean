/- The pure statement of FnWords: whatever words are drawn, the law's answer is true. -/
import Derived.Test.YtolikggioekalabVMFnWordsx19
import Derived.Test.YtolikggioekalabVG0
import Derived.Test.YtolikggioekalabVGSized
import Derived.Test.YtolikggioekalabVGFollow
import Derived.Test.YtolikggioekalabVGPick
import Derived.Test.YtolikggioekalabVGMor
import Derived.Test.YtolikggioekalabVGShort
import Derived.Test.YtolikggioekalabVGSort
import Derived.Test.YtolikggioekalabVG5
import Derived.Test.YtolikggioekalabVG1
import Derived.Test.YtolikggioekalabVGRet
namespace Go.Proofs.Ytolikggioekalab.Pure
open Go.RowKit Go.Proofs.Ytolikggioekalab.PFnWords Go.Proofs.YtolikggioekalabW.PrintWords Go.Proofs.YtolikggioekalabW.PrintLast Go.Proofs.YtolikggioekalabW.PrintMore Go.Proofs.Ytolikggioekalab.G
set_option linter.unusedVariables false
set_option linter.unusedSimpArgs false

/-! ### laws_sameInts -/
theorem laws_sameInts_loop (a : List Int) (hb : a.length ≤ 17592186044416) (d : Nat) : ∀ n : Nat, n + d = a.length → Ev (fun k => laws_sameInts.l0 k a a (n : Int)) true := by
  induction d with
  | zero =>
    intro n h
    refine Ev_succ ?_
    simp only [laws_sameInts.l0]
    exact Ev_neg (by omega) (Ev.now _)
  | succ d ih =>
    intro n h
    refine Ev_succ ?_
    simp only [laws_sameInts.l0]
    rw [wsucc (n := n) (by omega)]
    exact Ev_pos (by omega) (Ev_pos (by omega) (Ev_pos (by omega) (Ev_pos (by simp) (ih (n + 1) (by omega)))))
theorem laws_sameInts_ev (a : List Int) (hb : a.length ≤ 17592186044416) : Ev (fun k => laws_sameInts.f k a a) true := by
  unfold laws_sameInts.f
  exact Ev_pos (by simp) (laws_sameInts_loop a hb _ 0 (Nat.zero_add _))

/-! ### laws_sameWords -/
theorem laws_sameWords_loop (a : List (List Int)) (hb : a.length ≤ 1048576) (hr : ∀ x ∈ a, x.length ≤ 1048576) (d : Nat) : ∀ n : Nat, n + d = a.length → Ev (fun k => laws_sameWords.l0 k a a (n : Int)) true := by
  induction d with
  | zero =>
    intro n h
    refine Ev_succ ?_
    simp only [laws_sameWords.l0]
    exact Ev_neg (by omega) (Ev.now _)
  | succ d ih =>
    intro n h
    refine Ev_succ ?_
    simp only [laws_sameWords.l0, rd_L1, Int.toNat_natCast]
    have hrow := hr (a.getD n []) (by rw [getD_eq (by omega)]; exact List.getElem_mem _)
    rw [wsucc (n := n) (by omega)]
    exact Ev_pos (by omega) (Ev_pos (by omega) (Ev_pos (by omega) (Ev_call _ (laws_sameInts_ev _ (by omega)) (Ev_pos rfl (ih (n + 1) (by omega))))))
theorem laws_sameWords_ev (a : List (List Int)) (hb : a.length ≤ 1048576) (hr : ∀ x ∈ a, x.length ≤ 1048576) : Ev (fun k => laws_sameWords.f k a a) true := by
  unfold laws_sameWords.f
  exact Ev_pos (by simp) (laws_sameWords_loop a hb hr _ 0 (Nat.zero_add _))

/-! ### spec_l1In -/
theorem spec_l1In_eq (x a b : Int) : spec_l1In.f x a b = some (decide (a ≤ x ∧ x ≤ b)) := by
  unfold spec_l1In.f
  by_cases h : x ≥ a
  · rw [if_pos h]; simp [h]
  · rw [if_neg h]; congr 1; symm; rw [decide_eq_false_iff_not]; omega

/-! ### spec_IsWord -/
theorem spec_IsWord_loop (w : List Int) (n : Nat) (hw : w.length ≤ 1048576) (hn : n ≤ 1048576) (d : Nat) : ∀ i : Nat, i + d = w.length →
    Ev (fun k => spec_IsWord.l0 k w (n : Int) (i : Int)) (decide (RowIn n (w.drop i) ∧ (1 ≤ n ∧ n ≤ 16) ∧ w.length ≤ 400)) := by
  induction d with
  | zero =>
    intro i h
    refine Ev_succ ?_
    simp only [spec_IsWord.l0]
    have e : w.drop i = [] := List.drop_of_length_le (by omega)
    rw [e]
    refine Ev_neg (by omega) ?_
    by_cases c : 1 ≤ n ∧ n ≤ 16
    · refine Ev_call true (Ev_const ?_) (Ev_pos rfl (Ev_some ?_))
      · unfold spec_l1In.f; rw [if_pos (by omega)]; congr 1; simp; omega
      · rw [decide_eq_decide]; constructor
        · exact fun h => ⟨by simp [RowIn], c, by omega⟩
        · exact fun h => by have := h.2.2; omega
    · refine Ev_call false (Ev_const ?_) (Ev_neg (by simp) (Ev_some ?_))
      · unfold spec_l1In.f
        by_cases c1 : (n : Int) ≥ 1
        · rw [if_pos c1]; congr 1; simp; omega
        · rw [if_neg c1]
      · symm; rw [decide_eq_false_iff_not]; exact fun h => c h.2.1
  | succ d ih =>
    intro i h
    refine Ev_succ ?_
    simp only [spec_IsWord.l0, rd_cast]
    rw [wsucc (n := i) (by omega), drop_cons w i 0 (by omega)]
    refine Ev_pos (by omega) (Ev_pos (by omega) ?_)
    refine Ev_ite (fun h1 => Ev_some ?_) (fun h1 => Ev_ite (fun h2 => Ev_some ?_) (fun h2 => Ev_eq (ih (i + 1) (by omega)) ?_))
    · symm; rw [decide_eq_false_iff_not]; intro e; have := e.1 _ List.mem_cons_self; omega
    · symm; rw [decide_eq_false_iff_not]; intro e; have := e.1 _ List.mem_cons_self; omega
    · rw [decide_eq_decide]
      constructor
      · rintro ⟨e, e2⟩
        refine ⟨fun v hv => ?_, e2⟩
        rcases List.mem_cons.1 hv with rfl | hv
        · exact ⟨by omega, by omega⟩
        · exact e v hv
      · exact fun ⟨e, e2⟩ => ⟨fun v hv => e v (List.mem_cons_of_mem _ hv), e2⟩

theorem spec_IsWord_ev (w : List Int) (n : Nat) (hw : w.length ≤ 1048576) (hn : n ≤ 1048576) : Ev (fun k => spec_IsWord.f k w (n : Int)) (okWord w n) := by
  unfold spec_IsWord.f okWord
  have := spec_IsWord_loop w n hw hn w.length 0 (by omega)
  rwa [List.drop_zero] at this

/-! ### impl_areLetters -/
theorem impl_areLetters_loop (w : List Int) (n : Nat) (hw : w.length ≤ 1048576) (d : Nat) : ∀ i : Nat, i + d = w.length →
    Ev (fun k => impl_areLetters.l0 k (n : Int) w (w.length : Int) (i : Int)) (decide (RowIn n (w.drop i))) := by
  induction d with
  | zero =>
    intro i h
    refine Ev_succ ?_
    simp only [impl_areLetters.l0]
    have e : w.drop i = [] := List.drop_of_length_le (by omega)
    rw [e]
    exact Ev_neg (by omega) (Ev_some (by simp [RowIn]))
  | succ d ih =>
    intro i h
    refine Ev_succ ?_
    simp only [impl_areLetters.l0, rd_cast]
    rw [wsucc (n := i) (by omega), drop_cons w i 0 (by omega)]
    refine Ev_pos (by omega) (Ev_pos (by omega) (Ev_pos (by omega) ?_))
    refine Ev_ite (fun h1 => Ev_some ?_) (fun h1 => Ev_ite (fun h2 => Ev_some ?_) (fun h2 => Ev_eq (ih (i + 1) (by omega)) ?_))
    · symm; rw [decide_eq_false_iff_not]; intro e; have := e _ List.mem_cons_self; omega
    · symm; rw [decide_eq_false_iff_not]; intro e; have := e _ List.mem_cons_self; omega
    · rw [decide_eq_decide]
      constructor
      · intro e v hv
        rcases List.mem_cons.1 hv with rfl | hv
        · exact ⟨by omega, by omega⟩
        · exact e v hv
      · exact fun e v hv => e v (List.mem_cons_of_mem _ hv)

theorem impl_areLetters_ev (w : List Int) (n : Nat) (hw : w.length ≤ 1048576) : Ev (fun k => impl_areLetters.f k w (n : Int)) (decide (RowIn n w)) := by
  unfold impl_areLetters.f
  have := impl_areLetters_loop w n hw w.length 0 (by omega)
  rwa [List.drop_zero] at this

/-! ### impl_IsWord -/
theorem impl_IsWord_ev (w : List Int) (n : Nat) (hw : w.length ≤ 1048576) : Ev (fun k => impl_IsWord.f k w (n : Int)) (okWord w n) := by
  unfold impl_IsWord.f okWord
  have no : ¬ ((1 ≤ n ∧ n ≤ 16) ∧ w.length ≤ 400) → Ev (fun _ => some false) (decide (RowIn n w ∧ (1 ≤ n ∧ n ≤ 16) ∧ w.length ≤ 400)) := fun h => Ev_some (by symm; rw [decide_eq_false_iff_not]; exact fun e => h e.2)
  refine Ev_ite (fun h1 => Ev_ite (fun h2 => Ev_ite (fun h3 => ?_) (fun h => no (by omega))) (fun h => no (by omega))) (fun h => no (by omega))
  refine Ev_call _ (impl_areLetters_ev w n hw) (Ev_some ?_)
  rw [decide_eq_decide]
  exact ⟨fun e => ⟨e, by omega, by omega⟩, fun e => e.1⟩

/-! ### words_format -/
/-! A word written out, and read back. -/
theorem bloop_eq (b : ByteArray) (d : Nat) : ∀ (i : Nat) (r : List UInt8), i + d = b.size → ByteArray.toList.loop b i r = r.reverse ++ b.data.toList.drop i := by
  induction d with
  | zero =>
    intro i r h
    rw [ByteArray.toList.loop, if_neg (by omega), List.drop_eq_nil_of_le (by rw [Array.length_toList]; show b.size ≤ i; omega), List.append_nil]
  | succ d ih =>
    intro i r h
    have hi : i < b.data.toList.length := by rw [Array.length_toList]; show i < b.size; omega
    rw [ByteArray.toList.loop, if_pos (by omega), ih (i + 1) _ (by omega), List.drop_eq_getElem_cons hi, List.reverse_cons, List.append_assoc]
    congr 1
    rw [List.singleton_append]
    congr 1
    show b.data[i]! = _
    rw [getElem!_pos b.data i (show i < b.data.size by show i < b.size; omega), Array.getElem_toList]
theorem toList_data (b : ByteArray) : b.toList = b.data.toList := by
  rw [ByteArray.toList, bloop_eq b b.size 0 [] (by omega)]; simp
def DG : List UInt8 := [48, 49, 50, 51, 52, 53, 54, 55, 56, 57, 97, 98, 99, 100, 101, 102]
def dig (x : Int) : UInt8 := DG.getD x.toNat 0
def fmtD (w : List Int) : ByteArray := ⟨(w.map dig).toArray⟩
def fmtW (w : List Int) : ByteArray := if okWord w 16 = true then (if w.length = 0 then ⟨#[101, 109, 112, 116, 121]⟩ else fmtD w) else ⟨#[]⟩
def LT (b : UInt8) : Int := if 48 ≤ b.toNat ∧ b.toNat ≤ 57 then (b.toNat : Int) - 48 else if 97 ≤ b.toNat ∧ b.toNat ≤ 102 then (b.toNat : Int) - 87 else -1
theorem digits_ok : ∀ x : Fin 16, (⟨#[48, 49, 50, 51, 52, 53, 54, 55, 56, 57, 97, 98, 99, 100, 101, 102]⟩ : ByteArray).extract x.val (x.val + 1) = ⟨#[DG.getD x.val 0]⟩ := by decide +kernel
theorem bt_ok : ∀ x : Fin 16, bt (⟨#[48, 49, 50, 51, 52, 53, 54, 55, 56, 57, 97, 98, 99, 100, 101, 102]⟩ : ByteArray) (x.val : Int) = ((DG.getD x.val 0).toNat : Int) := by decide +kernel
theorem lt_ok : ∀ x : Fin 16, LT (DG.getD x.val 0) = (x.val : Int) := by decide +kernel
theorem dig_ok : ∀ x : Fin 16, DG.getD x.val 0 ≠ 109 := by decide +kernel
theorem back_ok : ∀ b : Fin 256, 0 ≤ LT (UInt8.ofNat b.val) → LT (UInt8.ofNat b.val) < 16 ∧ DG.getD (LT (UInt8.ofNat b.val)).toNat 0 = UInt8.ofNat b.val := by decide +kernel
theorem lt_dig {x : Int} (h : 0 ≤ x ∧ x < 16) : LT (dig x) = x := by
  have := lt_ok ⟨x.toNat, by omega⟩
  unfold dig
  simp only [] at this
  omega
theorem dig_lt {b : UInt8} (h : 0 ≤ LT b) : (0 ≤ LT b ∧ LT b < 16) ∧ dig (LT b) = b := by
  have hb : UInt8.ofNat b.toNat = b := UInt8.ofNat_toNat
  have := back_ok ⟨b.toNat, b.toNat_lt⟩
  simp only [] at this
  rw [hb] at this
  exact ⟨⟨h, (this h).1⟩, (this h).2⟩
theorem bytes_app (a b : List UInt8) : (⟨a.toArray⟩ : ByteArray) ++ ⟨b.toArray⟩ = ⟨(a ++ b).toArray⟩ := by
  apply ByteArray.ext
  simp
theorem okW_iff {w : List Int} {n : Nat} : okWord w n = true ↔ RowIn n w ∧ (1 ≤ n ∧ n ≤ 16) ∧ w.length ≤ 400 := by unfold okWord; rw [decide_eq_true_eq]
theorem fmt_nums (w : List Int) : strOfNums (w.map fun x => ((dig x).toNat : Int)) = fmtD w := by
  unfold strOfNums fmtD
  rw [List.map_map]
  congr 2
  refine List.map_congr_left (fun x _ => ?_)
  simp only [Function.comp_apply, Int.toNat_natCast]
  exact UInt8.ofNat_toNat
theorem impl_spelled_loop (w : List Int) (hw : RowIn 16 w) (hl : w.length ≤ 400) (d : Nat) : ∀ n : Nat, n + d = w.length →
    Ev (fun k => impl_spelled.l0 k ((w.take n).map fun x => ((dig x).toNat : Int)) w (w.length : Int) (n : Int)) (fmtD w) := by
  induction d with
  | zero =>
    intro n h
    refine Ev_succ ?_
    simp only [impl_spelled.l0]
    rw [show n = w.length by omega, List.take_length]
    exact Ev_neg (by omega) (Ev_some (fmt_nums w))
  | succ d ih =>
    intro n h
    refine Ev_succ ?_
    simp only [impl_spelled.l0, rd_cast]
    have hx := hw (w.getD n 0) (by rw [getD_eq (by omega)]; exact List.getElem_mem _)
    have i := ih (n + 1) (by omega)
    rw [take_succ_getD w n 0 (by omega), List.map_append, List.map_singleton] at i
    have hb := bt_ok ⟨(w.getD n 0).toNat, by omega⟩
    simp only [] at hb
    rw [show (((w.getD n 0).toNat : Nat) : Int) = w.getD n 0 by omega] at hb
    rw [hb, wsucc (n := n) (by omega)]
    exact Ev_pos (by omega) (Ev_pos (by omega) (Ev_pos (by omega) (Ev_pos (by omega) (Ev_pos (by omega) (Ev_pos (by rw [List.length_map, List.length_take]; omega) i)))))
theorem spec_l3Digits_loop (w : List Int) (hw : RowIn 16 w) (hl : w.length ≤ 400) (d : Nat) : ∀ n : Nat, n + d = w.length →
    Ev (fun k => spec_l3Digits.l0 k w ⟨((w.take n).map dig).toArray⟩ (⟨#[48, 49, 50, 51, 52, 53, 54, 55, 56, 57, 97, 98, 99, 100, 101, 102]⟩ : ByteArray) (n : Int)) (fmtD w) := by
  induction d with
  | zero =>
    intro n h
    refine Ev_succ ?_
    simp only [spec_l3Digits.l0]
    rw [show n = w.length by omega, List.take_length]
    exact Ev_neg (by omega) (Ev.now _)
  | succ d ih =>
    intro n h
    refine Ev_succ ?_
    simp only [spec_l3Digits.l0, rd_cast]
    have hx := hw (w.getD n 0) (by rw [getD_eq (by omega)]; exact List.getElem_mem _)
    have i := ih (n + 1) (by omega)
    rw [take_succ_getD w n 0 (by omega), List.map_append, List.map_singleton, ← bytes_app] at i
    have hb := digits_ok ⟨(w.getD n 0).toNat, by omega⟩
    simp only [] at hb
    have hw2 : wrap64 (w.getD n 0 + 1) = w.getD n 0 + 1 := w64 (by omega) (by omega)
    simp only [hw2, show (w.getD n 0 + 1).toNat = (w.getD n 0).toNat + 1 by omega, hb, wsucc (n := n) (by omega)]
    have hs : (⟨((w.take n).map dig).toArray⟩ : ByteArray).size ≤ 400 := by
      show ((w.take n).map dig).toArray.size ≤ 400
      rw [List.size_toArray, List.length_map, List.length_take]
      omega
    have hs2 : (⟨#[DG.getD (w.getD n 0).toNat 0]⟩ : ByteArray).size = 1 := rfl
    have hs3 : (⟨#[48, 49, 50, 51, 52, 53, 54, 55, 56, 57, 97, 98, 99, 100, 101, 102]⟩ : ByteArray).size = 16 := rfl
    exact Ev_pos (by omega) (Ev_pos (by omega) (Ev_pos (by omega) (Ev_pos (by omega) (Ev_pos (by omega) (Ev_pos (by omega) i)))))
theorem impl_FormatWord_ev (w : List Int) (hb : w.length ≤ 1048576) : Ev (fun k => impl_FormatWord.f k w) (fmtW w) := by
  unfold impl_FormatWord.f fmtW
  refine Ev_call _ (impl_IsWord_ev w 16 hb) ?_
  by_cases c : okWord w 16 = true
  · rw [if_pos c]
    refine Ev_pos c ?_
    by_cases c2 : w.length = 0
    · rw [if_pos c2]; exact Ev_pos (by omega) (Ev.now _)
    · rw [if_neg c2]
      obtain ⟨h1, _, h2⟩ := okW_iff.1 c
      refine Ev_neg (by omega) (Ev_call _ ?_ (Ev.now _))
      unfold impl_spelled.f
      exact impl_spelled_loop w h1 h2 _ 0 (Nat.zero_add _)
  · rw [if_neg c]
    exact Ev_neg c (Ev.now _)
theorem spec_FormatWord_ev (w : List Int) (hb : w.length ≤ 1048576) : Ev (fun k => spec_FormatWord.f k w) (fmtW w) := by
  unfold spec_FormatWord.f fmtW
  refine Ev_call _ (spec_IsWord_ev w 16 hb (by omega)) ?_
  by_cases c : okWord w 16 = true
  · rw [if_pos c]
    refine Ev_pos c ?_
    by_cases c2 : w.length = 0
    · rw [if_pos c2]; exact Ev_pos (by omega) (Ev.now _)
    · rw [if_neg c2]
      obtain ⟨h1, _, h2⟩ := okW_iff.1 c
      refine Ev_neg (by omega) (Ev_call _ ?_ (Ev.now _))
      unfold spec_l3Digits.f
      exact spec_l3Digits_loop w h1 h2 _ 0 (Nat.zero_add _)
  · rw [if_neg c]
    exact Ev_neg c (Ev.now _)
theorem fmtW_size (w : List Int) : (fmtW w).size ≤ max 5 w.length := by
  unfold fmtW
  split
  · split
    · show (5 : Nat) ≤ _; omega
    · show ((w.map dig).toArray).size ≤ _
      rw [List.size_toArray, List.length_map]; omega
  · show (0 : Nat) ≤ _; omega
theorem letter_ev (b : UInt8) : Ev (fun k => spec_l3Letter.f k (b.toNat : Int)) (LT b) := by
  have hb := b.toNat_lt
  unfold spec_l3Letter.f
  by_cases c : 48 ≤ b.toNat
  · refine Ev_pos (by omega) (Ev_succ ?_)
    simp only [spec_l3Letter.j0]
    by_cases c2 : b.toNat ≤ 57
    · have e : LT b = (b.toNat : Int) - 48 := by unfold LT; rw [if_pos ⟨c, c2⟩]
      exact Ev_pos (by simp; omega) (Ev_some (by rw [e]; omega))
    · refine Ev_neg (by simp; omega) ?_
      by_cases c3 : 97 ≤ b.toNat
      · by_cases c4 : b.toNat ≤ 102
        · have e : LT b = (b.toNat : Int) - 87 := by unfold LT; rw [if_neg (by omega), if_pos ⟨c3, c4⟩]
          exact Ev_pos (by omega) (Ev_pos (by omega) (Ev_some (by rw [e]; omega)))
        · have e : LT b = -1 := by unfold LT; rw [if_neg (by omega), if_neg (by omega)]
          exact Ev_pos (by omega) (Ev_neg (by omega) (Ev_some e.symm))
      · have e : LT b = -1 := by unfold LT; rw [if_neg (by omega), if_neg (by omega)]
        exact Ev_neg (by omega) (Ev_some e.symm)
  · have e : LT b = -1 := by unfold LT; rw [if_neg (by omega), if_neg (by omega)]
    refine Ev_neg (by omega) (Ev_succ ?_)
    simp only [spec_l3Letter.j0]
    exact Ev_neg (by simp) (Ev_neg (by omega) (Ev_some e.symm))
theorem bt_get (s : ByteArray) (n : Nat) (h : n < s.size) : bt s (n : Int) = ((s.data.toList.getD n 0).toNat : Int) := by
  unfold bt
  rw [dif_pos (by rw [Int.toNat_natCast]; exact h)]
  rw [getD_eq (by rw [Array.length_toList]; exact h)]
  rfl
def okS (S : List UInt8) : Bool := S.all fun b => decide (0 ≤ LT b)
def parseW (s : ByteArray) : List Int × Bool := if s.data.toList = [101, 109, 112, 116, 121] then ([], true) else if okS s.data.toList = true ∧ s.data.toList ≠ [] then (s.data.toList.map LT, true) else ([], false)
theorem size_list (s : ByteArray) : s.data.toList.length = s.size := by rw [Array.length_toList]; rfl
theorem okS_drop {S : List UInt8} {n : Nat} (h : n < S.length) : okS (S.drop n) = (decide (0 ≤ LT (S.getD n 0)) && okS (S.drop (n + 1))) := by
  rw [drop_cons S n 0 h]
  rfl
theorem impl_unspelled_loop (s : ByteArray) (hs : s.size ≤ 400) (d : Nat) : ∀ n : Nat, n + d = s.size →
    Ev (fun k => impl_unspelled.l0 k s ((s.data.toList.take n).map LT) (s.size : Int) (n : Int)) (if okS (s.data.toList.drop n) = true then (s.data.toList.map LT, true) else ([], false)) := by
  have hl := size_list s
  induction d with
  | zero =>
    intro n h
    refine Ev_succ ?_
    simp only [impl_unspelled.l0]
    rw [List.drop_eq_nil_of_le (by omega), List.take_of_length_le (by omega)]
    exact Ev_neg (by omega) (Ev.now _)
  | succ d ih =>
    intro n h
    refine Ev_succ ?_
    simp only [impl_unspelled.l0]
    have i := ih (n + 1) (by omega)
    rw [bt_get s n (by omega), wsucc (n := n) (by omega), okS_drop (by omega)]
    refine Ev_pos (by omega) (Ev_pos (by omega) (Ev_pos (by omega) (Ev_call _ (letter_ev _) ?_)))
    by_cases c : LT (s.data.toList.getD n 0) < 0
    · rw [decide_eq_false (by omega)]
      exact Ev_pos c (Ev.now _)
    · rw [decide_eq_true (by omega), Bool.true_and]
      rw [take_succ_getD _ n 0 (by omega), List.map_append, List.map_singleton] at i
      exact Ev_neg c (Ev_pos (by rw [List.length_map, List.length_take]; omega) i)
theorem okS_row {S : List UInt8} (h : okS S = true) : RowIn 16 (S.map LT) ∧ (S.map LT).map dig = S := by
  unfold okS at h
  rw [List.all_eq_true] at h
  refine ⟨fun v hv => ?_, ?_⟩
  · obtain ⟨b, hb, rfl⟩ := List.mem_map.1 hv
    have := h b hb
    rw [decide_eq_true_eq] at this
    exact (dig_lt this).1
  · rw [List.map_map]
    conv => rhs; rw [← List.map_id S]
    refine List.map_congr_left (fun b hb => ?_)
    have := h b hb
    rw [decide_eq_true_eq] at this
    exact (dig_lt this).2
theorem parseW_empty {s : ByteArray} (c : s.data.toList = [101, 109, 112, 116, 121]) : parseW s = ([], true) := by unfold parseW; rw [if_pos c]
theorem parseW_ok {s : ByteArray} (c : s.data.toList ≠ [101, 109, 112, 116, 121]) (h : okS s.data.toList = true ∧ s.data.toList ≠ []) : parseW s = (s.data.toList.map LT, true) := by unfold parseW; rw [if_neg c, if_pos h]
theorem parseW_no {s : ByteArray} (c : s.data.toList ≠ [101, 109, 112, 116, 121]) (h : ¬ (okS s.data.toList = true ∧ s.data.toList ≠ [])) : parseW s = ([], false) := by unfold parseW; rw [if_neg c, if_neg h]
theorem impl_ParseWord_ev (s : ByteArray) (hs : s.size ≤ 400) : Ev (fun k => impl_ParseWord.f k s) (parseW s) := by
  have hl := size_list s
  unfold impl_ParseWord.f
  rw [toList_data]
  by_cases c : s.data.toList = [101, 109, 112, 116, 121]
  · exact Ev_pos c (Ev_some (parseW_empty c).symm)
  · have u := impl_unspelled_loop s hs _ 0 (Nat.zero_add _)
    rw [List.drop_zero, List.take_zero, List.map_nil] at u
    refine Ev_neg c (Ev_call _ u ?_)
    by_cases c2 : okS s.data.toList = true
    · rw [if_pos c2]
      refine Ev_pos rfl ?_
      by_cases c3 : s.data.toList = []
      · exact Ev_pos (by rw [c3]; rfl) (Ev_some (parseW_no c (fun h => h.2 c3)).symm)
      · have hn : s.data.toList.length ≠ 0 := fun h => c3 (List.length_eq_zero_iff.1 h)
        have ok : okWord (s.data.toList.map LT) 16 = true := okW_iff.2 ⟨(okS_row c2).1, by omega, by rw [List.length_map]; omega⟩
        refine Ev_neg (by simp only [List.length_map]; omega) (Ev_call _ (impl_IsWord_ev _ 16 (by rw [List.length_map]; omega)) (Ev_pos ok (Ev_some (parseW_ok c ⟨c2, c3⟩).symm)))
    · rw [if_neg c2]
      exact Ev_neg (by simp) (Ev_some (parseW_no c (fun h => c2 h.1)).symm)
theorem spec_ParseWord_end (s : ByteArray) (hs : s.size ≤ 400) (hc : s.data.toList ≠ [101, 109, 112, 116, 121]) : Ev (fun k => (spec_FormatWord.f k (s.data.toList.map LT)).bind fun t743 => (if t743.toList = s.toList then (if s.toList = ([] : List UInt8) then (some ((([] : List Int)), false)) else (some (s.data.toList.map LT, true))) else (some ((([] : List Int)), false)))) (parseW s) := by
  have hl := size_list s
  refine Ev_call _ (spec_FormatWord_ev _ (by rw [List.length_map]; omega)) ?_
  simp only [toList_data]
  by_cases c2 : okS s.data.toList = true
  · have ok : okWord (s.data.toList.map LT) 16 = true := okW_iff.2 ⟨(okS_row c2).1, by omega, by rw [List.length_map]; omega⟩
    by_cases c3 : s.data.toList = []
    · refine Ev_neg ?_ (Ev_some (parseW_no hc (fun h => h.2 c3)).symm)
      have e : fmtW (s.data.toList.map LT) = ⟨#[101, 109, 112, 116, 121]⟩ := by unfold fmtW; rw [if_pos ok, if_pos (by rw [c3]; rfl)]
      rw [e, c3]
      decide
    · have hn : s.data.toList.length ≠ 0 := fun h => c3 (List.length_eq_zero_iff.1 h)
      refine Ev_pos ?_ (Ev_neg c3 (Ev_some (parseW_ok hc ⟨c2, c3⟩).symm))
      have e : fmtW (s.data.toList.map LT) = ⟨s.data.toList.toArray⟩ := by unfold fmtW fmtD; rw [if_pos ok, if_neg (by rw [List.length_map]; omega), (okS_row c2).2]
      rw [e]
  · have no : ¬ okWord (s.data.toList.map LT) 16 = true := by
      intro h
      apply c2
      unfold okS
      rw [List.all_eq_true]
      intro b hb
      rw [decide_eq_true_eq]
      exact ((okW_iff.1 h).1 _ (List.mem_map.2 ⟨b, hb, rfl⟩)).1
    refine Ev_neg ?_ (Ev_some (parseW_no hc (fun h => c2 h.1)).symm)
    have e : fmtW (s.data.toList.map LT) = ⟨#[]⟩ := by unfold fmtW; rw [if_neg no]
    rw [e]
    intro h
    apply c2
    have h : s.data.toList = [] := h.symm
    rw [h]
    rfl
theorem spec_ParseWord_loop (s : ByteArray) (hs : s.size ≤ 400) (hc : s.data.toList ≠ [101, 109, 112, 116, 121]) (d : Nat) : ∀ n : Nat, n + d = s.size →
    Ev (fun k => spec_ParseWord.l0 k s ((s.data.toList.take n).map LT) (n : Int)) (parseW s) := by
  have hl := size_list s
  induction d with
  | zero =>
    intro n h
    refine Ev_succ ?_
    simp only [spec_ParseWord.l0]
    rw [List.take_of_length_le (by omega)]
    exact Ev_neg (by omega) (spec_ParseWord_end s hs hc)
  | succ d ih =>
    intro n h
    refine Ev_succ ?_
    simp only [spec_ParseWord.l0]
    have i := ih (n + 1) (by omega)
    rw [take_succ_getD _ n 0 (by omega), List.map_append, List.map_singleton] at i
    rw [bt_get s n (by omega), wsucc (n := n) (by omega)]
    exact Ev_pos (by omega) (Ev_neg (by rw [toList_data]; exact hc) (Ev_pos (by omega) (Ev_call _ (letter_ev _) (Ev_pos (by rw [List.length_map, List.length_take]; omega) i))))
theorem spec_ParseWord_ev (s : ByteArray) (hs : s.size ≤ 400) : Ev (fun k => spec_ParseWord.f k s) (parseW s) := by
  unfold spec_ParseWord.f
  by_cases c : s.data.toList = [101, 109, 112, 116, 121]
  · have e : parseW s = ([], true) := by unfold parseW; rw [if_pos c]
    rw [e]
    refine Ev_succ ?_
    simp only [spec_ParseWord.l0]
    have hf : fmtW [] = ⟨#[101, 109, 112, 116, 121]⟩ := by decide
    have hend : Ev (fun k => (spec_FormatWord.f k []).bind fun t743 => (if t743.toList = s.toList then (if s.toList = ([] : List UInt8) then (some ((([] : List Int)), false)) else (some (([] : List Int), true))) else (some ((([] : List Int)), false)))) ([], true) := by
      refine Ev_call _ (spec_FormatWord_ev [] (by simp)) ?_
      rw [hf, toList_data, toList_data, c]
      exact Ev_pos rfl (Ev_neg (by simp) (Ev.now _))
    exact Ev_ite (fun _ => Ev_pos (by rw [toList_data]; exact c) hend) (fun _ => hend)
  · have := spec_ParseWord_loop s hs c _ 0 (Nat.zero_add _)
    rwa [List.take_zero, List.map_nil] at this
theorem parse_fmt (w : List Int) : parseW (fmtW w) = if okWord w 16 = true then (w, true) else ([], false) := by
  unfold fmtW
  by_cases c : okWord w 16 = true
  · rw [if_pos c, if_pos c]
    by_cases c2 : w.length = 0
    · rw [if_pos c2]
      have : w = [] := List.length_eq_zero_iff.1 c2
      subst this
      decide
    · rw [if_neg c2]
      obtain ⟨h1, _, h2⟩ := okW_iff.1 c
      have e : (fmtD w).data.toList = w.map dig := by unfold fmtD; simp
      unfold parseW
      rw [e]
      have hne : w.map dig ≠ [101, 109, 112, 116, 121] := by
        intro h
        have h3 : (109 : UInt8) ∈ w.map dig := by rw [h]; decide
        obtain ⟨x, hx, he⟩ := List.mem_map.1 h3
        have hb := h1 x hx
        have := dig_ok ⟨x.toNat, by omega⟩
        exact this he
      have hback : (w.map dig).map LT = w := by
        rw [List.map_map]
        conv => rhs; rw [← List.map_id w]
        exact List.map_congr_left (fun x hx => lt_dig (h1 x hx))
      have hok : okS (w.map dig) = true := by
        unfold okS
        rw [List.all_eq_true]
        intro b hb
        obtain ⟨x, hx, rfl⟩ := List.mem_map.1 hb
        rw [decide_eq_true_eq, lt_dig (h1 x hx)]
        exact (h1 x hx).1
      rw [if_neg hne, if_pos ⟨hok, fun h => c2 (by have := congrArg List.length h; simpa using this)⟩, hback]
  · rw [if_neg c, if_neg c]
    decide

/-! ### spec_CompareWords -/
theorem spec_CompareWords_loop (u v : List Int) (hu : u.length ≤ 1048576) (d : Nat) : ∀ n : Nat, n + d = u.length → n ≤ v.length →
    Ev (fun k => spec_CompareWords.l0 k u v (n : Int)) (cmpW (u.drop n) (v.drop n)) := by
  induction d with
  | zero =>
    intro n h h2
    have hn : n = u.length := by omega
    subst hn
    refine Ev_succ ?_
    simp only [spec_CompareWords.l0]
    refine Ev_neg (by omega) (Ev_succ ?_)
    simp only [spec_CompareWords.j1]
    refine Ev_neg (by simp) ?_
    rw [List.drop_length, cmpW_nil_left]
    by_cases c : u.length < v.length
    · refine Ev_pos (by omega) (Ev_some ?_)
      rw [if_neg (by simp; omega)]
    · refine Ev_neg (by omega) (Ev_neg (by omega) (Ev_some ?_))
      rw [if_pos (by simp; omega)]
  | succ d ih =>
    intro n h h2
    refine Ev_succ ?_
    simp only [spec_CompareWords.l0]
    refine Ev_pos (by omega) (Ev_succ ?_)
    simp only [spec_CompareWords.j1]
    by_cases c : n < v.length
    · refine Ev_pos (by simp; omega) (Ev_pos (by omega) (Ev_pos (by omega) (Ev_pos (by omega) ?_)))
      rw [rd_cast, rd_cast, drop_cons u n 0 (by omega), drop_cons v n 0 c, cmpW_cons, wsucc (by omega)]
      refine Ev_ite (fun g => Ev_some ?_) (fun g => ?_)
      · rw [if_pos g]
      · rw [if_neg g]
        refine Ev_ite (fun g2 => Ev_some ?_) (fun g2 => ?_)
        · rw [if_pos g2]
        · rw [if_neg g2]
          exact ih (n + 1) (by omega) (by omega)
    · refine Ev_neg (by simp; omega) (Ev_neg (by omega) (Ev_pos (by omega) (Ev_some ?_)))
      rw [List.drop_eq_nil_of_le (show v.length ≤ n by omega), cmpW_nil_right, if_neg (by simp; omega)]

theorem spec_CompareWords_ev (u v : List Int) (hu : u.length ≤ 1048576) : Ev (fun k => spec_CompareWords.f k u v) (cmpW u v) := by
  unfold spec_CompareWords.f
  exact spec_CompareWords_loop u v hu _ 0 (Nat.zero_add _) (by omega)

/-! ### spec_l8Put -/
theorem spec_l8Put_loop (l : List (List Int)) (w : List Int) (hw : w.length ≤ 1048576) (hl : l.length ≤ 1048576) (d : Nat) : ∀ (n : Nat) (out : List (List Int)) (pl : Bool), n + d = l.length → out.length ≤ n + (if pl = true then 1 else 0) →
    Ev (fun k => spec_l8Put.l0 k l w out pl (n : Int)) (out ++ if pl = true then l.drop n else putW w (l.drop n)) := by
  induction d with
  | zero =>
    intro n out pl h1 h2
    have hn : n = l.length := by omega
    have h2' : out.length ≤ n + 1 := by split at h2 <;> omega
    refine Ev_succ ?_
    simp only [spec_l8Put.l0]
    refine Ev_neg (by omega) ?_
    rw [hn, List.drop_length]
    cases pl with
    | true => exact Ev_pos rfl (Ev_some (by simp))
    | false =>
      refine Ev_neg (by simp) ?_
      simp only [Option.bind_some]
      exact Ev_pos (by simp; omega) (Ev_pos (by omega) (Ev_some (by simp [putW])))
  | succ d ih =>
    intro n out pl h1 h2
    have h2' : out.length ≤ n + 1 := by split at h2 <;> omega
    refine Ev_succ ?_
    simp only [spec_l8Put.l0]
    refine Ev_pos (by omega) (Ev_pos (by omega) ?_)
    have hx : rd_L1 l (n : Int) = l.getD n [] := rfl
    rw [hx, drop_cons l n [] (by omega)]
    refine Ev_call _ (spec_CompareWords_ev w (l.getD n []) hw) ?_
    have step : ∀ (pl' : Bool) (out' : List (List Int)), out'.length ≤ n + 1 + (if pl' = true then 1 else 0) → Ev (fun k => spec_l8Put.l0 k l w out' pl' (wrap64 ((n : Int) + 1))) (out' ++ if pl' = true then l.drop (n + 1) else putW w (l.drop (n + 1))) := by
      intro pl' out' h
      rw [wsucc (by omega)]
      exact ih (n + 1) out' pl' (by omega) (by omega)
    by_cases c0 : cmpW w (l.getD n []) = 0
    · refine Ev_pos c0 (Ev_neg (by omega) (Ev_pos (by omega) (Ev_eq (step true _ (by simp; omega)) ?_)))
      rw [if_pos rfl, List.append_assoc]
      congr 1
      cases pl with
      | true => rfl
      | false => rw [if_neg (by simp), putW, if_neg (by omega), if_pos c0]; rfl
    · refine Ev_neg c0 ?_
      by_cases c1 : cmpW w (l.getD n []) < 0
      · refine Ev_pos c1 ?_
        cases pl with
        | true =>
          refine Ev_pos rfl (Ev_pos (by omega) (Ev_eq (step true _ (by simp; omega)) ?_))
          rw [if_pos rfl, if_pos rfl, List.append_assoc]
          rfl
        | false =>
          refine Ev_neg (by simp) ?_
          simp only [Option.bind_some]
          refine Ev_pos (by simp; omega) (Ev_pos (by omega) (Ev_pos (by simp; omega) (Ev_eq (step true _ (by simp at h2 ⊢; omega)) ?_)))
          rw [if_pos rfl, if_neg (by simp), putW, if_pos c1]
          simp
      · refine Ev_neg c1 (Ev_pos (by omega) (Ev_eq (step pl _ (by rw [List.length_append, List.length_singleton]; omega)) ?_))
        rw [List.append_assoc]
        congr 1
        cases pl with
        | true => rfl
        | false => rw [if_neg (by simp), if_neg (by simp), putW, if_neg c1, if_neg c0]; rfl

theorem spec_l8Put_ev (l : List (List Int)) (w : List Int) (hw : w.length ≤ 1048576) (hl : l.length ≤ 1048576) : Ev (fun k => spec_l8Put.f k l w) (putW w l) := by
  unfold spec_l8Put.f
  exact Ev_eq (spec_l8Put_loop l w hw hl l.length 0 [] false (by omega) (by simp)) (by simp)

/-! ### spec_FactorsOf -/
theorem spec_FactorsOf_loop (w : List Int) (hw : w.length ≤ 128) (n : Nat) (hn : n ≤ 40) (d : Nat) : ∀ i : Nat, i + d = w.length + 1 - n →
    Ev (fun k => spec_FactorsOf.l0 k w (n : Int) (canon (facsTo w n i)) (i : Int)) (facs w n, true) := by
  induction d with
  | zero =>
    intro i h
    refine Ev_succ ?_
    simp only [spec_FactorsOf.l0]
    rw [wnat (x := (i : Int) + (n : Int)) (i + n) (by omega) (by omega)]
    refine Ev_neg (by omega) (Ev_some ?_)
    rw [show i = w.length + 1 - n by omega]
    rfl
  | succ d ih =>
    intro i h
    refine Ev_succ ?_
    simp only [spec_FactorsOf.l0]
    rw [wnat (x := (i : Int) + (n : Int)) (i + n) (by omega) (by omega)]
    refine Ev_pos (by omega) (Ev_pos (by omega) (Ev_pos (by omega) ?_))
    rw [Int.toNat_natCast, Int.toNat_natCast, win_cut]
    have h1 := win_length (w := w) (n := n) (i := i) (by omega)
    have h2 := canon_length (facsTo w n i)
    rw [facsTo_length] at h2
    refine Ev_call _ (spec_l8Put_ev _ _ (by omega) (by omega)) ?_
    rw [← canon_snoc, ← facsTo_succ, wsucc (by omega)]
    exact ih (i + 1) (by omega)

theorem spec_FactorsOf_ev (w : List Int) (n : Int) (hb : w.length ≤ 1048576) : Ev (fun k => spec_FactorsOf.f k w n) (factR w n) := by
  unfold spec_FactorsOf.f
  simp only [Option.bind_some]
  refine Ev_call _ (spec_IsWord_ev w 16 hb (by omega)) ?_
  have no : ¬ factOk w n = true → Ev (fun k => spec_FactorsOf.j0 k w n [] true) (factR w n) := fun h => by
    refine Ev_succ ?_
    simp only [spec_FactorsOf.j0]
    exact Ev_pos (by simp) (Ev_some (by unfold factR; rw [if_neg h]))
  refine Ev_ite (fun h1 => Ev_ite (fun h2 => no (fun h => ?_)) (fun h2 => ?_)) (fun h1 => no (fun h => ?_))
  · have := shortW_le (factOk_iff.1 h).1; omega
  · simp only [spec_l1In_eq, Option.bind_some]
    by_cases c : 0 ≤ n ∧ n ≤ 40
    · rw [show (!decide (0 ≤ n ∧ n ≤ 40)) = false by simp [c]]
      refine Ev_succ ?_
      simp only [spec_FactorsOf.j0]
      obtain ⟨m, rfl⟩ : ∃ m : Nat, n = (m : Int) := ⟨n.toNat, by omega⟩
      have hok : factOk w (m : Int) = true := factOk_iff.2 ⟨by unfold shortW; rw [h1]; simp; omega, c⟩
      refine Ev_neg (by simp) (Ev_eq (spec_FactorsOf_loop w (by omega) m (by omega) (w.length + 1 - m) 0 (by omega)) ?_)
      unfold factR
      rw [if_pos hok]
      rfl
    · rw [show (!decide (0 ≤ n ∧ n ≤ 40)) = true by simp; omega]
      exact no (fun h => c (factOk_iff.1 h).2)
  · unfold factOk shortW at h
    simp only [Bool.and_eq_true] at h
    exact h1 h.1.1

/-! ### impl_isShort -/
theorem impl_isShort_ev (w : List Int) (m : Nat) (hb : w.length ≤ 1048576) : Ev (fun k => impl_isShort.f k w (m : Int)) (okWord w 16 && decide (w.length ≤ m)) := by
  unfold impl_isShort.f
  refine Ev_ite (fun h => Ev_call _ (impl_IsWord_ev w 16 hb) (Ev_some ?_)) (fun h => Ev_some ?_)
  · simp; omega
  · simp; omega

/-! ### impl_parts -/
theorem impl_different_ev' (l : List (List Int)) (h : l.length < 4611686018427387904) : Ev (fun k => impl_different.f k l) (canon l) := by
  unfold impl_different.f
  exact Ev_pos h (Ev.now _)

theorem impl_parts_loop (w : List Int) (hw : w.length ≤ 1048576) (n : Nat) (hn : n ≤ 40) (d : Nat) : ∀ i : Nat, i + d = w.length + 1 - n →
    Ev (fun k => impl_parts.l0 k w (n : Int) (facsTo w n i) (i : Int)) (facs w n) := by
  induction d with
  | zero =>
    intro i h
    refine Ev_succ ?_
    simp only [impl_parts.l0]
    rw [wnat (x := (i : Int) + (n : Int)) (i + n) (by omega) (by omega)]
    refine Ev_neg (by omega) (Ev_call _ (impl_different_ev' _ (by rw [facsTo_length]; omega)) (Ev_some ?_))
    rw [show i = w.length + 1 - n by omega]
    rfl
  | succ d ih =>
    intro i h
    refine Ev_succ ?_
    simp only [impl_parts.l0]
    rw [wnat (x := (i : Int) + (n : Int)) (i + n) (by omega) (by omega)]
    have h1 := win_length (w := w) (n := n) (i := i) (by omega)
    simp only [Option.bind_some]
    rw [Int.toNat_natCast, Int.toNat_natCast, win_cut]
    refine Ev_pos (by omega) (Ev_pos (by omega) (Ev_pos (by omega) (Ev_pos (by rw [List.length_nil]; omega) (Ev_pos (by rw [facsTo_length]; omega) ?_))))
    rw [List.nil_append, ← facsTo_succ, wsucc (by omega)]
    exact ih (i + 1) (by omega)

theorem impl_parts_ev (w : List Int) (n : Nat) (hw : w.length ≤ 1048576) (hn : n ≤ 40) : Ev (fun k => impl_parts.f k w (n : Int)) (facs w n) := by
  unfold impl_parts.f
  exact impl_parts_loop w hw n hn (w.length + 1 - n) 0 (by omega)

/-! ### impl_FactorsOf -/
theorem impl_FactorsOf_ev (w : List Int) (n : Int) (hb : w.length ≤ 1048576) : Ev (fun k => impl_FactorsOf.f k w n) (factR w n) := by
  unfold impl_FactorsOf.f
  refine Ev_call _ (impl_isShort_ev w 128 hb) ?_
  have no : ¬ factOk w n = true → (([] : List (List Int)), false) = factR w n := fun h => by unfold factR; rw [if_neg h]
  refine Ev_ite (fun h1 => Ev_ite (fun h2 => Ev_some (no fun h => ?_)) (fun h2 => Ev_ite (fun h3 => Ev_some (no fun h => ?_)) (fun h3 => ?_))) (fun h1 => Ev_some (no fun h => ?_))
  · have := (factOk_iff.1 h).2; omega
  · have := (factOk_iff.1 h).2; omega
  · obtain ⟨m, rfl⟩ : ∃ m : Nat, n = (m : Int) := ⟨n.toNat, by omega⟩
    refine Ev_call _ (impl_parts_ev w m hb (by omega)) (Ev_some ?_)
    unfold factR
    rw [if_pos (factOk_iff.2 ⟨h1, by omega⟩)]
    rfl
  · exact h1 (factOk_iff.1 h).1

/-! ### spec_CountFactors -/
theorem spec_CountFactors_ev (w : List Int) (n : Int) (hb : w.length ≤ 1048576) : Ev (fun k => spec_CountFactors.f k w n) (countR w n) := by
  unfold spec_CountFactors.f
  refine Ev_call _ (spec_FactorsOf_ev w n hb) ?_
  unfold factR countR
  by_cases h : factOk w n = true
  · rw [if_pos h, if_pos h]; exact Ev_pos rfl (Ev.now _)
  · rw [if_neg h, if_neg h]; exact Ev_neg (by simp) (Ev.now _)

/-! ### impl_CountFactors -/
theorem impl_CountFactors_ev (w : List Int) (n : Int) (hb : w.length ≤ 1048576) : Ev (fun k => impl_CountFactors.f k w n) (countR w n) := by
  unfold impl_CountFactors.f
  refine Ev_call _ (impl_FactorsOf_ev w n hb) ?_
  unfold factR countR
  by_cases h : factOk w n = true
  · rw [if_pos h, if_pos h]; exact Ev_pos rfl (Ev.now _)
  · rw [if_neg h, if_neg h]; exact Ev_neg (by simp) (Ev.now _)

/-! ### spec_ComplexityOf -/
theorem spec_ComplexityOf_loop (w : List Int) (n : Nat) (hb : w.length ≤ 1048576) (hn : n ≤ 40) (hs : shortW w = true) (d : Nat) : ∀ i : Nat, i + d = n + 1 →
    Ev (fun k => spec_ComplexityOf.l0 k w (n : Int) (compTo w i) (i : Int)) (compTo w (n + 1)) := by
  induction d with
  | zero =>
    intro i h
    refine Ev_succ ?_
    simp only [spec_ComplexityOf.l0]
    refine Ev_neg (by omega) (Ev_succ ?_)
    simp only [spec_ComplexityOf.j1]
    refine Ev_neg (by simp) (Ev_some (by rw [show i = n + 1 by omega]))
  | succ d ih =>
    intro i h
    refine Ev_succ ?_
    simp only [spec_ComplexityOf.l0]
    refine Ev_pos (by omega) (Ev_succ ?_)
    simp only [spec_ComplexityOf.j1]
    refine Ev_pos (by simp; omega) (Ev_call _ (spec_CountFactors_ev w i hb) ?_)
    have hc : countR w (i : Int) = ((facs w i).length : Int) := by unfold countR; rw [if_pos (factOk_iff.2 ⟨hs, by omega⟩)]; rfl
    rw [hc]
    refine Ev_neg (by omega) (Ev_pos (by rw [compTo_length]; omega) ?_)
    rw [← compTo_succ, wsucc (by omega)]
    exact ih (i + 1) (by omega)

theorem spec_ComplexityOf_ev (w : List Int) (n : Int) (hb : w.length ≤ 1048576) : Ev (fun k => spec_ComplexityOf.f k w n) (compR w n) := by
  unfold spec_ComplexityOf.f
  by_cases h : factOk w n = true
  · obtain ⟨h1, h2, h3⟩ := factOk_iff.1 h
    obtain ⟨m, rfl⟩ : ∃ m : Nat, n = (m : Int) := ⟨n.toNat, by omega⟩
    refine Ev_eq (spec_ComplexityOf_loop w m hb (by omega) h1 (m + 1) 0 (by omega)) ?_
    unfold compR
    rw [if_pos h]
    rfl
  · have e : compR w n = [] := by unfold compR; rw [if_neg h]
    rw [e]
    refine Ev_succ ?_
    simp only [spec_ComplexityOf.l0]
    refine Ev_ite (fun h1 => Ev_succ ?_) (fun h1 => Ev_succ ?_)
    · simp only [spec_ComplexityOf.j1]
      refine Ev_ite (fun h2 => ?_) (fun h2 => Ev.now _)
      refine Ev_call _ (spec_CountFactors_ev w 0 hb) ?_
      have hc : countR w 0 = -1 := by
        unfold countR
        rw [if_neg (fun g => h (factOk_iff.2 ⟨(factOk_iff.1 g).1, by omega, by simpa using h2⟩))]
      rw [hc]
      exact Ev_pos (by omega) (Ev.now _)
    · simp only [spec_ComplexityOf.j1]
      exact Ev_neg (by simp) (Ev.now _)

/-! ### impl_ComplexityOf -/
theorem impl_ComplexityOf_loop (w : List Int) (n : Nat) (hb : w.length ≤ 1048576) (hn : n ≤ 40) (d : Nat) : ∀ i : Nat, i + d = n + 1 →
    Ev (fun k => impl_ComplexityOf.l0 k w (compTo w i) ((n + 1 : Nat) : Int) (i : Int)) (compTo w (n + 1)) := by
  induction d with
  | zero =>
    intro i h
    refine Ev_succ ?_
    simp only [impl_ComplexityOf.l0]
    refine Ev_neg (by omega) (Ev_some (by rw [show i = n + 1 by omega]))
  | succ d ih =>
    intro i h
    refine Ev_succ ?_
    simp only [impl_ComplexityOf.l0]
    refine Ev_pos (by omega) (Ev_call _ (impl_parts_ev w i hb (by omega)) (Ev_pos (by rw [compTo_length]; omega) ?_))
    rw [← compTo_succ, wsucc (by omega)]
    exact ih (i + 1) (by omega)

theorem impl_ComplexityOf_ev (w : List Int) (n : Int) (hb : w.length ≤ 1048576) : Ev (fun k => impl_ComplexityOf.f k w n) (compR w n) := by
  unfold impl_ComplexityOf.f
  simp only [Option.bind_some]
  refine Ev_call _ (impl_isShort_ev w 128 hb) ?_
  have no : ¬ factOk w n = true → Ev (fun k => impl_ComplexityOf.j0 k w n [] true) (compR w n) := fun h => by
    refine Ev_succ ?_
    simp only [impl_ComplexityOf.j0]
    exact Ev_pos (by simp) (Ev_some (by unfold compR; rw [if_neg h]))
  refine Ev_ite (fun h1 => Ev_ite (fun h2 => no fun h => ?_) (fun h2 => ?_)) (fun h1 => no fun h => h1 (factOk_iff.1 h).1)
  · have := (factOk_iff.1 h).2; omega
  · by_cases c : n > 40
    · rw [show decide (n > 40) = true by simp; omega]
      exact no (fun h => by have := (factOk_iff.1 h).2; omega)
    · rw [show decide (n > 40) = false by simp; omega]
      refine Ev_succ ?_
      simp only [impl_ComplexityOf.j0]
      obtain ⟨m, rfl⟩ : ∃ m : Nat, n = (m : Int) := ⟨n.toNat, by omega⟩
      rw [wsucc (by omega)]
      refine Ev_neg (by simp) (Ev_eq (impl_ComplexityOf_loop w m hb (by omega) (m + 1) 0 (by omega)) ?_)
      unfold compR
      rw [if_pos (factOk_iff.2 ⟨h1, by omega⟩)]
      rfl

/-! ### spec_l3Same -/
theorem spec_l3Same_loop (a b : List Int) (hl : a.length = b.length) (hb : a.length ≤ 17592186044416) (d : Nat) : ∀ n : Nat, n ≤ a.length → a.length - n = d → a.take n = b.take n →
    Ev (fun k => spec_l3Same.l0 k a b (n : Int)) (decide (a = b)) := by
  induction d with
  | zero =>
    intro n h1 h2 h3
    refine Ev_succ ?_
    simp only [spec_l3Same.l0]
    refine Ev_neg (by omega) (Ev_some ?_)
    have : n = a.length := by omega
    subst this
    rw [List.take_length, hl, List.take_length] at h3
    simp [h3]
  | succ d ih =>
    intro n h1 h2 h3
    refine Ev_succ ?_
    simp only [spec_l3Same.l0]
    refine Ev_pos (by omega) (Ev_pos (by omega) (Ev_pos (by omega) ?_))
    rw [rd_cast, rd_cast, wsucc (by omega)]
    refine Ev_ite (fun h => ?_) (fun h => Ev_some ?_)
    · refine ih (n + 1) (by omega) (by omega) ?_
      rw [take_succ_getD a n 0 (by omega), take_succ_getD b n 0 (by omega), h3, h]
    · symm
      rw [decide_eq_false_iff_not]
      intro e
      exact h (by rw [e])

theorem spec_l3Same_ev (a b : List Int) (hb : a.length ≤ 17592186044416) : Ev (fun k => spec_l3Same.f k a b) (decide (a = b)) := by
  unfold spec_l3Same.f
  refine Ev_ite (fun h => ?_) (fun h => Ev_some ?_)
  · exact spec_l3Same_loop a b (by omega) hb _ 0 (by omega) rfl (by simp)
  · symm
    rw [decide_eq_false_iff_not]
    intro e
    exact h (by rw [e])

/-! ### spec_OccurrencesOf -/
theorem spec_OccurrencesOf_loop (w u : List Int) (hb : w.length ≤ 1048576) (hu : u.length ≤ 1048576) (d : Nat) : ∀ n : Nat, n + d = w.length + 1 - u.length →
    Ev (fun k => spec_OccurrencesOf.l0 k w u (occTo w u n) (n : Int)) (occ w u) := by
  induction d with
  | zero =>
    intro n h
    refine Ev_succ ?_
    simp only [spec_OccurrencesOf.l0]
    rw [w64 (by omega) (by omega)]
    refine Ev_neg (by omega) (Ev_some ?_)
    have : n = w.length + 1 - u.length := by omega
    subst this
    rfl
  | succ d ih =>
    intro n h
    refine Ev_succ ?_
    simp only [spec_OccurrencesOf.l0]
    rw [wnat (n + u.length) (by omega) (by omega), wsucc (by omega)]
    refine Ev_pos (by omega) (Ev_pos (by omega) (Ev_pos (by omega) ?_))
    rw [Int.toNat_natCast, Int.toNat_natCast]
    refine Ev_call _ (spec_l3Same_ev _ _ (by simp; omega)) ?_
    have hl := occTo_length w u n
    refine Ev_ite (fun c => Ev_pos (by omega) ?_) (fun c => ?_)
    · refine Ev_eq (ih (n + 1) (by omega)) rfl |> fun e => ?_
      rw [occTo_succ, if_pos (by simpa using c)] at e
      exact e
    · refine Ev_eq (ih (n + 1) (by omega)) rfl |> fun e => ?_
      rw [occTo_succ, if_neg (by simpa using c), List.append_nil] at e
      exact e

theorem spec_OccurrencesOf_ev (w u : List Int) (hb : w.length ≤ 1048576) (hu : u.length ≤ 1048576) : Ev (fun k => spec_OccurrencesOf.f k w u) (occ w u) := by
  unfold spec_OccurrencesOf.f
  exact spec_OccurrencesOf_loop w u hb hu _ 0 (Nat.zero_add _)

/-! ### slices_Equal_int_int -/
theorem slices_Equal_int_int_loop (a b : List Int) (hl : a.length = b.length) (hb : a.length ≤ 17592186044416) (d : Nat) : ∀ n : Nat, n ≤ a.length → a.length - n = d → a.take n = b.take n →
    Ev (fun k => slices_Equal_int_int.l0 k a b (a.length : Int) (n : Int)) (decide (a = b)) := by
  induction d with
  | zero =>
    intro n h1 h2 h3
    refine Ev_succ ?_
    simp only [slices_Equal_int_int.l0]
    refine Ev_neg (by omega) (Ev_some ?_)
    have : n = a.length := by omega
    subst this
    rw [List.take_length, hl, List.take_length] at h3
    simp [h3]
  | succ d ih =>
    intro n h1 h2 h3
    refine Ev_succ ?_
    simp only [slices_Equal_int_int.l0]
    refine Ev_pos (by omega) (Ev_pos (by omega) (Ev_pos (by omega) (Ev_pos (by omega) ?_)))
    rw [rd_cast, rd_cast, wsucc (by omega)]
    refine Ev_ite (fun h => ?_) (fun h => Ev_some ?_)
    · refine ih (n + 1) (by omega) (by omega) ?_
      rw [take_succ_getD a n 0 (by omega), take_succ_getD b n 0 (by omega), h3, h]
    · symm
      rw [decide_eq_false_iff_not]
      intro e
      exact h (by rw [e])

theorem slices_Equal_int_int_ev (a b : List Int) (hb : a.length ≤ 17592186044416) : Ev (fun k => slices_Equal_int_int.f k a b) (decide (a = b)) := by
  unfold slices_Equal_int_int.f
  refine Ev_ite (fun h => ?_) (fun h => Ev_some ?_)
  · exact slices_Equal_int_int_loop a b (by omega) hb _ 0 (by omega) rfl (by simp)
  · symm
    rw [decide_eq_false_iff_not]
    intro e
    exact h (by rw [e])

/-! ### impl_OccurrencesOf -/
theorem impl_OccurrencesOf_loop (w u : List Int) (hb : w.length ≤ 1048576) (hu : u.length ≤ 1048576) (d : Nat) : ∀ n : Nat, n + d = w.length + 1 - u.length →
    Ev (fun k => impl_OccurrencesOf.l0 k w u (occTo w u n) (n : Int)) (occ w u) := by
  induction d with
  | zero =>
    intro n h
    refine Ev_succ ?_
    simp only [impl_OccurrencesOf.l0]
    rw [w64 (by omega) (by omega)]
    refine Ev_neg (by omega) (Ev_some ?_)
    have : n = w.length + 1 - u.length := by omega
    subst this
    rfl
  | succ d ih =>
    intro n h
    refine Ev_succ ?_
    simp only [impl_OccurrencesOf.l0]
    rw [wnat (n + u.length) (by omega) (by omega), wsucc (by omega)]
    refine Ev_pos (by omega) (Ev_pos (by omega) (Ev_pos (by omega) ?_))
    rw [Int.toNat_natCast, Int.toNat_natCast]
    refine Ev_call _ (slices_Equal_int_int_ev _ _ (by simp; omega)) ?_
    have hl := occTo_length w u n
    refine Ev_ite (fun c => Ev_pos (by omega) ?_) (fun c => ?_)
    · refine Ev_eq (ih (n + 1) (by omega)) rfl |> fun e => ?_
      rw [occTo_succ, if_pos (by simpa using c)] at e
      exact e
    · refine Ev_eq (ih (n + 1) (by omega)) rfl |> fun e => ?_
      rw [occTo_succ, if_neg (by simpa using c), List.append_nil] at e
      exact e

theorem impl_OccurrencesOf_ev (w u : List Int) (hb : w.length ≤ 1048576) (hu : u.length ≤ 1048576) : Ev (fun k => impl_OccurrencesOf.f k w u) (occ w u) := by
  unfold impl_OccurrencesOf.f
  exact impl_OccurrencesOf_loop w u hb hu _ 0 (Nat.zero_add _)

/-! ### both_RightSpecial -/
/-- The letters that stand behind the places of a list. -/
def follow (w : List Int) (n : Nat) : List Int → List Int
  | [] => []
  | p :: ps => if p + (n : Int) < (w.length : Int) then rd w (p + (n : Int)) :: follow w n ps else follow w n ps
/-- A second letter beside the first one; below nought none was met. -/
def diffI : Int → List Int → Bool
  | _, [] => false
  | f, x :: xs => if f < 0 then diffI x xs else if x = f then diffI f xs else true
def nextS : List Int → List Int → List Int
  | acc, [] => acc
  | acc, x :: xs => if x ∈ acc then nextS acc xs else nextS (acc ++ [x]) xs
theorem nextS_len (xs : List Int) : ∀ acc : List Int, acc.length ≤ (nextS acc xs).length := by
  induction xs with
  | nil => intro acc; exact Nat.le_refl _
  | cons x xs ih =>
    intro acc
    rw [nextS]
    split
    · exact ih acc
    · have := ih (acc ++ [x]); rw [List.length_append, List.length_singleton] at this; omega
theorem nextS_one (xs : List Int) (hx : ∀ x ∈ xs, 0 ≤ x) (f : Int) (hf : 0 ≤ f) : (1 < (nextS [f] xs).length) ↔ diffI f xs = true := by
  induction xs with
  | nil => simp [nextS, diffI]
  | cons x xs ih =>
    have ih := ih (fun y hy => hx y (List.mem_cons_of_mem _ hy))
    by_cases c : x = f
    · have e1 : nextS [f] (x :: xs) = nextS [f] xs := by rw [nextS, if_pos (List.mem_singleton.2 c)]
      have e2 : diffI f (x :: xs) = diffI f xs := by rw [diffI, if_neg (by omega), if_pos c]
      rw [e1, e2]; exact ih
    · have e1 : nextS [f] (x :: xs) = nextS ([f] ++ [x]) xs := by rw [nextS, if_neg (fun e => c (List.mem_singleton.1 e))]
      have e2 : diffI f (x :: xs) = true := by rw [diffI, if_neg (by omega), if_neg c]
      rw [e1, e2]
      have := nextS_len xs ([f] ++ [x])
      rw [List.length_append, List.length_singleton, List.length_singleton] at this
      exact ⟨fun _ => rfl, fun _ => by omega⟩
theorem nextS_two (xs : List Int) (hx : ∀ x ∈ xs, 0 ≤ x) : (1 < (nextS [] xs).length) ↔ diffI (-1) xs = true := by
  cases xs with
  | nil => simp [nextS, diffI]
  | cons x xs =>
    rw [nextS, if_neg (by simp), diffI, if_pos (by omega)]
    exact nextS_one xs (fun y hy => hx y (List.mem_cons_of_mem _ hy)) x (hx x List.mem_cons_self)
theorem occ_mem {w u : List Int} {p : Int} (h : p ∈ occ w u) : 0 ≤ p ∧ p + u.length ≤ w.length ∨ w.length < u.length := by
  unfold occ occTo at h
  rw [List.mem_map] at h
  obtain ⟨i, hi, rfl⟩ := h
  have := (List.mem_filter.1 hi).1
  rw [List.mem_range] at this
  by_cases c : w.length < u.length
  · exact .inr c
  · exact .inl ⟨by omega, by omega⟩
theorem occ_len (w u : List Int) : (occ w u).length ≤ w.length + 1 := by
  have := occTo_length w u (w.length + 1 - u.length); unfold occ; omega
theorem follow_nn (w : List Int) (hw : ∀ x ∈ w, 0 ≤ x) (n : Nat) (ps : List Int) (hp : ∀ p ∈ ps, 0 ≤ p) : ∀ x ∈ follow w n ps, 0 ≤ x := by
  induction ps with
  | nil => intro x hx; simp [follow] at hx
  | cons p ps ih =>
    have ih := ih (fun q hq => hp q (List.mem_cons_of_mem _ hq))
    have h0 := hp p List.mem_cons_self
    intro x hx
    rw [follow] at hx
    split at hx
    · rename_i c
      rcases List.mem_cons.1 hx with rfl | hx
      · have hl : (p + (n : Int)).toNat < w.length := by omega
        show 0 ≤ w.getD (p + (n : Int)).toNat 0
        rw [getD_eq hl]; exact hw _ (List.getElem_mem _)
      · exact ih x hx
    · exact ih x hx
def rsOf (w : List Int) (n : Nat) (u : List Int) : Bool := diffI (-1) (follow w n (occ w u))
def rsR (w : List Int) (n : Int) : List (List Int) := (factR w n).1.filter (rsOf w n.toNat)
theorem spec_l4Has_ev (l : List Int) (x : Int) (hl : l.length ≤ 1048577) : Ev (fun k => spec_l4Has.f k l x) (decide (x ∈ l)) := by
  have loop : ∀ d i : Nat, i + d = l.length → Ev (fun k => spec_l4Has.l0 k l x (i : Int)) (decide (x ∈ l.drop i)) := by
    intro d
    induction d with
    | zero =>
      intro i h
      refine Ev_succ ?_
      simp only [spec_l4Has.l0]
      refine Ev_neg (by omega) (Ev_some ?_)
      rw [List.drop_of_length_le (by omega)]; simp
    | succ d ih =>
      intro i h
      refine Ev_succ ?_
      simp only [spec_l4Has.l0, rd_cast]
      rw [wsucc (n := i) (by omega), drop_cons l i 0 (by omega)]
      refine Ev_pos (by omega) (Ev_pos (by omega) (Ev_ite (fun h1 => Ev_some ?_) (fun h1 => Ev_eq (ih (i + 1) (by omega)) ?_)))
      · symm; rw [decide_eq_true_eq, h1]; exact List.mem_cons_self
      · rw [decide_eq_decide, List.mem_cons]; exact ⟨fun e => .inr e, fun e => e.resolve_left (fun e2 => h1 e2.symm)⟩
  unfold spec_l4Has.f
  have := loop l.length 0 (Nat.zero_add _)
  rwa [List.drop_zero] at this
section
variable (w : List Int) (n : Nat) (l : List (List Int))
theorem spec_RS_inner (hw : w.length ≤ 128) (hn : n ≤ 40) (x5 : List (List Int)) (i : Nat) (hi : i < l.length) (hil : l.length ≤ 200) (hx5 : x5.length ≤ i) (L : List Int) (hL : L.length ≤ 200) (hp : ∀ p ∈ L, 0 ≤ p ∧ p + n ≤ w.length) (R : List (List Int)) (d : Nat) :
    ∀ j : Nat, j + d = L.length → ∀ acc : List Int, acc.length ≤ j → Ev (fun k => spec_RightSpecial.l0 k w (n : Int) (if 1 < (nextS acc (follow w n (L.drop j))).length then x5 ++ [l.getD i []] else x5) l true ((i + 1 : Nat) : Int)) R →
      Ev (fun k => spec_RightSpecial.l1 k w (n : Int) x5 l true (i : Int) acc L (j : Int)) R := by
  induction d with
  | zero =>
    intro j h acc ha hR
    rw [List.drop_of_length_le (by omega)] at hR
    simp only [follow, nextS] at hR
    refine Ev_succ ?_
    simp only [spec_RightSpecial.l1, rd_L1, Int.toNat_natCast]
    rw [wsucc (n := i) (by omega)]
    refine Ev_neg (by omega) ?_
    by_cases c : 1 < acc.length
    · rw [if_pos c] at hR
      exact Ev_pos (by omega) (Ev_pos (by omega) (Ev_pos (by omega) (Ev_pos (by omega) hR)))
    · rw [if_neg c] at hR
      exact Ev_neg (by omega) hR
  | succ d ih =>
    intro j h acc ha hR
    have hj : j < L.length := by omega
    have hm := hp (L.getD j 0) (by rw [getD_eq hj]; exact List.getElem_mem _)
    rw [drop_cons L j 0 hj] at hR
    rw [follow] at hR
    refine Ev_succ ?_
    have hz := w64 (n := L.getD j 0 + (n : Int)) (by omega) (by omega)
    simp only [spec_RightSpecial.l1, rd_cast, hz]
    rw [wsucc (n := j) (by omega)]
    refine Ev_pos (by omega) (Ev_pos (by omega) (Ev_ite (fun h1 => Ev_pos (by omega) (Ev_call _ (spec_l4Has_ev acc _ (by omega)) ?_)) (fun h1 => ?_)))
    · rw [if_pos h1, nextS] at hR
      by_cases c : rd w (L.getD j 0 + (n : Int)) ∈ acc
      · rw [if_pos c] at hR
        exact Ev_pos (by simpa using c) (ih (j + 1) (by omega) acc (by omega) hR)
      · rw [if_neg c] at hR
        exact Ev_neg (by simpa using c) (Ev_pos (by omega) (ih (j + 1) (by omega) _ (by rw [List.length_append, List.length_singleton]; omega) hR))
    · rw [if_neg h1] at hR
      exact ih (j + 1) (by omega) acc (by omega) hR
theorem impl_RS_inner (hw : w.length ≤ 128) (hn : n ≤ 40) (x5 : List (List Int)) (i : Nat) (hi : i < l.length) (hil : l.length ≤ 200) (hx5 : x5.length ≤ i) (L : List Int) (hL : L.length ≤ 200) (hp : ∀ p ∈ L, 0 ≤ p ∧ p + n ≤ w.length) (R : List (List Int)) (d : Nat) :
    ∀ j : Nat, j + d = L.length → ∀ f : Int, Ev (fun k => impl_RightSpecial.l0 k w (n : Int) (if diffI f (follow w n (L.drop j)) = true then x5 ++ [l.getD i []] else x5) l (l.length : Int) ((i + 1 : Nat) : Int)) R →
      Ev (fun k => impl_RightSpecial.l1 k w (n : Int) x5 f l (l.length : Int) (i : Int) L (L.length : Int) (j : Int)) R := by
  induction d with
  | zero =>
    intro j h f hR
    rw [List.drop_of_length_le (by omega)] at hR
    simp only [follow, diffI] at hR
    refine Ev_succ ?_
    simp only [impl_RightSpecial.l1]
    rw [wsucc (n := i) (by omega)]
    exact Ev_neg (by omega) (by simpa using hR)
  | succ d ih =>
    intro j h f hR
    have hj : j < L.length := by omega
    have hm := hp (L.getD j 0) (by rw [getD_eq hj]; exact List.getElem_mem _)
    rw [drop_cons L j 0 hj] at hR
    refine Ev_succ ?_
    have hz := w64 (n := L.getD j 0 + (n : Int)) (by omega) (by omega)
    simp only [impl_RightSpecial.l1, rd_cast, rd_L1, Int.toNat_natCast, hz]
    rw [wsucc (n := j) (by omega), wsucc (n := i) (by omega)]
    refine Ev_pos (by omega) (Ev_pos (by omega) (Ev_pos (by omega) (Ev_ite (fun h1 => ?_) (fun h1 => Ev_pos (by omega) (Ev_pos (by omega) ?_)))))
    · rw [show follow w n (L.getD j 0 :: L.drop (j + 1)) = follow w n (L.drop (j + 1)) from by rw [follow, if_neg (by omega)]] at hR
      exact ih (j + 1) (by omega) f hR
    · rw [show follow w n (L.getD j 0 :: L.drop (j + 1)) = rd w (L.getD j 0 + (n : Int)) :: follow w n (L.drop (j + 1)) from by rw [follow, if_pos (by omega)]] at hR
      refine Ev_ite (fun h2 => ?_) (fun h2 => Ev_ite (fun h3 => ?_) (fun h3 => Ev_pos (by omega) ?_))
      · rw [show diffI f (rd w (L.getD j 0 + (n : Int)) :: follow w n (L.drop (j + 1))) = diffI (rd w (L.getD j 0 + (n : Int))) (follow w n (L.drop (j + 1))) from by rw [diffI, if_pos h2]] at hR
        exact ih (j + 1) (by omega) _ hR
      · rw [show diffI f (rd w (L.getD j 0 + (n : Int)) :: follow w n (L.drop (j + 1))) = diffI f (follow w n (L.drop (j + 1))) from by rw [diffI, if_neg h2, if_pos h3]] at hR
        exact ih (j + 1) (by omega) f hR
      · rw [show diffI f (rd w (L.getD j 0 + (n : Int)) :: follow w n (L.drop (j + 1))) = true from by rw [diffI, if_neg h2, if_neg h3], if_pos rfl] at hR
        exact hR
variable (hw : w.length ≤ 128) (hnn : ∀ x ∈ w, 0 ≤ x) (hn : n ≤ 40) (hil : l.length ≤ 200) (hl : ∀ u ∈ l, u.length = n) (hf : n ≤ w.length ∨ l = [])
theorem rs_occ (hf : n ≤ w.length ∨ l = []) (hl : ∀ u ∈ l, u.length = n) (u : List Int) (hu : u ∈ l) : ∀ p ∈ occ w u, 0 ≤ p ∧ p + n ≤ w.length := by
  intro p hp
  have h1 := hl u hu
  rcases occ_mem hp with h | h
  · rw [h1] at h; exact h
  · rw [h1] at h
    rcases hf with hf | hf
    · omega
    · subst hf; cases hu
include hw hnn hn hil hl hf in
theorem spec_RS_outer (d : Nat) : ∀ i : Nat, i + d = l.length → ∀ x5 : List (List Int), x5.length ≤ i → Ev (fun k => spec_RightSpecial.l0 k w (n : Int) x5 l true (i : Int)) (x5 ++ (l.drop i).filter (rsOf w n)) := by
  induction d with
  | zero =>
    intro i h x5 hx
    rw [List.drop_of_length_le (by omega)]
    refine Ev_succ ?_
    simp only [spec_RightSpecial.l0]
    refine Ev_neg (by omega) (Ev_succ ?_)
    simp only [spec_RightSpecial.j1]
    exact Ev_neg (by simp) (Ev_some (by simp))
  | succ d ih =>
    intro i h x5 hx
    have hi : i < l.length := by omega
    have hu : l.getD i [] ∈ l := by rw [getD_eq hi]; exact List.getElem_mem _
    have hL := occ_len w (l.getD i [])
    have ho := rs_occ w n l hf hl _ hu
    have hlen := hl _ hu
    refine Ev_succ ?_
    simp only [spec_RightSpecial.l0]
    refine Ev_pos (by omega) (Ev_succ ?_)
    simp only [spec_RightSpecial.j1, rd_L1, Int.toNat_natCast]
    refine Ev_pos (by simp) (Ev_pos (by omega) (Ev_pos (by omega) (Ev_call _ (spec_OccurrencesOf_ev w _ (by omega) (by omega)) ?_)))
    refine spec_RS_inner w n l hw hn x5 i hi hil hx (occ w (l.getD i [])) (by omega) ho _ _ 0 (Nat.zero_add _) [] (Nat.le_refl _) ?_
    rw [List.drop_zero, drop_cons l i [] hi, List.filter_cons]
    have key := nextS_two (follow w n (occ w (l.getD i []))) (follow_nn w hnn n _ (fun p hp => (ho p hp).1))
    by_cases c : rsOf w n (l.getD i []) = true
    · rw [if_pos (key.2 c), if_pos c]
      have := ih (i + 1) (by omega) (x5 ++ [l.getD i []]) (by rw [List.length_append, List.length_singleton]; omega)
      rw [List.append_assoc] at this
      exact this
    · rw [if_neg (fun e => c (key.1 e)), if_neg c]
      exact ih (i + 1) (by omega) x5 (by omega)
include hw hn hil hl hf in
theorem impl_RS_outer (d : Nat) : ∀ i : Nat, i + d = l.length → ∀ x5 : List (List Int), x5.length ≤ i → Ev (fun k => impl_RightSpecial.l0 k w (n : Int) x5 l (l.length : Int) (i : Int)) (x5 ++ (l.drop i).filter (rsOf w n)) := by
  induction d with
  | zero =>
    intro i h x5 hx
    rw [List.drop_of_length_le (by omega)]
    refine Ev_succ ?_
    simp only [impl_RightSpecial.l0]
    exact Ev_neg (by omega) (Ev_some (by simp))
  | succ d ih =>
    intro i h x5 hx
    have hi : i < l.length := by omega
    have hu : l.getD i [] ∈ l := by rw [getD_eq hi]; exact List.getElem_mem _
    have hL := occ_len w (l.getD i [])
    have ho := rs_occ w n l hf hl _ hu
    have hlen := hl _ hu
    refine Ev_succ ?_
    simp only [impl_RightSpecial.l0, rd_L1, Int.toNat_natCast]
    refine Ev_pos (by omega) (Ev_pos (by omega) (Ev_pos (by omega) (Ev_call _ (impl_OccurrencesOf_ev w _ (by omega) (by omega)) ?_)))
    refine impl_RS_inner w n l hw hn x5 i hi hil hx (occ w (l.getD i [])) (by omega) ho _ _ 0 (Nat.zero_add _) (-1) ?_
    rw [List.drop_zero, drop_cons l i [] hi, List.filter_cons]
    by_cases c : rsOf w n (l.getD i []) = true
    · rw [if_pos (show diffI (-1) _ = true from c), if_pos c]
      have := ih (i + 1) (by omega) (x5 ++ [l.getD i []]) (by rw [List.length_append, List.length_singleton]; omega)
      rw [List.append_assoc] at this
      exact this
    · rw [if_neg (show ¬ diffI (-1) _ = true from c), if_neg c]
      exact ih (i + 1) (by omega) x5 (by omega)
end
theorem both_RightSpecial (l0 : List Int) (a1 : Int) (hb : l0.length ≤ 1048576) (hw : (Lit.int .i64 a1).wf = true) : ∃ R, Ev (fun k => spec_RightSpecial.f k l0 a1) R ∧ Ev (fun k => impl_RightSpecial.f k l0 a1) R ∧ R.length ≤ 1048576 ∧ ∀ x ∈ R, x.length ≤ 1048576 := by
  have hs := spec_FactorsOf_ev l0 a1 hb
  have hi := impl_FactorsOf_ev l0 a1 hb
  by_cases c : factOk l0 a1 = true
  · have c' := factOk_iff.1 c
    have h1 := facs_length l0 a1.toNat
    have h2 := shortW_le c'.1
    have hnn : ∀ x ∈ l0, 0 ≤ x := by
      have h3 := c'.1
      unfold shortW okWord at h3
      rw [Bool.and_eq_true, decide_eq_true_eq] at h3
      exact fun x hx => (h3.1.1 x hx).1
    obtain ⟨n, rfl⟩ := Int.eq_ofNat_of_zero_le c'.2.1
    rw [Int.toNat_natCast] at h1
    have hl : ∀ u ∈ facs l0 n, u.length = n := fun u hu => Fac.length (mem_facs.1 hu)
    have hf : n ≤ l0.length ∨ facs l0 n = [] := by
      by_cases d : n ≤ l0.length
      · exact .inl d
      · refine .inr (List.eq_nil_iff_forall_not_mem.2 (fun u hu => ?_))
        obtain ⟨i, hi, _⟩ := mem_facs.1 hu
        omega
    have e : factR l0 (n : Int) = (facs l0 n, true) := by unfold factR; rw [if_pos c, Int.toNat_natCast]
    rw [e] at hs hi
    refine ⟨(facs l0 n).filter (rsOf l0 n), ?_, ?_, ?_, fun x hx => ?_⟩
    · unfold spec_RightSpecial.f
      refine Ev_call _ hs ?_
      have := spec_RS_outer l0 n (facs l0 n) h2 hnn (by omega) (by omega) hl hf _ 0 (Nat.zero_add _) [] (Nat.le_refl _)
      rw [List.drop_zero, List.nil_append] at this
      exact this
    · unfold impl_RightSpecial.f
      refine Ev_call _ hi ?_
      have := impl_RS_outer l0 n (facs l0 n) h2 (by omega) (by omega) hl hf _ 0 (Nat.zero_add _) [] (Nat.le_refl _)
      rw [List.drop_zero, List.nil_append] at this
      exact this
    · have := List.length_filter_le (rsOf l0 n) (facs l0 n); omega
    · have := hl x (List.mem_filter.1 hx).1; omega
  · have e : factR l0 a1 = ([], false) := by unfold factR; rw [if_neg c]
    rw [e] at hs hi
    refine ⟨[], ?_, ?_, by simp, by simp⟩
    · unfold spec_RightSpecial.f
      refine Ev_call _ hs (Ev_succ ?_)
      simp only [spec_RightSpecial.l0]
      refine Ev_neg (by simp) (Ev_succ ?_)
      simp only [spec_RightSpecial.j1]
      exact Ev_neg (by simp) (Ev.now _)
    · unfold impl_RightSpecial.f
      refine Ev_call _ hi (Ev_succ ?_)
      simp only [impl_RightSpecial.l0]
      exact Ev_neg (by simp) (Ev.now _)

/-! ### spec_ReturnWords -/
theorem spec_ReturnWords_loop (w u : List Int) (hw : w.length ≤ 1048576) (d : Nat) : ∀ i : Nat, i + d = (occ w u).length - 1 →
    Ev (fun k => spec_ReturnWords.l0 k w (canon (cutsTo w (occ w u) i)) (occ w u) ((i + 1 : Nat) : Int)) (canon (cutsTo w (occ w u) ((occ w u).length - 1))) := by
  have hol := occTo_length w u (w.length + 1 - u.length)
  change (occ w u).length ≤ _ at hol
  induction d with
  | zero =>
    intro i h
    refine Ev_succ ?_
    simp only [spec_ReturnWords.l0]
    refine Ev_neg (by omega) (Ev_some ?_)
    rw [show i = (occ w u).length - 1 by omega]
  | succ d ih =>
    intro i h
    have a1 := occ_at w u i (by omega)
    have a2 := occ_at w u (i + 1) (by omega)
    have a3 := occ_lt w u i (i + 1) (by omega) (by omega)
    refine Ev_succ ?_
    simp only [spec_ReturnWords.l0]
    rw [wnat (x := ((i + 1 : Nat) : Int) - 1) i (by omega) (by omega), rd_cast, rd_cast]
    refine Ev_pos (by omega) (Ev_pos (by omega) (Ev_pos (by omega) (Ev_pos (by omega) (Ev_pos (by omega) (Ev_pos (by omega) (Ev_pos (by omega) ?_))))))
    have h2 := canon_length (cutsTo w (occ w u) i)
    rw [cutsTo_length] at h2
    refine Ev_call _ (spec_l8Put_ev _ _ (by rw [List.length_drop, List.length_take]; omega) (by omega)) ?_
    rw [← canon_snoc, ← cutsTo_succ, wsucc (by omega)]
    exact ih (i + 1) (by omega)

theorem spec_ReturnWords_ev (w u : List Int) (hb : w.length ≤ 1048576) (hu : u.length ≤ 1048576) : Ev (fun k => spec_ReturnWords.f k w u) (retR w u) := by
  unfold spec_ReturnWords.f
  simp only [Option.bind_some]
  refine Ev_call _ (spec_IsWord_ev w 16 hb (by omega)) ?_
  have no : ¬ (shortW w = true ∧ 0 < u.length) → Ev (fun k => spec_ReturnWords.j0 k w u [] true) (retR w u) := fun h => by
    refine Ev_succ ?_
    simp only [spec_ReturnWords.j0]
    exact Ev_pos (by simp) (Ev_some (by unfold retR; rw [if_neg h]))
  refine Ev_ite (fun h1 => Ev_ite (fun h2 => no (fun h => by have := shortW_le h.1; omega)) (fun h2 => ?_)) (fun h1 => no (fun h => ?_))
  · by_cases c : u.length = 0
    · rw [show ((u.length : Int) == 0) = true from beq_iff_eq.mpr (by omega)]
      exact no (fun h => by omega)
    · rw [show ((u.length : Int) == 0) = false from beq_eq_false_iff_ne.mpr (by omega)]
      refine Ev_succ ?_
      simp only [spec_ReturnWords.j0]
      refine Ev_neg (by simp) (Ev_call _ (spec_OccurrencesOf_ev w u hb hu) (Ev_eq (spec_ReturnWords_loop w u hb ((occ w u).length - 1) 0 (by omega)) ?_))
      unfold retR
      rw [if_pos ⟨by unfold shortW; rw [h1]; simp; omega, by omega⟩]
  · have := h.1
    unfold shortW at this
    simp only [Bool.and_eq_true] at this
    exact h1 this.1

/-! ### impl_ReturnWords -/
theorem impl_different_ev3 (l : List (List Int)) (h : l.length < 4611686018427387904) : Ev (fun k => impl_different.f k l) (canon l) := by
  unfold impl_different.f
  exact Ev_pos h (Ev.now _)

theorem impl_ReturnWords_loop (w u : List Int) (hw : w.length ≤ 1048576) (d : Nat) : ∀ i : Nat, i + d = (occ w u).length - 1 →
    Ev (fun k => impl_ReturnWords.l0 k w (cutsTo w (occ w u) i) (occ w u) ((i + 1 : Nat) : Int)) (canon (cutsTo w (occ w u) ((occ w u).length - 1))) := by
  have hol := occTo_length w u (w.length + 1 - u.length)
  change (occ w u).length ≤ _ at hol
  induction d with
  | zero =>
    intro i h
    refine Ev_succ ?_
    simp only [impl_ReturnWords.l0]
    refine Ev_neg (by omega) (Ev_call _ (impl_different_ev3 _ (by rw [cutsTo_length]; omega)) (Ev_some ?_))
    rw [show i = (occ w u).length - 1 by omega]
  | succ d ih =>
    intro i h
    have a1 := occ_at w u i (by omega)
    have a2 := occ_at w u (i + 1) (by omega)
    have a3 := occ_lt w u i (i + 1) (by omega) (by omega)
    refine Ev_succ ?_
    simp only [impl_ReturnWords.l0, Option.bind_some]
    rw [wnat (x := ((i + 1 : Nat) : Int) - 1) i (by omega) (by omega), rd_cast, rd_cast]
    refine Ev_pos (by omega) (Ev_pos (by omega) (Ev_pos (by omega) (Ev_pos (by omega) (Ev_pos (by omega) (Ev_pos (by omega) (Ev_pos (by omega) (Ev_pos (by rw [List.length_nil, List.length_drop, List.length_take]; omega) (Ev_pos (by rw [cutsTo_length]; omega) ?_))))))))
    rw [List.nil_append, ← cutsTo_succ, wsucc (by omega)]
    exact ih (i + 1) (by omega)

theorem impl_ReturnWords_ev (w u : List Int) (hb : w.length ≤ 1048576) (hu : u.length ≤ 1048576) : Ev (fun k => impl_ReturnWords.f k w u) (retR w u) := by
  unfold impl_ReturnWords.f
  simp only [Option.bind_some]
  refine Ev_call _ (impl_isShort_ev w 128 hb) ?_
  have no : ¬ (shortW w = true ∧ 0 < u.length) → Ev (fun k => impl_ReturnWords.j0 k w u [] true) (retR w u) := fun h => by
    refine Ev_succ ?_
    simp only [impl_ReturnWords.j0]
    exact Ev_pos (by simp) (Ev_some (by unfold retR; rw [if_neg h]))
  refine Ev_ite (fun h1 => ?_) (fun h1 => no (fun h => h1 h.1))
  by_cases c : u.length = 0
  · rw [show ((u.length : Int) == 0) = true from beq_iff_eq.mpr (by omega)]
    exact no (fun h => by omega)
  · rw [show ((u.length : Int) == 0) = false from beq_eq_false_iff_ne.mpr (by omega)]
    refine Ev_succ ?_
    simp only [impl_ReturnWords.j0]
    refine Ev_neg (by simp) (Ev_call _ (impl_OccurrencesOf_ev w u hb hu) (Ev_eq (impl_ReturnWords_loop w u hb ((occ w u).length - 1) 0 (by omega)) ?_))
    unfold retR
    rw [if_pos ⟨h1, by omega⟩]

/-! ### impl_IsFactor -/
theorem impl_IsFactor_ev (w u : List Int) (hb : w.length ≤ 1048576) (hu : u.length ≤ 1048576) : Ev (fun k => impl_IsFactor.f k w u) (decide (((occ w u).length : Int) > 0)) := by
  unfold impl_IsFactor.f
  exact Ev_call _ (impl_OccurrencesOf_ev w u hb hu) (Ev.now _)

/-! ### slices_Compare_int_int -/
theorem cmp_Compare_int_eq (a b : Int) : cmp_Compare_int.f a b = some (if a < b then -1 else if b < a then 1 else 0) := by
  unfold cmp_Compare_int.f cmp_isNaN_int.f
  simp only [Option.bind_some, bne_self_eq_false, Bool.false_eq_true, if_false]
  split
  · rfl
  · split <;> rfl

theorem slices_Compare_int_int_loop (u v : List Int) (hu : u.length ≤ 1048576) (d : Nat) : ∀ n : Nat, n + d = u.length → n ≤ v.length →
    Ev (fun k => slices_Compare_int_int.l0 k u v u (u.length : Int) (n : Int)) (cmpW (u.drop n) (v.drop n)) := by
  induction d with
  | zero =>
    intro n h h2
    have hn : n = u.length := by omega
    subst hn
    refine Ev_succ ?_
    simp only [slices_Compare_int_int.l0]
    refine Ev_neg (by omega) ?_
    rw [List.drop_length, cmpW_nil_left]
    by_cases c : u.length < v.length
    · refine Ev_pos (by omega) (Ev_some ?_)
      rw [if_neg (by simp; omega)]
    · refine Ev_neg (by omega) (Ev_some ?_)
      rw [if_pos (by simp; omega)]
  | succ d ih =>
    intro n h h2
    refine Ev_succ ?_
    simp only [slices_Compare_int_int.l0]
    refine Ev_pos (by omega) (Ev_pos (by omega) (Ev_pos (by omega) ?_))
    by_cases c : n < v.length
    · refine Ev_neg (by omega) (Ev_pos (by omega) ?_)
      simp only [cmp_Compare_int_eq, Option.bind_some]
      rw [rd_cast, rd_cast, drop_cons u n 0 (by omega), drop_cons v n 0 c, cmpW_cons, wsucc (by omega)]
      by_cases g : u.getD n 0 < v.getD n 0
      · rw [if_pos g, if_pos g]
        exact Ev_neg (by omega) (Ev.now _)
      · rw [if_neg g, if_neg g]
        by_cases g2 : v.getD n 0 < u.getD n 0
        · rw [if_pos g2, if_pos g2]
          exact Ev_neg (by omega) (Ev.now _)
        · rw [if_neg g2, if_neg g2]
          exact Ev_pos rfl (ih (n + 1) (by omega) (by omega))
    · refine Ev_pos (by omega) (Ev_some ?_)
      rw [List.drop_eq_nil_of_le (show v.length ≤ n by omega), cmpW_nil_right, if_neg (by simp; omega)]

theorem slices_Compare_int_int_ev (u v : List Int) (hu : u.length ≤ 1048576) : Ev (fun k => slices_Compare_int_int.f k u v) (cmpW u v) := by
  unfold slices_Compare_int_int.f
  exact slices_Compare_int_int_loop u v hu _ 0 (Nat.zero_add _) (by omega)

/-! ### impl_CompareWords -/
theorem impl_CompareWords_ev (u v : List Int) (hu : u.length ≤ 1048576) : Ev (fun k => impl_CompareWords.f k u v) (cmpW u v) := by
  unfold impl_CompareWords.f
  exact Ev_call _ (slices_Compare_int_int_ev u v hu) (Ev.now _)

theorem cmpW_bound : ∀ u v : List Int, -1 ≤ cmpW u v ∧ cmpW u v ≤ 1
  | [], [] => by rw [cmpW]; omega
  | [], _ :: _ => by rw [cmpW]; omega
  | _ :: _, [] => by rw [cmpW]; omega
  | a :: u, b :: v => by
    rw [cmpW]
    have := cmpW_bound u v
    split
    · omega
    · split
      · omega
      · exact this
theorem FnWords_last (code : List Int) : ∀ t : List Int × List Int, spec_DrawCompareWords.Ok t → Ev (fun k => G.draw spec_DrawIsWord.Ok fun k bt1038 => ((impl_CompareWords.f k t.1 t.2).bind fun t1042 => ((spec_CompareWords.f k t.1 t.2).bind fun t1043 => (if t1042 = t1043 then ((impl_CompareWords.f k t.1 t.2).bind fun t1044 => ((impl_CompareWords.f k t.2 t.1).bind fun t1045 => (if t1044 = (wrap64 (-t1045)) then ((impl_IsWord.f k bt1038.1 bt1038.2).bind fun t1046 => ((spec_IsWord.f k bt1038.1 bt1038.2).bind fun t1047 => (some (t1046 == t1047)))) else (some false)))) else (some false))))) true := by
  rintro ⟨a, b⟩ ⟨ha, hb⟩
  simp only [] at ha hb
  refine Ev_const (draw_in ?_)
  rintro ⟨c, n⟩ ⟨hc, h0, h1⟩
  simp only [] at hc h0 h1
  refine Ev.rounds ?_
  obtain ⟨n, rfl⟩ := Int.eq_ofNat_of_zero_le h0
  have e1 := impl_CompareWords_ev a b (by omega)
  have e2 := impl_CompareWords_ev b a (by omega)
  have e3 := cmpW_anti b a
  have hw : wrap64 (-cmpW b a) = cmpW a b := by
    rw [e3]
    have := cmpW_bound a b
    exact w64 (by omega) (by omega)
  exact Ev_call _ e1 (Ev_call _ (spec_CompareWords_ev a b (by omega)) (Ev_pos rfl (Ev_call _ e1 (Ev_call _ e2 (Ev_pos hw.symm (Ev_call _ (impl_IsWord_ev c n (by omega)) (Ev_call _ (spec_IsWord_ev c n (by omega) (by omega)) (Ev_some (by simp)))))))))
theorem FnWords_l1 (code v p : List Int) (hv : v.length ≤ 1048576) (hp : p.length ≤ 1048576) (d : Nat) : ∀ n : Nat, n + d = (retR v p).length → Ev (fun k => laws_FnWords.l1 k code v p (retR v p) (n : Int)) true := by
  have hr := retR_rows v p hv
  induction d with
  | zero =>
    intro n h
    refine Ev_succ ?_
    simp only [laws_FnWords.l1]
    exact Ev_neg (by omega) (Ev_const (draw_in (fun t ht => Ev.rounds (FnWords_last code t ht))))
  | succ d ih =>
    intro n h
    refine Ev_succ ?_
    simp only [laws_FnWords.l1, rd_L1, Int.toNat_natCast, Option.bind_some, List.nil_append, List.length_nil]
    have hx : (retR v p).getD n [] ∈ retR v p := by rw [getD_eq (by omega)]; exact List.getElem_mem _
    have hp0 : 0 < p.length := by
      apply Nat.pos_of_ne_zero
      intro e
      unfold retR at hx
      rw [if_neg (fun h => by omega)] at hx
      simp at hx
    obtain ⟨g1, g2⟩ := ret_follow hp0 hx
    have hl := hr.2 _ hx
    have i := ih (n + 1) (by omega)
    have hyl : ((retR v p).getD n [] ++ p).length ≤ v.length := by
      obtain ⟨q, hq, _⟩ := g1
      omega
    rw [wsucc (n := n) (by omega)]
    refine Ev_pos (by omega) (Ev_pos (by omega) (Ev_pos (by omega) (Ev_pos (by omega) (Ev_call _ (impl_IsFactor_ev v _ hv (by omega)) (Ev_pos ?_ (Ev_call _ (impl_OccurrencesOf_ev _ p (by omega) hp) (Ev_pos ?_ i)))))))
    · rw [decide_eq_true_eq]
      have := fac_occ g1
      omega
    · rw [g2]; rfl
theorem FnWords_ret (code u : List Int) (b : Bool) (m : List (List Int)) (n : Int) : Ev (fun k => laws_FnWords.j3 k code u b m n false) true := by
  refine Ev_succ ?_
  simp only [laws_FnWords.j3]
  refine Ev_neg (by simp) (Ev_const (draw_in ?_))
  rintro ⟨v, p⟩ ⟨hv, hp⟩
  simp only [] at hv hp
  refine Ev.rounds ?_
  have hr := retR_rows v p (by omega)
  have ho := occ_len v p
  refine Ev_call _ (impl_ReturnWords_ev v p (by omega) (by omega)) (Ev_call _ (spec_ReturnWords_ev v p (by omega) (by omega)) (Ev_call _ (laws_sameWords_ev _ hr.1 hr.2) (Ev_pos rfl (Ev_call _ (impl_OccurrencesOf_ev v p (by omega) (by omega)) (Ev_call _ (spec_OccurrencesOf_ev v p (by omega) (by omega)) (Ev_call _ (laws_sameInts_ev _ (by omega)) (Ev_succ ?_)))))))
  simp only [laws_FnWords.j4]
  exact Ev_neg (by simp) (FnWords_l1 code v p (by omega) (by omega) _ 0 (Nat.zero_add _))
theorem FnWords_l0 (code u : List Int) (n : Int) (hu : u.length ≤ 1048576) (d : Nat) : ∀ i : Nat, i + d = (factR u n).1.length → Ev (fun k => laws_FnWords.l0 k code u (factR u n).2 (factR u n).1 (i : Int)) true := by
  by_cases c : factOk u n = true
  · have e : factR u n = (facs u n.toNat, true) := by unfold factR; rw [if_pos c]
    rw [e]
    simp only []
    have hl := facs_length u n.toNat
    have hlen := shortW_le (factOk_iff.1 c).1
    have hasc : Asc (facs u n.toNat) := canon_asc _
    induction d with
    | zero =>
      intro i h
      refine Ev_succ ?_
      simp only [laws_FnWords.l0]
      exact Ev_neg (by omega) (FnWords_ret code u true _ _)
    | succ d ih =>
      intro i h
      refine Ev_succ ?_
      simp only [laws_FnWords.l0]
      refine Ev_pos (by omega) (Ev_succ ?_)
      simp only [laws_FnWords.j3, rd_L1, Int.toNat_natCast]
      have hi : i < (facs u n.toNat).length := by omega
      have hx : (facs u n.toNat).getD i [] ∈ facs u n.toNat := by rw [getD_eq hi]; exact List.getElem_mem _
      have hf := mem_facs.1 hx
      have hfl := hf.length
      have hn := (factOk_iff.1 c).2
      have hf : Fac u ((facs u n.toNat).getD i []).length ((facs u n.toNat).getD i []) := by rw [hfl]; exact hf
      have i2 := ih (i + 1) (by omega)
      rw [wsucc (n := i) (by omega)]
      refine Ev_pos trivial (Ev_pos (by omega) (Ev_pos (by omega) (Ev_call _ (impl_IsFactor_ev u _ hu (by omega)) (Ev_pos ?_ ?_))))
      · rw [decide_eq_true_eq]
        have := fac_occ hf
        omega
      · refine Ev_ite (fun h0 => ?_) (fun _ => i2)
        obtain ⟨m, rfl⟩ : ∃ m, i = m + 1 := ⟨i - 1, by omega⟩
        rw [show wrap64 (((m + 1 : Nat) : Int) - 1) = (m : Int) from wnat m (by omega) (by omega)]
        simp only [Int.toNat_natCast]
        have hm : (facs u n.toNat).getD m [] ∈ facs u n.toNat := by rw [getD_eq (by omega)]; exact List.getElem_mem _
        have hml := (mem_facs.1 hm).length
        have hp := List.pairwise_iff_getElem.1 hasc m (m + 1) (by omega) hi (by omega)
        rw [← getD_eq (d := []) (show m + 1 < (facs u n.toNat).length from hi), ← getD_eq (d := []) (show m < (facs u n.toNat).length by omega)] at hp
        exact Ev_pos (by omega) (Ev_pos (by omega) (Ev_call _ (impl_CompareWords_ev _ _ (by omega)) (Ev_neg (by omega) i2)))
  · have e : factR u n = ([], false) := by unfold factR; rw [if_neg c]
    rw [e]
    intro i _
    refine Ev_succ ?_
    simp only [laws_FnWords.l0]
    exact Ev_ite (fun _ => FnWords_ret code u false _ _) (fun _ => FnWords_ret code u false _ _)
theorem FnWords_j0 (code : List Int) : Ev (fun k => laws_FnWords.j0 k code false) true := by
  refine Ev_succ ?_
  simp only [laws_FnWords.j0]
  refine Ev_neg (by simp) (Ev_const (draw_in ?_))
  rintro ⟨u, n⟩ ⟨hu, h0, h1⟩
  simp only [] at hu h0 h1
  refine Ev.rounds ?_
  have hr : (factR u n).1.length ≤ 1048576 ∧ ∀ x ∈ (factR u n).1, x.length ≤ 1048576 := by
    unfold factR
    split
    · rename_i c
      have h2 := facs_length u n.toNat
      refine ⟨by simp only []; omega, fun x hx => ?_⟩
      have := (mem_facs.1 hx).length
      omega
    · exact ⟨by simp, by simp⟩
  have hcl := compR_length u n
  have hwf : (Lit.int .i64 n).wf = true := by
    rcases (show n = -1 ∨ n = 0 ∨ n = 1 ∨ n = 2 ∨ n = 3 ∨ n = 4 ∨ n = 5 ∨ n = 6 by omega) with rfl | rfl | rfl | rfl | rfl | rfl | rfl | rfl <;> rfl
  obtain ⟨R, s1, s2, s3, s4⟩ := both_RightSpecial u n (by omega) hwf
  refine Ev_call _ (impl_FactorsOf_ev u n (by omega)) (Ev_call _ (spec_FactorsOf_ev u n (by omega)) (Ev_neg (by simp) (Ev_call _ (laws_sameWords_ev _ hr.1 hr.2) (Ev_pos rfl (Ev_call _ (impl_CountFactors_ev u n (by omega)) (Ev_call _ (spec_CountFactors_ev u n (by omega)) (Ev_pos rfl ?_)))))))
  refine Ev_call _ (impl_ComplexityOf_ev u n (by omega)) (Ev_call _ (spec_ComplexityOf_ev u n (by omega)) (Ev_call _ (laws_sameInts_ev _ (by omega)) (Ev_pos rfl (Ev_call _ s2 (Ev_call _ s1 (Ev_call _ (laws_sameWords_ev R s3 s4) (Ev_succ ?_)))))))
  simp only [laws_FnWords.j1]
  exact Ev_neg (by simp) (FnWords_l0 code u n (by omega) _ 0 (Nat.zero_add _))
theorem FnWords : laws_FnWords.Pure := by
  refine ⟨fun u hu => ?_, ?_⟩
  · obtain ⟨K, h⟩ := spec_FormatWord_ev u (by omega)
    exact ⟨K, _, h K (Nat.le_refl _), by have := fmtW_size u; omega⟩
  intro l _ _ _
  refine Ev.rounds ?_
  unfold laws_FnWords.f
  have hbig : ∃ b, laws_big.f l = some b := ⟨_, rfl⟩
  obtain ⟨b, hb⟩ := hbig
  simp only [hb, Option.bind_some]
  refine Ev_ite (fun _ => Ev.now _) (fun h => Ev_const (draw_in ?_))
  intro w hw
  have hw : w.length ≤ 1001 := hw
  refine Ev.rounds ?_
  have hpf := parse_fmt w
  have hsz := fmtW_size w
  have hfs : (fmtW w).size ≤ 405 := by
    unfold fmtW
    split
    · rename_i c
      obtain ⟨_, _, h2⟩ := okW_iff.1 c
      split
      · show (5 : Nat) ≤ _; omega
      · show ((w.map dig).toArray).size ≤ _
        rw [List.size_toArray, List.length_map]; omega
    · show (0 : Nat) ≤ _; omega
  have hj := FnWords_j0 l
  refine Ev_call _ (impl_FormatWord_ev w (by omega)) (Ev_call _ (impl_ParseWord_ev (fmtW w) ?_) (Ev_const (draw_in ?_)))
  · unfold fmtW
    split
    · rename_i c
      obtain ⟨_, _, h2⟩ := okW_iff.1 c
      split
      · show (5 : Nat) ≤ _; omega
      · show ((w.map dig).toArray).size ≤ _
        rw [List.size_toArray, List.length_map]; omega
    · show (0 : Nat) ≤ _; omega
  intro t ht
  have ht : t.size ≤ 250 := ht
  refine Ev.rounds ?_
  refine Ev_call _ (impl_ParseWord_ev t (by omega)) (Ev_call _ (spec_ParseWord_ev t (by omega)) (Ev_call _ (spec_FormatWord_ev w (by omega)) (Ev_pos rfl (Ev_call _ (spec_IsWord_ev w 16 (by omega) (by omega)) ?_))))
  rw [hpf]
  by_cases c : okWord w 16 = true
  · rw [if_pos c, c]
    exact Ev_neg (by simp) (Ev_pos rfl (Ev_call _ (laws_sameInts_ev w (by omega)) (Ev_pos rfl (by simpa using hj))))
  · have c' : okWord w 16 = false := by simpa using c
    rw [if_neg c, c']
    exact Ev_neg (by simp) (Ev_neg (by simp) (by simpa using hj))

end Go.Proofs.Ytolikggioekalab.Pure
