/- The Go functions that the law FnRuns reaches (part 15): each as a Lean function, and that its code comes to these answers. No condition beyond those written. -/
import Derived.Test.YtolikggioekalabGreatVMFnRunsx14
namespace Go.Proofs.YtolikggioekalabGreat.PFnRuns
open Go.RowKit Go.Proofs.YtolikggioekalabGreatW.PrintWords Go.Proofs.YtolikggioekalabGreatW.PrintLast Go.Proofs.YtolikggioekalabGreatW.PrintMore
attribute [local go_sem] max2_int min2_int max_two min_two max_three min_three max_four min_four
set_option maxHeartbeats 8000000
set_option maxRecDepth 100000
set_option linter.unusedVariables false
set_option linter.unusedSimpArgs false
def slices_Compare_int_int.l0 : Nat → List Int → List Int → List Int → Int → Int → Option (Int)
 | 0, _, _, _, _, _ => none
 | k + 1, x0, x1, x9, x10, x11 => if x11 < x10 then (if 0 ≤ x11 then (if x11 < (x9.length : Int) then (if x11 ≥ (x1.length : Int) then (some 1) else (if x11 < (x1.length : Int) then ((cmp_Compare_int.f (rd x9 x11) (rd x1 x11)).bind fun t604 => (if t604 = 0 then (slices_Compare_int_int.l0 k x0 x1 x9 x10 (wrap64 (x11 + 1))) else (some t604))) else (none))) else (none)) else (none)) else (if (x0.length : Int) < (x1.length : Int) then (some (-1)) else (some 0))
def slices_Compare_int_int.f (k : Nat) (l0 : List Int) (l1 : List Int) : Option (Int) := slices_Compare_int_int.l0 k l0 l1 l0 (l0.length : Int) 0
theorem slices_Compare_int_int.calls (k : Nat) (A0 : Option Addr) (c0 : Nat) (l0 : List Int) (A1 : Option Addr) (c1 : Nat) (l1 : List Int) (r : Int) (w : World) (hr0 : Kd.C (Kd.int .i64) w A0 l0.length l0) (hc0 : l0.length ≤ c0) (hr1 : Kd.C (Kd.int .i64) w A1 l1.length l1) (hc1 : l1.length ≤ c1) (h : slices_Compare_int_int.f k l0 l1 = some r) :
  Calls Tryz.prog 83 #[.slice A0 l0.length c0, .slice A1 l1.length c1] w fun e w' => e = .returned (.int .i64 r) ∧ Drawn0 w w' := by
 have HR0 := G.a hr0
 have HC0 := G.a hc0
 clear hr0 hc0
 have HR1 := G.a hr1
 have HC1 := G.a hc1
 clear hr1 hc1
 have H : (slices_Compare_int_int.l0 k l0 l1 l0 (l0.length : Int) 0) = some r := h
 clear h
 have H' := G.a H
 clear H
 go_enter Tryz.func83, Tryz.ntmps83
 go_wp2
 go_loopg [11] k (fun kq v11 w' => ∃ (x11_1 : Int), v11 = .int .i64 x11_1 ∧ Aside0 (slices_Compare_int_int.l0 kq l0 l1 l0 (l0.length : Int) x11_1 = some r) ∧ Aside0 (kq ≤ k) ∧ Drawn0 w w')
 case atStart => exact ⟨(0), G.tr, H', ⟨Nat.le_refl _⟩, G.dn⟩
 case round =>
  clear H'
  try clear c1; try clear p2
  obtain ⟨x11_1, rfl, HA, HK1, ⟨m1, rfl⟩⟩ := hrel
  cases gk with
  | zero => exact absurd HA.out (by simp [slices_Compare_int_int.l0])
  | succ k1 =>
   have H := HA.out
   clear HA
   simp only [slices_Compare_int_int.l0] at H
   by_cases c3 : x11_1 < (l0.length : Int)
   ·rw [if_pos c3] at H
    have c3b0 : decide (x11_1 < (l0.length : Int)) = true := decide_eq_true c3
    clear c3
    by_cases c4 : 0 ≤ x11_1
    ·rw [if_pos c4] at H
     have c4b0 : decide (0 ≤ x11_1) = true := decide_eq_true c4
     clear c4
     by_cases c5 : x11_1 < (l0.length : Int)
     ·rw [if_pos c5] at H
      have c5b0 : decide (x11_1 < (l0.length : Int)) = true := decide_eq_true c5
      clear c5
      by_cases c6 : x11_1 ≥ (l1.length : Int)
      ·rw [if_pos c6] at H
       have c6b0 : decide ((l1.length : Int) ≤ x11_1) = true := decide_eq_true c6
       clear c6
       obtain rfl := Option.some.inj H
       have p602 : 0 ≤ (x11_1 : Int) := G.odt
       have q602 : x11_1 < (l0.length : Int) := G.odt
       obtain ⟨ad602, e602, hx602_0⟩ := Kd.at_int HR0.out x11_1 p602 q602
       cases e602
       replace p602 := eq_true p602
       replace q602 := eq_true q602
       go_wp2
       go_ret
       exact ⟨G.tr, G.dn⟩
      ·rw [if_neg c6] at H
       have c6b0 : decide ((l1.length : Int) ≤ x11_1) = false := decide_eq_false c6
       clear c6
       by_cases c7 : x11_1 < (l1.length : Int)
       ·rw [if_pos c7] at H
        have c7b0 : decide (x11_1 < (l1.length : Int)) = true := decide_eq_true c7
        clear c7
        obtain ⟨t604, A8, H⟩ := G.bx H
        by_cases c9 : t604 = 0
        ·rw [if_pos c9] at H
         have c9b0 : (t604 == 0) = true := beq_iff_eq.mpr c9
         have c9b1 : (t604 != 0) = false := bne_eq_false_iff_eq.mpr c9
         clear c9
         have H' := G.a H
         clear H
         have p602 : 0 ≤ (x11_1 : Int) := G.odt
         have q602 : x11_1 < (l0.length : Int) := G.odt
         obtain ⟨ad602, e602, hx602_0⟩ := Kd.at_int HR0.out x11_1 p602 q602
         cases e602
         replace p602 := eq_true p602
         replace q602 := eq_true q602
         have p603 : 0 ≤ (x11_1 : Int) := G.odt
         have q603 : x11_1 < (l1.length : Int) := G.odt
         obtain ⟨ad603, e603, hx603_0⟩ := Kd.at_int HR1.out x11_1 p603 q603
         cases e603
         replace p603 := eq_true p603
         replace q603 := eq_true q603
         go_wp2_with (first | ((with_reducible refine gate_callee (f := 29) rfl ?_); refine goesL_ (some 26) rfl rfl Tryz.func29 (by kernel_rfl) rfl #[.int .i64 (rd l0 x11_1), .int .i64 (rd l1 x11_1)] rfl G.ar ?_; (with_reducible refine (cmp_Compare_int.calls (rd l0 x11_1) (rd l1 x11_1) t604 _ A8.out).mono ?_); rintro e w' ⟨rfl, ⟨nd, rfl⟩⟩; refine ⟨_, rfl, ?_⟩))
         go_roundg k1
         case measure => have := HK1.out; omega
         case rel => exact ⟨(wrap64 (x11_1 + 1)), G.tr, H', ⟨by have := HK1.out; omega⟩, G.dn⟩
        ·rw [if_neg c9] at H
         have c9b0 : (t604 == 0) = false := beq_eq_false_iff_ne.mpr c9
         have c9b1 : (t604 != 0) = true := bne_iff_ne.mpr c9
         obtain rfl := Option.some.inj H
         have p602 : 0 ≤ (x11_1 : Int) := G.odt
         have q602 : x11_1 < (l0.length : Int) := G.odt
         obtain ⟨ad602, e602, hx602_0⟩ := Kd.at_int HR0.out x11_1 p602 q602
         cases e602
         replace p602 := eq_true p602
         replace q602 := eq_true q602
         have p603 : 0 ≤ (x11_1 : Int) := G.odt
         have q603 : x11_1 < (l1.length : Int) := G.odt
         obtain ⟨ad603, e603, hx603_0⟩ := Kd.at_int HR1.out x11_1 p603 q603
         cases e603
         replace p603 := eq_true p603
         replace q603 := eq_true q603
         go_wp2_with (first | ((with_reducible refine gate_callee (f := 29) rfl ?_); refine goesL_ (some 26) rfl rfl Tryz.func29 (by kernel_rfl) rfl #[.int .i64 (rd l0 x11_1), .int .i64 (rd l1 x11_1)] rfl G.ar ?_; (with_reducible refine (cmp_Compare_int.calls (rd l0 x11_1) (rd l1 x11_1) t604 _ A8.out).mono ?_); rintro e w' ⟨rfl, ⟨nd, rfl⟩⟩; refine ⟨_, rfl, ?_⟩))
         go_ret
         exact ⟨G.tr, G.dn⟩
       ·rw [if_neg c7] at H
        exact absurd H (by simp)
     ·rw [if_neg c5] at H
      exact absurd H (by simp)
    ·rw [if_neg c4] at H
     exact absurd H (by simp)
   ·rw [if_neg c3] at H
    have c3b0 : decide (x11_1 < (l0.length : Int)) = false := decide_eq_false c3
    clear c3
    by_cases c10 : (l0.length : Int) < (l1.length : Int)
    ·rw [if_pos c10] at H
     have c10b0 : decide ((l0.length : Int) < (l1.length : Int)) = true := decide_eq_true c10
     have c10b1 : decide (l0.length < l1.length) = true := decide_eq_true (Int.ofNat_lt.mp c10)
     clear c10
     obtain rfl := Option.some.inj H
     go_wp2
     go_ret
     exact ⟨G.tr, G.dn⟩
    ·rw [if_neg c10] at H
     have c10b0 : decide ((l0.length : Int) < (l1.length : Int)) = false := decide_eq_false c10
     have c10b1 : decide (l0.length < l1.length) = false := decide_eq_false (fun h => c10 (Int.ofNat_lt.mpr h))
     clear c10
     obtain rfl := Option.some.inj H
     go_wp2
     go_ret
     exact ⟨G.tr, G.dn⟩
def slices_Equal_int_int.l0 : Nat → List Int → List Int → Int → Int → Option (Bool)
 | 0, _, _, _, _ => none
 | k + 1, x0, x1, x12, x13 => if x13 < x12 then (if 0 ≤ x13 then (if x13 < (x0.length : Int) then (if x13 < (x1.length : Int) then (if (rd x0 x13) = (rd x1 x13) then (slices_Equal_int_int.l0 k x0 x1 x12 (wrap64 (x13 + 1))) else (some false)) else (none)) else (none)) else (none)) else (some true)
def slices_Equal_int_int.f (k : Nat) (l0 : List Int) (l1 : List Int) : Option (Bool) := if (l0.length : Int) = (l1.length : Int) then (slices_Equal_int_int.l0 k l0 l1 (l0.length : Int) 0) else (some false)
theorem slices_Equal_int_int.calls (k : Nat) (A0 : Option Addr) (c0 : Nat) (l0 : List Int) (A1 : Option Addr) (c1 : Nat) (l1 : List Int) (r : Bool) (w : World) (hr0 : Kd.C (Kd.int .i64) w A0 l0.length l0) (hc0 : l0.length ≤ c0) (hr1 : Kd.C (Kd.int .i64) w A1 l1.length l1) (hc1 : l1.length ≤ c1) (h : slices_Equal_int_int.f k l0 l1 = some r) :
  Calls Tryz.prog 85 #[.slice A0 l0.length c0, .slice A1 l1.length c1] w fun e w' => e = .returned (.bool r) ∧ Drawn0 w w' := by
 have HR0 := G.a hr0
 have HC0 := G.a hc0
 clear hr0 hc0
 have HR1 := G.a hr1
 have HC1 := G.a hc1
 clear hr1 hc1
 have H : (if (l0.length : Int) = (l1.length : Int) then (slices_Equal_int_int.l0 k l0 l1 (l0.length : Int) 0) else (some false)) = some r := h
 clear h
 by_cases c3 : (l0.length : Int) = (l1.length : Int)
 ·rw [if_pos c3] at H
  have c3b0 : ((l0.length : Int) == (l1.length : Int)) = true := beq_iff_eq.mpr c3
  have c3b1 : ((l0.length : Int) != (l1.length : Int)) = false := bne_eq_false_iff_eq.mpr c3
  have c3b2 : (l0.length == l1.length) = true := by first | simpa using c3 | (simp at c3 ⊢; omega)
  clear c3
  have H' := G.a H
  clear H
  go_enter Tryz.func85, Tryz.ntmps85
  go_wp2
  repeat (go_quiet (fail); try go_wp2)
  go_loopg [13] k (fun kq v13 w' => ∃ (x13_1 : Int), v13 = .int .i64 x13_1 ∧ Aside0 (slices_Equal_int_int.l0 kq l0 l1 (l0.length : Int) x13_1 = some r) ∧ Aside0 (kq ≤ k) ∧ Drawn0 w w')
  case atStart => exact ⟨(0), G.tr, H', ⟨Nat.le_refl _⟩, G.dn⟩
  case round =>
   clear H'
   try clear c1; try clear p2; try clear c3; try clear c3b0; try clear c3b1; try clear c3b2
   obtain ⟨x13_1, rfl, HA, HK1, ⟨m1, rfl⟩⟩ := hrel
   cases gk with
   | zero => exact absurd HA.out (by simp [slices_Equal_int_int.l0])
   | succ k1 =>
    have H := HA.out
    clear HA
    simp only [slices_Equal_int_int.l0] at H
    by_cases c4 : x13_1 < (l0.length : Int)
    ·rw [if_pos c4] at H
     have c4b0 : decide (x13_1 < (l0.length : Int)) = true := decide_eq_true c4
     clear c4
     by_cases c5 : 0 ≤ x13_1
     ·rw [if_pos c5] at H
      have c5b0 : decide (0 ≤ x13_1) = true := decide_eq_true c5
      clear c5
      by_cases c6 : x13_1 < (l0.length : Int)
      ·rw [if_pos c6] at H
       have c6b0 : decide (x13_1 < (l0.length : Int)) = true := decide_eq_true c6
       clear c6
       by_cases c7 : x13_1 < (l1.length : Int)
       ·rw [if_pos c7] at H
        have c7b0 : decide (x13_1 < (l1.length : Int)) = true := decide_eq_true c7
        clear c7
        by_cases c8 : (rd l0 x13_1) = (rd l1 x13_1)
        ·rw [if_pos c8] at H
         have c8b0 : ((rd l0 x13_1) == (rd l1 x13_1)) = true := beq_iff_eq.mpr c8
         have c8b1 : ((rd l0 x13_1) != (rd l1 x13_1)) = false := bne_eq_false_iff_eq.mpr c8
         clear c8
         have H' := G.a H
         clear H
         have p605 : 0 ≤ (x13_1 : Int) := G.odt
         have q605 : x13_1 < (l0.length : Int) := G.odt
         obtain ⟨ad605, e605, hx605_0⟩ := Kd.at_int HR0.out x13_1 p605 q605
         cases e605
         replace p605 := eq_true p605
         replace q605 := eq_true q605
         have p606 : 0 ≤ (x13_1 : Int) := G.odt
         have q606 : x13_1 < (l1.length : Int) := G.odt
         obtain ⟨ad606, e606, hx606_0⟩ := Kd.at_int HR1.out x13_1 p606 q606
         cases e606
         replace p606 := eq_true p606
         replace q606 := eq_true q606
         go_wp2
         repeat (go_quiet (fail); try go_wp2)
         go_roundg k1
         case measure => have := HK1.out; omega
         case rel => exact ⟨(wrap64 (x13_1 + 1)), G.tr, H', ⟨by have := HK1.out; omega⟩, G.dn⟩
        ·rw [if_neg c8] at H
         have c8b0 : ((rd l0 x13_1) == (rd l1 x13_1)) = false := beq_eq_false_iff_ne.mpr c8
         have c8b1 : ((rd l0 x13_1) != (rd l1 x13_1)) = true := bne_iff_ne.mpr c8
         obtain rfl := Option.some.inj H
         have p605 : 0 ≤ (x13_1 : Int) := G.odt
         have q605 : x13_1 < (l0.length : Int) := G.odt
         obtain ⟨ad605, e605, hx605_0⟩ := Kd.at_int HR0.out x13_1 p605 q605
         cases e605
         replace p605 := eq_true p605
         replace q605 := eq_true q605
         have p606 : 0 ≤ (x13_1 : Int) := G.odt
         have q606 : x13_1 < (l1.length : Int) := G.odt
         obtain ⟨ad606, e606, hx606_0⟩ := Kd.at_int HR1.out x13_1 p606 q606
         cases e606
         replace p606 := eq_true p606
         replace q606 := eq_true q606
         go_wp2
         repeat (go_quiet (fail); try go_wp2)
         go_ret
         exact ⟨G.tr, G.dn⟩
       ·rw [if_neg c7] at H
        exact absurd H (by simp)
      ·rw [if_neg c6] at H
       exact absurd H (by simp)
     ·rw [if_neg c5] at H
      exact absurd H (by simp)
    ·rw [if_neg c4] at H
     have c4b0 : decide (x13_1 < (l0.length : Int)) = false := decide_eq_false c4
     clear c4
     obtain rfl := Option.some.inj H
     go_wp2
     repeat (go_quiet (fail); try go_wp2)
     go_ret
     exact ⟨G.tr, G.dn⟩
 ·rw [if_neg c3] at H
  have c3b0 : ((l0.length : Int) == (l1.length : Int)) = false := beq_eq_false_iff_ne.mpr c3
  have c3b1 : ((l0.length : Int) != (l1.length : Int)) = true := bne_iff_ne.mpr c3
  have c3b2 : (l0.length == l1.length) = false := by first | simpa using c3 | (simp at c3 ⊢; omega)
  obtain rfl := Option.some.inj H
  go_enter Tryz.func85, Tryz.ntmps85
  go_wp2
  repeat (go_quiet (fail); try go_wp2)
  go_ret
  exact ⟨G.tr, G.dn⟩
theorem diff_cmp1 (a b : Int) : cmp_Compare_int.f a b = some (if a < b then -1 else if b < a then 1 else 0) := by
 unfold cmp_Compare_int.f cmp_isNaN_int.f
 simp only [Option.bind_some, bne_self_eq_false, Bool.false_eq_true, if_false]
 split
 ·rfl
 ·split <;> rfl
theorem diff_succ {n m : Nat} (h : n < m) (hm : m ≤ 9223372036854775807) : wrap64 ((n : Int) + 1) = ((n + 1 : Nat) : Int) := by
 unfold wrap64; omega
theorem diff_cmp_loop (u v : List Int) (hu : u.length ≤ 9223372036854775807) (d : Nat) : ∀ n : Nat, n + d = u.length → n ≤ v.length →
  Ev (fun k => slices_Compare_int_int.l0 k u v u (u.length : Int) (n : Int)) (G.cmpW (u.drop n) (v.drop n)) := by
 induction d with
 | zero =>
  intro n h h2
  have hn : n = u.length := by omega
  subst hn
  refine G.Ev_succ ?_
  simp only [slices_Compare_int_int.l0]
  refine G.Ev_neg (by omega) ?_
  rw [List.drop_length, G.cmpW_nil_left]
  by_cases c : u.length < v.length
  ·refine G.Ev_pos (by omega) (G.Ev_some ?_)
   rw [if_neg (by simp; omega)]
  ·refine G.Ev_neg (by omega) (G.Ev_some ?_)
   rw [if_pos (by simp; omega)]
 | succ d ih =>
  intro n h h2
  refine G.Ev_succ ?_
  simp only [slices_Compare_int_int.l0]
  refine G.Ev_pos (by omega) (G.Ev_pos (by omega) (G.Ev_pos (by omega) ?_))
  by_cases c : n < v.length
  ·refine G.Ev_neg (by omega) (G.Ev_pos (by omega) ?_)
   simp only [diff_cmp1, Option.bind_some]
   rw [G.rd_cast, G.rd_cast, G.drop_cons u n 0 (by omega), G.drop_cons v n 0 c, G.cmpW_cons, diff_succ (show n < u.length by omega) hu]
   by_cases g : u.getD n 0 < v.getD n 0
   ·rw [if_pos g, if_pos g]
    exact G.Ev_neg (by omega) (Ev.now _)
   ·rw [if_neg g, if_neg g]
    by_cases g2 : v.getD n 0 < u.getD n 0
    ·rw [if_pos g2, if_pos g2]
     exact G.Ev_neg (by omega) (Ev.now _)
    ·rw [if_neg g2, if_neg g2]
     exact G.Ev_pos rfl (ih (n + 1) (by omega) (by omega))
  ·refine G.Ev_pos (by omega) (G.Ev_some ?_)
   rw [List.drop_eq_nil_of_le (show v.length ≤ n by omega), G.cmpW_nil_right, if_neg (by simp; omega)]
theorem diff_cmp_some (u v : List Int) (hu : u.length ≤ 9223372036854775807) : ∃ k, slices_Compare_int_int.f k u v = some (G.cmpW u v) := by
 refine Ev.rounds ?_
 unfold slices_Compare_int_int.f
 exact diff_cmp_loop u v hu _ 0 (Nat.zero_add _) (by omega)
theorem diff_eq_loop (a b : List Int) (hl : a.length = b.length) (hb : a.length ≤ 9223372036854775807) (d : Nat) : ∀ n : Nat, n ≤ a.length → a.length - n = d → a.take n = b.take n →
  Ev (fun k => slices_Equal_int_int.l0 k a b (a.length : Int) (n : Int)) (decide (a = b)) := by
 induction d with
 | zero =>
  intro n h1 h2 h3
  refine G.Ev_succ ?_
  simp only [slices_Equal_int_int.l0]
  refine G.Ev_neg (by omega) (G.Ev_some ?_)
  have : n = a.length := by omega
  subst this
  rw [List.take_length, hl, List.take_length] at h3
  simp [h3]
 | succ d ih =>
  intro n h1 h2 h3
  refine G.Ev_succ ?_
  simp only [slices_Equal_int_int.l0]
  refine G.Ev_pos (by omega) (G.Ev_pos (by omega) (G.Ev_pos (by omega) (G.Ev_pos (by omega) ?_)))
  rw [G.rd_cast, G.rd_cast, diff_succ (show n < a.length by omega) hb]
  refine G.Ev_ite (fun h => ?_) (fun h => G.Ev_some ?_)
  ·refine ih (n + 1) (by omega) (by omega) ?_
   rw [G.take_succ_getD a n 0 (by omega), G.take_succ_getD b n 0 (by omega), h3, h]
  ·symm
   rw [decide_eq_false_iff_not]
   intro e
   exact h (by rw [e])
theorem diff_eq_some (a b : List Int) (hb : a.length ≤ 9223372036854775807) : ∃ k, slices_Equal_int_int.f k a b = some (decide (a = b)) := by
 refine Ev.rounds ?_
 unfold slices_Equal_int_int.f
 refine G.Ev_ite (fun h => ?_) (fun h => G.Ev_some ?_)
 ·exact diff_eq_loop a b (by omega) hb _ 0 (by omega) rfl (by simp)
 ·symm
  rw [decide_eq_false_iff_not]
  intro e
  exact h (by rw [e])
structure DRow (w : World) (g : Nat) where
 v : Value
 xs : List Int
 A : Option Addr
 c : Nat
 hv : v = .slice A xs.length c
 hc : xs.length ≤ c
 hm : xs.length ≤ 9223372036854775807
 hC : ∀ W : World, (∀ k, k < w.heap.size → k ≠ g → W.heap[k]? = w.heap[k]?) → Kd.C (Kd.int .i64) W A xs.length xs
instance (w : World) (g : Nat) : Inhabited (DRow w g) := ⟨⟨.slice none 0 0, [], none, 0, rfl, Nat.le_refl _, Nat.zero_le _, fun W _ => Kd.C_nil _ W⟩⟩
theorem DRow.one (w : World) (g : Nat) : OneCell (fun p : DRow w g => p.v) := fun p => by show p.v.oneCell' = true; rw [p.hv]; rfl
def dcmp {w : World} {g : Nat} (p q : DRow w g) : Int := G.cmpW p.xs q.xs
def deq {w : World} {g : Nat} (p q : DRow w g) : Bool := decide (p.xs = q.xs)
theorem dcmp_swo (w : World) (g : Nat) : Go.Sort.SWO (ltOf (dcmp (w := w) (g := g))) where
 irrefl x := by unfold ltOf dcmp; rw [G.cmpW_refl]; rfl
 trans x y z h1 h2 := by
  unfold ltOf dcmp at *
  simp only [decide_eq_true_eq] at *
  exact G.cmpW_trans _ _ _ h1 h2
 ntrans x y z h1 h2 := by
  unfold ltOf dcmp at *
  simp only [decide_eq_false_iff_not] at *
  intro h3
  have a := G.cmpW_anti x.xs y.xs
  have b := G.cmpW_anti y.xs z.xs
  by_cases e : G.cmpW y.xs z.xs = 0
  ·have e' := (G.cmpW_zero _ _).1 e
   rw [e'] at h1
   exact h1 h3
  ·have h4 : G.cmpW z.xs y.xs < 0 := by omega
   exact h1 (G.cmpW_trans _ _ _ h3 h4)
theorem dcmp_calls {w : World} {g : Nat} (p q : DRow w g) (W : World) (hW : ∀ k, k < w.heap.size → k ≠ g → W.heap[k]? = w.heap[k]?) :
  Calls Tryz.prog 83 #[p.v, q.v] W fun e w' => e = .returned (.int .i64 (dcmp p q)) ∧ Drawn0 W w' := by
 obtain ⟨k, hk⟩ := diff_cmp_some p.xs q.xs p.hm
 rw [p.hv, q.hv]
 exact slices_Compare_int_int.calls k p.A p.c p.xs q.A q.c q.xs _ W (p.hC W hW) p.hc (q.hC W hW) q.hc hk
theorem deq_calls {w : World} {g : Nat} (p q : DRow w g) (W : World) (hW : ∀ k, k < w.heap.size → k ≠ g → W.heap[k]? = w.heap[k]?) :
  Calls Tryz.prog 85 #[p.v, q.v] W fun e w' => e = .returned (.bool (deq p q)) ∧ Drawn0 W w' := by
 obtain ⟨k, hk⟩ := diff_eq_some p.xs q.xs p.hm
 rw [p.hv, q.hv]
 exact slices_Equal_int_int.calls k p.A p.c p.xs q.A q.c q.xs _ W (p.hC W hW) p.hc (q.hC W hW) q.hc hk
def diff_sort_ren : Go.Shelf.Ren := ⟨fun | 6 => 82 | 15 => 42 | 14 => 92 | 28 => 62 | 29 => 63 | 20 => 95 | 21 => 96 | 22 => 97 | 23 => 98 | 24 => 99 | 25 => 100 | 26 => 101 | 27 => 102 | 46 => 103 | 47 => 77 | 48 => 78 | 49 => 104 | 50 => 105 | 57 => 106 | n => n, fun | 22 => 63 | 24 => 24 | 25 => 53 | 3 => 3 | 39 => 61 | 0 => 0 | 53 => 85 | 55 => 87 | 4 => 4 | 46 => 78 | 45 => 77 | 50 => 82 | 5 => 5 | 9 => 9 | 66 => 101 | 70 => 105 | 76 => 113 | 77 => 114 | n => n, fun | n => n⟩
theorem diff_sort : Go.Proofs.SlLaysF.n6 Tryz.prog diff_sort_ren :=
 {mixed := by kernel_rfl,
  f6 := ⟨Tryz.f82.name, by decide, Tryz.func82.trans (congrArg some (by kernel_rfl))⟩,
  f14 := ⟨Tryz.f92.name, by decide, Tryz.func92.trans (congrArg some (by kernel_rfl))⟩,
  f15 := Tryz.func42.trans (congrArg some (by kernel_rfl)),
  f20 := ⟨Tryz.f95.name, by decide, Tryz.func95.trans (congrArg some (by kernel_rfl))⟩,
  f21 := ⟨Tryz.f96.name, by decide, Tryz.func96.trans (congrArg some (by kernel_rfl))⟩,
  f22 := ⟨Tryz.f97.name, by decide, Tryz.func97.trans (congrArg some (by kernel_rfl))⟩,
  f23 := ⟨Tryz.f98.name, by decide, Tryz.func98.trans (congrArg some (by kernel_rfl))⟩,
  f24 := ⟨Tryz.f99.name, by decide, Tryz.func99.trans (congrArg some (by kernel_rfl))⟩,
  f25 := ⟨Tryz.f100.name, by decide, Tryz.func100.trans (congrArg some (by kernel_rfl))⟩,
  f26 := ⟨Tryz.f101.name, by decide, Tryz.func101.trans (congrArg some (by kernel_rfl))⟩,
  f27 := ⟨Tryz.f102.name, by decide, Tryz.func102.trans (congrArg some (by kernel_rfl))⟩,
  f28 := Tryz.func62.trans (congrArg some (by kernel_rfl)),
  f29 := Tryz.func63.trans (congrArg some (by kernel_rfl)),
  f46 := ⟨Tryz.f103.name, by decide, Tryz.func103.trans (congrArg some (by kernel_rfl))⟩,
  f47 := Tryz.func77.trans (congrArg some (by kernel_rfl)),
  f48 := Tryz.func78.trans (congrArg some (by kernel_rfl)),
  f49 := ⟨Tryz.f104.name, by decide, Tryz.func104.trans (congrArg some (by kernel_rfl))⟩,
  f50 := ⟨Tryz.f105.name, by decide, Tryz.func105.trans (congrArg some (by kernel_rfl))⟩,
  f57 := ⟨Tryz.f106.name, by decide, Tryz.func106.trans (congrArg some (by kernel_rfl))⟩,
  t0 := Tryz.underlying0,
  a0 := Tryz.isAgg0,
  z0 := Tryz.sizeOf0,
  v0 := Tryz.zeroValue0,
  t3 := Tryz.underlying3,
  a3 := Tryz.isAgg3,
  z3 := Tryz.sizeOf3,
  v3 := Tryz.zeroValue3,
  t4 := Tryz.underlying4,
  a4 := Tryz.isAgg4,
  z4 := Tryz.sizeOf4,
  v4 := Tryz.zeroValue4,
  t5 := Tryz.underlying5,
  a5 := Tryz.isAgg5,
  z5 := Tryz.sizeOf5,
  v5 := Tryz.zeroValue5,
  t9 := Tryz.underlying9,
  a9 := Tryz.isAgg9,
  z9 := Tryz.sizeOf9,
  v9 := Tryz.zeroValue9,
  t22 := Tryz.underlying63,
  a22 := Tryz.isAgg63,
  z22 := Tryz.sizeOf63,
  v22 := Tryz.zeroValue63,
  a24 := Tryz.isAgg24,
  z24 := Tryz.sizeOf24,
  t25 := Tryz.underlying53,
  a25 := Tryz.isAgg53,
  z25 := Tryz.sizeOf53,
  v25 := Tryz.zeroValue53,
  t39 := Tryz.underlying61,
  a39 := Tryz.isAgg61,
  z39 := Tryz.sizeOf61,
  v39 := Tryz.zeroValue61,
  t45 := Tryz.underlying77,
  a45 := Tryz.isAgg77,
  z45 := Tryz.sizeOf77,
  v45 := Tryz.zeroValue77,
  t46 := Tryz.underlying78,
  a46 := Tryz.isAgg78,
  z46 := Tryz.sizeOf78,
  v46 := Tryz.zeroValue78,
  t50 := Tryz.underlying82,
  a50 := Tryz.isAgg82,
  z50 := Tryz.sizeOf82,
  v50 := Tryz.zeroValue82,
  t53 := Tryz.underlying85,
  a53 := Tryz.isAgg85,
  z53 := Tryz.sizeOf85,
  v53 := Tryz.zeroValue85,
  t55 := Tryz.underlying87,
  a55 := Tryz.isAgg87,
  z55 := Tryz.sizeOf87,
  v55 := Tryz.zeroValue87,
  t66 := Tryz.underlying101,
  a66 := Tryz.isAgg101,
  z66 := Tryz.sizeOf101,
  v66 := Tryz.zeroValue101,
  t70 := Tryz.underlying105,
  a70 := Tryz.isAgg105,
  z70 := Tryz.sizeOf105,
  v70 := Tryz.zeroValue105,
  t76 := Tryz.underlying113,
  a76 := Tryz.isAgg113,
  z76 := Tryz.sizeOf113,
  v76 := Tryz.zeroValue113,
  t77 := Tryz.underlying114,
  a77 := Tryz.isAgg114,
  z77 := Tryz.sizeOf114,
  v77 := Tryz.zeroValue114 }
theorem diff_lays (w : World) (g size : Nat) : CmpLays1 Tryz.prog 83 #[] (fun p : DRow w g => p.v) dcmp g 0 size w := by
 intro m os dk hs x y
 refine (dcmp_calls x y _ (fun k hk hne => ?_)).mono fun e w' ⟨he, hd⟩ => ?_
 ·have hsz : (Go.Sort.putRow (fun p : DRow w g => p.v) (Go.Sort.ahead w m) g 0 dk).heap.size = w.heap.size := by simp [Go.Sort.putRow, Go.Sort.mapBlock, Go.Sort.ahead]
  unfold sortWorld Go.Sort.grow
  simp only [Array.getElem?_append, hsz, hk, if_true]
  simp only [Go.Sort.putRow, Go.Sort.mapBlock, Array.getElem?_modify, if_neg (Ne.symm hne)]
  rfl
 ·obtain ⟨q, hq⟩ := hd.out
  exact ⟨he, q, #[], by rw [hq, Go.Sort.grow_empty]⟩
theorem list_from {α β : Type} (F : α → β) : ∀ ps : List β, (∀ p ∈ ps, ∃ q, F q = p) → ∃ ds : List α, ds.map F = ps
 | [], _ => ⟨[], rfl⟩
 | p :: ps, h => by
  obtain ⟨q, hq⟩ := h p List.mem_cons_self
  obtain ⟨ds, hd⟩ := list_from F ps (fun x hx => h x (List.mem_cons_of_mem _ hx))
  exact ⟨q :: ds, by rw [List.map_cons, hq, hd]⟩
theorem diff_sorted (w : World) (g cap : Nat) (ds : List (DRow w g)) (t : G.Turned w w g cap 24 (ds.map (·.v))) (hsz : ds.length < 4611686018427387904) :
  Calls Tryz.prog 82 #[.slice (some ⟨g, 0, none⟩) ds.length cap, .func (.func 83) #[] #[]] w fun e w1 => e = .returned (.tuple #[]) ∧
   ∃ ds' : List (DRow w g), ds'.Perm ds ∧ (∀ i j, i < j → j < ds'.length → 0 ≤ G.cmpW (ds'.getD j default).xs (ds'.getD i default).xs) ∧ G.Turned w w1 g cap 24 (ds'.map (·.v)) := by
 have eg : ∀ args w, (callFunc 83 args).run Tryz.prog w = .ok (.enter 83 args) w := enters_of Tryz.func83 (by kernel_rfl) rfl
 obtain ⟨cur, hh, _, _⟩ := t.row
 have hH : Go.Sort.Holds (fun p : DRow w g => p.v) w g 0 ds.toArray := by
  intro j hj
  have hj' : j < ds.length := by simpa using hj
  have := t.cell j (default : DRow w g).v (by simpa using hj')
  rw [Nat.zero_add]
  refine ⟨this.1.trans ?_, this.2⟩
  congr 1
  rw [G.getD_eq (by simpa using hj'), getElem!_pos _ j hj]
  simp
 have hs := Any.slices_SortFunc diff_sort (fun p : DRow w g => p.v) (DRow.one w g) dcmp (dcmp_swo w g) 83 #[] g 0 cap ds.toArray w eg (diff_lays w g ds.toArray.size) hH (blk_lt hh) (by simpa using hsz)
 change Calls Tryz.prog 82 #[.slice (some ⟨g, 0, none⟩) ds.toArray.size cap, .func (.func 83) #[] #[]] w _ at hs
 rw [List.size_toArray] at hs
 refine hs.mono fun e w1 ⟨he, d', n, os, hp, hsrt, hw⟩ => ⟨he, d'.toList, ?_, ?_, ?_⟩
 ·obtain ⟨h1, _, h3⟩ := hp
  have e1 : d'.extract 0 ds.length = d' := by
   rw [Array.extract_eq_self_of_le]
   simp at h1
   omega
  have e2 : ds.toArray.extract 0 ds.length = ds.toArray := by
   rw [Array.extract_eq_self_of_le]
   simp
  change (d'.extract 0 ds.length).toList.Perm (ds.toArray.extract 0 ds.length).toList at h3
  rw [e1, e2] at h3
  exact h3
 ·intro i j hij hj
  have hj' : j < d'.size := by simpa using hj
  have hsz' : d'.size = ds.length := by simpa using hp.1
  have := hsrt i j (Nat.zero_le _) hij (by omega)
  unfold ltOf dcmp at this
  rw [decide_eq_false_iff_not, getElem!_pos _ j hj', getElem!_pos _ i (by omega)] at this
  rw [G.getD_eq hj, G.getD_eq (show i < d'.toList.length by simp; omega)]
  simp only [Array.getElem_toList]
  omega
 ·rw [hw]
  exact t.sorted n d' os (by rw [List.length_map]; have := hp.1; simp at this; omega)
theorem getD_v {w : World} {g : Nat} (ds : List (DRow w g)) (k : Nat) : (ds.map (·.v)).getD k (default : DRow w g).v = (ds.getD k default).v := by
 rw [List.getD_eq_getElem?_getD, List.getD_eq_getElem?_getD, List.getElem?_map]
 cases ds[k]? <;> rfl
theorem Turned0 {w W : World} {g cap er : Nat} {hs : List Value} (h : G.Turned w W g cap er hs) (vs : List Value) (o : Nat) (ho : hs.length ≤ o) : G.Turned w (W.setCells g o vs) g cap er hs := G.Turned.setCells vs o h ho
theorem Cp0.mk' {α : Type} {eq : α → α → Bool} {z : α} {l : List α} {k : Nat} (hk : k < l.length) (hall : ∀ j, j < k → G.stays eq z l j = true) (hdup : G.stays eq z l k = false) :
  G.Cp eq z l (k + 1) l ∧ (G.stayed eq z l (k + 1)).length = k := G.Cp.start hk hall hdup
set_option maxHeartbeats 4000000 in
set_option maxRecDepth 1000000 in
theorem diff_compacted (w W : World) (g cap : Nat) (ds : List (DRow w g)) (t : G.Turned w W g cap 24 (ds.map (·.v))) (hsz : ds.length < 4611686018427387904) :
  Calls Tryz.prog 84 #[.slice (some ⟨g, 0, none⟩) ds.length cap, .func (.func 85) #[] #[]] W fun e W' =>
   e = .returned (.slice (some ⟨g, 0, none⟩) (G.stayed deq default ds ds.length).length cap) ∧ G.Turned w W' g cap 24 ((G.stayed deq default ds ds.length).map (·.v)) := by
 have hcap := t.len
 rw [List.length_map] at hcap
 have T0 := G.a t
 clear t
 by_cases h2 : ds.length < 2
 ·go_enter Tryz.func84, Tryz.ntmps84
  go_wp2
  go_ret
  have e : G.stayed deq default ds ds.length = ds := by
   rw [G.stayed_take deq default ds _ (Nat.le_refl _) (fun j hj => (by have e0 : j = 0 := (by omega); rw [e0]; exact G.stays_first _ _ _)), List.take_length]
  rw [e]
  exact ⟨rfl, T0.out⟩
 ·go_enter Tryz.func84, Tryz.ntmps84
  go_wp2
  go_loopg [5] ds.length (fun gk s3 wr => ∃ k : Nat, 1 ≤ k ∧ k ≤ ds.length ∧ ds.length - k ≤ gk ∧ s3 = .int .i64 k ∧ Aside0 (G.Turned w wr g cap 24 (ds.map (·.v))) ∧ Aside0 (∀ j, j < k → G.stays deq default ds j = true))
  case atStart => exact ⟨1, Nat.le_refl _, by omega, by omega, rfl, T0, ⟨fun j hj => (by have e0 : j = 0 := (by omega); rw [e0]; exact G.stays_first _ _ _)⟩⟩
  case round =>
   obtain ⟨k, hk1, hk, hg, rfl, HT, HA⟩ := hrel
   by_cases hlt : k < ds.length
   ·obtain ⟨c1, f1⟩ := HT.out.cell k (default : DRow w g).v (by rw [List.length_map]; exact hlt)
    obtain ⟨c0, f0⟩ := HT.out.cell (k - 1) (default : DRow w g).v (by rw [List.length_map]; omega)
    rw [getD_v] at c1 c0
    clear f1 f0
    have HD : ∀ q, Calls Tryz.prog 85 #[(ds.getD k default).v, (ds.getD (k - 1) default).v] (wr.drewN q) fun e w' => e = .returned (.bool (deq (ds.getD k default) (ds.getD (k - 1) default))) ∧ ∃ m, w' = (wr.drewN q).drewN m := fun q => (deq_calls (ds.getD k default) (ds.getD (k - 1) default) (wr.drewN q) (fun j hj hne => HT.out.block j hj hne)).mono (fun _ _ h => ⟨h.1, h.2.out⟩)
    have HB : Aside0 (∀ b, deq (ds.getD k default) (ds.getD (k - 1) default) = b → b = true ∨ G.stays deq default ds k = true) := ⟨fun b hb => by cases b with
     | true => exact .inl rfl
     | false => exact .inr (G.stays_yes hb)⟩
    have HE : Aside0 (∀ b, deq (ds.getD k default) (ds.getD (k - 1) default) = b → b = false ∨ G.stays deq default ds k = false) := ⟨fun b hb => by cases b with
     | true => exact .inr (G.stays_no (by omega) hb)
     | false => exact .inl rfl⟩
    have hw1 : IntKind.i64.wrap ((k : Int) - 1) = (k : Int) - 1 := by unfold IntKind.wrap; simp [IntKind.bits, IntKind.signed]; omega
    have hw2 : 0 ≤ (k : Int) - 1 := by omega
    have hw3 : ((k : Int) - 1).toNat = k - 1 := by omega
    have hw4 : (k : Int) - 1 < (ds.length : Int) := by omega
    generalize hb : deq (ds.getD k default) (ds.getD (k - 1) default) = b at HD
    have HBb := HB.out b hb
    have HEb := HE.out b hb
    clear HB HE hb
    generalize (ds.getD k default).v = xv at c1 HD
    generalize (ds.getD (k - 1) default).v = yv at c0 HD
    have HBb' := G.a HBb
    have HEb' := G.a HEb
    clear HBb HEb
    cases b with
    | true =>
     go_wp2_with fail
     go_quiet ((go_at_call 85; exact Calls.quiet_of (HD _)))
     go_wp2
     have HN := HEb'.out.resolve_left (by simp)
     have HS := Cp0.mk' hlt HA.out HN
     have HS0 := G.a HS.1
     have HS1 := HS.2
     have HT2 := G.a (HT.out.drewN nq)
     clear c1 c0 HD HBb' HEb' HN HS HT HA hw1 hw2 hw3 hw4
     generalize hwq : wr.drewN nq = wq at HT2
     clear hwq
     go_loopg [5, 7] ds.length (fun gk s5 s7 w2 => ∃ (kk k2 : Nat) (cur : List (DRow w g)), s5 = .int .i64 kk ∧ s7 = .int .i64 k2 ∧ 1 ≤ k2 ∧ k + k2 ≤ ds.length ∧ ds.length - (k + k2) ≤ gk ∧ kk < k + k2 ∧ Aside0 (G.Turned w w2 g cap 24 (cur.map (·.v))) ∧ Aside0 (G.Cp deq default ds (k + k2) cur) ∧ Aside0 (kk = (G.stayed deq default ds (k + k2)).length))
     case atStart => exact ⟨k, 1, ds, rfl, rfl, Nat.le_refl _, by omega, by omega, by omega, HT2, HS0, ⟨HS1.symm⟩⟩
     case round =>
      obtain ⟨kk, k2, cur, rfl, rfl, h1, hle, hg2, hkk, HT3, HC, HK⟩ := hrel
      have hcs := HC.out.size hle
      by_cases hlt2 : k + k2 < ds.length
      ·obtain ⟨cm, _⟩ := HT3.out.cell (k + k2) (default : DRow w g).v (by rw [List.length_map, hcs]; exact hlt2)
       obtain ⟨cp, _⟩ := HT3.out.cell (k + (k2 - 1)) (default : DRow w g).v (by rw [List.length_map, hcs]; omega)
       obtain ⟨ck, fk⟩ := HT3.out.cell kk (default : DRow w g).v (by rw [List.length_map, hcs]; omega)
       rw [getD_v, HC.out.high (k + k2) (by rw [← HK.out]; omega)] at cm
       rw [getD_v, HC.out.high (k + (k2 - 1)) (by rw [← HK.out]; omega)] at cp
       clear hcs
       have hkm : k + k2 - 1 = k + (k2 - 1) := by omega
       have HD : ∀ q, Calls Tryz.prog 85 #[(ds.getD (k + k2) default).v, (ds.getD (k + (k2 - 1)) default).v] (wr.drewN q) fun e w' => e = .returned (.bool (deq (ds.getD (k + k2) default) (ds.getD (k + (k2 - 1)) default))) ∧ ∃ m, w' = (wr.drewN q).drewN m := fun q => (deq_calls (ds.getD (k + k2) default) (ds.getD (k + (k2 - 1)) default) (wr.drewN q) (fun j hj hne => HT3.out.block j hj hne)).mono (fun _ _ h => ⟨h.1, h.2.out⟩)
       have HBE : Aside0 (∀ b, deq (ds.getD (k + k2) default) (ds.getD (k + (k2 - 1)) default) = b → G.stays deq default ds (k + k2) = !b) := ⟨fun b hb => by cases b with
        | true => exact G.stays_no (by omega) (by rw [hkm]; exact hb)
        | false => exact G.stays_yes (by rw [hkm]; exact hb)⟩
       have hw1 : IntKind.i64.wrap ((k2 : Int) - 1) = (k2 : Int) - 1 := by unfold IntKind.wrap; simp [IntKind.bits, IntKind.signed]; omega
       have hw2 : 0 ≤ (k2 : Int) - 1 := by omega
       have hw3 : ((k2 : Int) - 1).toNat = k2 - 1 := by omega
       have hw4 : (k2 : Int) - 1 < ((ds.length - k : Nat) : Int) := by omega
       have hw5 : (k2 : Int) < ((ds.length - k : Nat) : Int) := by omega
       have hw6 : k2 < ds.length - k := by omega
       have hw7 : k2 - 1 < ds.length - k := by omega
       clear hkm
       generalize hb : deq (ds.getD (k + k2) default) (ds.getD (k + (k2 - 1)) default) = b at HD
       have HN := G.a (HBE.out b hb)
       clear HBE hb
       obtain ⟨Ax, nx, cx, ex⟩ : ∃ A n c, (ds.getD (k + k2) default).v = .slice A n c := ⟨_, _, _, (ds.getD (k + k2) default).hv⟩
       obtain ⟨Ay, ny, cy, ey⟩ : ∃ A n c, (ds.getD (k + (k2 - 1)) default).v = .slice A n c := ⟨_, _, _, (ds.getD (k + (k2 - 1)) default).hv⟩
       rw [ex] at cm HD
       rw [ey] at cp HD
       have EX := G.a ex
       clear ex ey
       generalize (cur.map (·.v)).getD kk (default : DRow w g).v = old at ck
       cases b with
       | true =>
        clear ck fk
        go_wp2_with fail
        go_quiet ((go_at_call 85; exact Calls.quiet_of (HD _)))
        go_wp2
        have HS := HC.out.skip HN.out
        go_roundg (ds.length - (k + (k2 + 1)))
        case measure => omega
        case rel => exact ⟨kk, k2 + 1, cur, rfl, by go_num, by omega, by omega, Nat.le_refl _, by omega, ⟨HT3.out.drewN nq⟩, ⟨HS.1⟩, ⟨HK.out.trans HS.2.symm⟩⟩
       | false =>
        go_wp2_with fail
        go_quiet ((go_at_call 85; exact Calls.quiet_of (HD _)))
        go_wp2
        have HS := HC.out.keep hlt2 HN.out
        rw [← HK.out] at HS
        have HT4 := (HT3.out.drewN nq).setCell kk (.slice Ax nx cx)
        go_roundg (ds.length - (k + (k2 + 1)))
        case measure => omega
        case rel => exact ⟨kk + 1, k2 + 1, cur.set kk (ds.getD (k + k2) default), by go_num, by go_num, by omega, by omega, Nat.le_refl _, by omega, ⟨by rw [List.map_set, EX.out]; exact HT4⟩, ⟨HS.1⟩, ⟨HS.2.symm⟩⟩
      ·have hend : k + k2 = ds.length := by omega
       have hcl : ∀ ty, (Builtin.clear_ #[63] ty #[.slice (some ⟨g, kk, none⟩) (ds.length - kk) (cap - kk)]).run Tryz.prog wr = .ok (.tuple #[]) (wr.setCells g kk (List.replicate (ds.length - kk) (.slice none 0 0))) :=
        fun ty => Lib.run_clear_slice wr _ _ ty _ Tryz.underlying63 Tryz.zeroValue24 rfl rfl g kk _ _ (by omega) (fun j hj => by rw [(HT3.out.cell (kk + j) (.slice none 0 0) (by rw [List.length_map, hcs]; omega)).1]; rfl) (fun j hj => (HT3.out.cell (kk + j) (.slice none 0 0) (by rw [List.length_map, hcs]; omega)).2)
       have HCS := G.a hcs
       clear hcs
       go_wp2
       go_ret
       have hK := HK.out
       rw [hend] at hK
       have hcur := HC.out.1
       rw [hend] at hcur
       refine ⟨by rw [← hK]; rfl, ?_⟩
       have e1 : (cur.map (·.v)).take kk = (G.stayed deq default ds ds.length).map (·.v) := by
        rw [← List.map_take]
        conv => lhs; rw [hcur, hK, List.take_left]
       have := Turned0 (HT3.out.take kk) (List.replicate (ds.length - kk) (.slice none 0 0)) kk (by rw [List.length_take]; omega)
       rwa [e1] at this
    | false =>
     go_wp2_with fail
     go_quiet ((go_at_call 85; exact Calls.quiet_of (HD _)))
     go_wp2
     go_roundg (ds.length - (k + 1))
     case measure => omega
     case rel =>
      have HN := HBb'.out.resolve_left (by simp)
      refine ⟨k + 1, by omega, by omega, Nat.le_refl _, by go_num, ⟨HT.out.drewN nq⟩, ⟨fun j hj => ?_⟩⟩
      by_cases e : j = k
      ·rw [e]; exact HN
      ·exact HA.out j (by omega)
   ·have hke : k = ds.length := by omega
    subst hke
    go_wp2
    go_ret
    have e : G.stayed deq default ds ds.length = ds := by
     rw [G.stayed_take deq default ds _ (Nat.le_refl _) HA.out, List.take_length]
    rw [e]
    exact ⟨rfl, HT.out⟩
def impl_different.f (k : Nat) (l0 : List (List Int)) : Option (List (List Int)) := if l0.length < 4611686018427387904 then some (G.canon l0) else none
theorem diff_short (W : World) (A : Option Addr) (cap : Nat) :
  Calls Tryz.prog 84 #[.slice A 0 cap, .func (.func 85) #[] #[]] W fun e W' => e = .returned (.slice A 0 cap) ∧ W' = W := by
 go_enter Tryz.func84, Tryz.ntmps84
 go_wp2
 go_ret
 exact ⟨rfl, rfl⟩
set_option maxHeartbeats 4000000 in
theorem impl_different.calls (k : Nat) (P0_ : Nat → Prop) (v : Value) (l0 : List (List Int)) (r : List (List Int)) (w0 w : World) (hB : Below w0.heap.size w0 w) (ho : Kd.S (Kd.slice 3 (Kd.int .i64)) 24 w w0.heap.size P0_ v l0) (h : impl_different.f k l0 = some r) :
  Calls Tryz.prog 65 #[v] w fun e w' => ∃ v', e = .returned v' ∧ Kd.S (Kd.slice 3 (Kd.int .i64)) 24 w' w0.heap.size P0_ v' r ∧ Below w0.heap.size w0 w' ∧ Kept w w' (fun k_ => P0_ k_) := by
 unfold impl_different.f at h
 by_cases hsz : l0.length < 4611686018427387904
 ·rw [if_pos hsz] at h
  have hr := (Option.some.inj h).symm
  clear h
  rcases Nat.eq_zero_or_pos l0.length with hz | hpos
  ·obtain rfl : l0 = [] := List.length_eq_zero_iff.1 hz
   obtain ⟨A, c, rfl⟩ := Kd.S_slice ho
   have hs := AnyF.slices_SortFunc_none { diff_sort with } A c (.func (.func 83) #[] #[]) w
   change Calls Tryz.prog 82 #[.slice A 0 c, .func (.func 83) #[] #[]] w _ at hs
   have hc := diff_short w A c
   have HO := G.a ho
   have HB := G.a hB
   have HR := G.a hr
   clear ho hB hr hz hsz
   show Calls Tryz.prog 65 #[.slice A 0 c] w _
   go_enter Tryz.func65, Tryz.ntmps65
   go_wp2_with (first | (go_at_call 82; refine hs.mono ?_; rintro e w' ⟨rfl, rfl⟩) | (go_at_call 84; refine hc.mono ?_; rintro e w' ⟨rfl, rfl⟩))
   go_ret
   refine ⟨_, rfl, ?_, HB.out, Kept.refl _ _⟩
   rw [HR.out]
   exact HO.out
  ·obtain ⟨g, cap, rfl, hbase, hlt, _⟩ := Kd.S_form ho hpos
   obtain ⟨ps, hps, hP⟩ := G.Pile_of_S ho
   have hpl : ps.length = l0.length := by rw [← hps, List.length_map]
   have hds : ∃ ds : List (DRow w g), ds.map (fun q => (q.v, q.xs)) = ps := by
    refine list_from _ _ (fun p hp => ?_)
    have hR := hP.2.2.1 p hp
    have hC : ∀ W : World, (∀ k, k < w.heap.size → k ≠ g → W.heap[k]? = w.heap[k]?) → ∃ A c, p.1 = .slice A p.2.length c ∧ p.2.length ≤ c ∧ Kd.C (Kd.int .i64) W A p.2.length p.2 := fun W hW =>
     Kd.R_reads (Kd.R_step hR (fun k hk hkl => hW k hkl (fun e => hk.2 (by rw [e]; rfl))))
    obtain ⟨A, c, e, hc, hCw⟩ := hC w (fun _ _ _ => rfl)
    refine ⟨⟨p.1, p.2, A, c, e, hc, hCw.2.1, fun W hW => ?_⟩, rfl⟩
    obtain ⟨A', c', e', _, h'⟩ := hC W hW
    rw [e] at e'
    injection e' with ea _ _
    rw [ea]
    exact h'
   obtain ⟨ds, hds⟩ := hds
   have hv : ds.map (·.v) = ps.map (·.1) := by rw [← hds, List.map_map]; rfl
   have hx : ds.map (·.xs) = l0 := by rw [← hps, ← hds, List.map_map]; rfl
   have hdl : ds.length = l0.length := by rw [← hx, List.length_map]
   have hT : G.Turned w w g cap 24 (ds.map (·.v)) := by
    rw [hv]
    have := hP.2.1
    rw [hpl] at this
    exact G.Turned.start this
   have hs := diff_sorted w g cap ds hT (by omega)
   have hc := fun (ds' : List (DRow w g)) (W : World) (t : G.Turned w W g cap 24 (ds'.map (·.v))) (hl : ds'.length = l0.length) => (diff_compacted w W g cap ds' t (by omega))
   rw [hdl] at hs
   have HC := G.a (show ∀ (ds' : List (DRow w g)) (W : World) (t : G.Turned w W g cap 24 (ds'.map (·.v))) (hl : ds'.length = l0.length), Calls Tryz.prog 84 #[.slice (some ⟨g, 0, none⟩) l0.length cap, .func (.func 85) #[] #[]] W fun e W' =>
    e = .returned (.slice (some ⟨g, 0, none⟩) (G.stayed deq default ds' ds'.length).length cap) ∧ G.Turned w W' g cap 24 ((G.stayed deq default ds' ds'.length).map (·.v)) from fun ds' W t hl => by rw [← hl]; exact diff_compacted w W g cap ds' t (by omega))
   have HEND : Aside0 (∀ (ds' : List (DRow w g)) (W' : World), ds'.Perm ds → (∀ i j, i < j → j < ds'.length → 0 ≤ G.cmpW (ds'.getD j default).xs (ds'.getD i default).xs) → G.Turned w W' g cap 24 ((G.stayed deq default ds' ds'.length).map (·.v)) →
     Kd.S (Kd.slice 3 (Kd.int .i64)) 24 W' w0.heap.size P0_ (.slice (some ⟨g, 0, none⟩) (G.stayed deq default ds' ds'.length).length cap) r ∧ Below w0.heap.size w0 W' ∧ Kept w W' (fun k_ => P0_ k_)) := by
    refine ⟨fun ds' W' hperm hsrt hT' => ?_⟩
    have hkeys := G.stayed_keys (key := fun p : DRow w g => p.xs) (z := default) (l := ds') (eq := deq) (fun x y => rfl) hsrt ds'.length (Nat.le_refl _)
    rw [List.take_length] at hkeys
    have hsub := G.stayed_sub deq default ds' ds'.length (Nat.le_refl _)
    rw [List.take_length] at hsub
    generalize G.stayed deq default ds' ds'.length = st at hkeys hsub hT'
    have hres : r = st.map (·.xs) := by
     rw [hr]
     refine (G.canon_eq hkeys.1 (fun x => ?_)).symm
     rw [hkeys.2 x, ← hx]
     exact (hperm.map _).mem_iff
    have hP2 : (ds'.map (fun q => (q.v, q.xs))).Perm ps := by rw [← hds]; exact hperm.map _
    have hpw : (st.map (fun q => (q.v, q.xs))).Pairwise (fun a b => ∀ k, a.1.ownBlock = some k → b.1.ownBlock ≠ some k) := by
     have h1 : (ds'.map (fun q => (q.v, q.xs))).Pairwise (fun a b => ∀ k, a.1.ownBlock = some k → b.1.ownBlock ≠ some k) :=
      (hP2.pairwise_iff (fun {a b} hab k h1 h2 => hab k h2 h1)).2 hP.2.2.2
     exact h1.sublist (hsub.map _)
    have hT2 : G.Turned w W' g cap 24 ((st.map (fun q => (q.v, q.xs))).map (·.1)) := by rw [List.map_map]; exact hT'
    have hF := G.Pile.turned hP hT2 (fun p hp => hP2.mem_iff.1 ((hsub.map _).subset hp)) hpw
    have hS := hF.toS
    rw [List.length_map, List.map_map] at hS
    refine ⟨?_, ?_, ?_, ?_⟩
    ·rw [hres]; exact hS
    ·exact hB.trans ⟨hT'.os, hT'.tape, hT'.output, hT'.size, fun k hk => hT'.block k (Nat.lt_of_lt_of_le hk hB.size) (by omega)⟩
    ·exact hT'.size
    ·exact fun i hi hn => hT'.block i hi (fun e => hn (hP.1 i (by rw [e]; rfl)))
   clear hc hT hv hx hds hpl hP hps hr ho hB
   have HL := G.a hdl
   clear hdl hsz hpos hbase hlt
   go_enter Tryz.func65, Tryz.ntmps65
   go_wp2_with (first | (go_at_call 82; refine hs.mono ?_; rintro e w1 ⟨rfl, ds', hperm, hsrt, hT1⟩; have HP := G.a hperm; have HSR := G.a hsrt; have hcc := HC.out ds' w1 hT1 (by rw [hperm.length_eq]; exact HL.out); clear hperm hsrt hT1) | (go_at_call 84; refine hcc.mono ?_; rintro e w2 ⟨rfl, hT2⟩; have HT2 := G.a hT2; clear hT2))
   go_ret
   exact ⟨_, rfl, HEND.out ds' _ HP.out HSR.out HT2.out⟩
 ·rw [if_neg hsz] at h
  cases h
def impl_ConjugatesOf.l0 : Nat → List Int → List (List Int) → Int → Int → Option ((List (List Int)))
 | 0, _, _, _, _ => none
 | k + 1, x0, x3, x11, x12 => if x12 < x11 then ((some (([] : List Int) : List Int)).bind fun y618 => (if 0 ≤ x12 then (if x12 ≤ (x0.length : Int) then (if y618.length + (x0.drop (x12 : Int).toNat).length < 17592186044416 then ((some (y618 ++ (x0.drop (x12 : Int).toNat) : List Int)).bind fun y622 => (if y622.length + (x0.take (x12 : Int).toNat).length < 17592186044416 then (if x3.length < 5864062014805 then (impl_ConjugatesOf.l0 k x0 (x3 ++ [(y622 ++ (x0.take (x12 : Int).toNat))]) x11 (wrap64 (x12 + 1))) else (none)) else (none))) else (none)) else (none)) else (none))) else ((impl_different.f k x3).bind fun t632 => (some t632))
def impl_ConjugatesOf.f (k : Nat) (l0 : List Int) : Option ((List (List Int))) := (some (([] : List (List Int)) : List (List Int))).bind fun y615 => (if (l0.length : Int) > 64 then (some y615) else (impl_ConjugatesOf.l0 k l0 y615 (l0.length : Int) 0))
def impl_ConjugatesOf.T7 : Bool × List (List Nat × List Nat) := (true, [([], []), ([], []), ([], []), ([], []), ([2, 3], [2, 3]), ([1, 4], [1, 4]), ([], []), ([], []), ([6, 7], [6, 7]), ([5, 8, 5], [5, 8]), ([9], [9]), ([0, 10, 9], [0, 10]), ([11, 11, 0, 1, 2, 3, 4, 5, 6, 7, 8, 9, 10, 11], [0, 11])])
def impl_ConjugatesOf.B7 : List Nat := [0, 0, 0, 0, 12, 30, 0, 0, 192, 510, 1022, 2047, 4095]
theorem impl_ConjugatesOf.tab7 : rtab .any (opsOf Tryz.f45 7) = impl_ConjugatesOf.T7 := by kernel_rfl
theorem impl_ConjugatesOf.bits7 : waitsOk impl_ConjugatesOf.T7.2 impl_ConjugatesOf.B7 = true := by kernel_rfl
theorem impl_ConjugatesOf.calls (k : Nat) (A0 : Option Addr) (c0 : Nat) (l0 : List Int) (r : List (List Int)) (w : World) (hr0 : Kd.C (Kd.int .i64) w A0 l0.length l0) (hc0 : l0.length ≤ c0) (h : impl_ConjugatesOf.f k l0 = some r) :
  Calls Tryz.prog 45 #[.slice A0 l0.length c0] w fun e w' => ∃ v0_ : Value, e = .returned (v0_) ∧ Kd.S (Kd.slice 3 (Kd.int .i64)) 24 w' w.heap.size (fun _ => True) v0_ r ∧ Below w.heap.size w w' := by
 have HR0 := G.a hr0
 have HC0 := G.a hc0
 clear hr0 hc0
 have HB := G.a (Below.refl w.heap.size w)
 have H : ((some (([] : List (List Int)) : List (List Int))).bind fun y615 => (if (l0.length : Int) > 64 then (some y615) else (impl_ConjugatesOf.l0 k l0 y615 (l0.length : Int) 0))) = some r := h
 clear h
 obtain ⟨y615, hy615⟩ : ∃ y_ : List (List Int), y_ = (([] : List (List Int))) := ⟨_, rfl⟩
 replace H : (if (l0.length : Int) > 64 then (some y615) else (impl_ConjugatesOf.l0 k l0 y615 (l0.length : Int) 0)) = some r := by first | (rw [hy615]; with_reducible exact H) | (have H2_ := (Option.bind_some _ _).symm.trans H; rw [hy615]; with_reducible exact H2_) | (have H2_ := (Option.bind_some _ _).symm.trans H; with_reducible exact H2_) | with_reducible exact H | (rw [hy615]; exact H) | exact H
 have Ny615 := G.a hy615
 clear hy615
 by_cases c2 : (l0.length : Int) > 64
 ·rw [if_pos c2] at H
  have c2b0 : decide (64 < (l0.length : Int)) = true := decide_eq_true c2
  have c2b1 : decide (64 < l0.length) = true := decide_eq_true (by omega)
  clear c2
  obtain rfl := Option.some.inj H
  go_enter Tryz.func45, Tryz.ntmps45
  go_wp2_with (first | ((with_reducible refine gate_dst (N := 5) rfl ?_); refine Kd.S_lit (Kd.slice 3 (Kd.int .i64)) _ 24 ?hg (N := 5) ?hd (xs := ([] : List (List Int))) (inner := []) (ok := fun _ => True) (okp := fun _ => True) ?hr ?hp (fun _ hk => hk) trivial (Below.refl _ _) (Nat.le_refl _) (by simp) ?_; (case hd => rfl); (case hg => rfl); (case hr => first | (go_simp; done) | (go_simp; rfl)); (case hp => exact (Reps.none _ _)); intro v616 w3 ho4 hb hg_ hnew_; clear hg_ hnew_; (first | rw [← Ny615.out] at ho4 | (simp only [Int.reduceToNat] at ho4; rw [← Ny615.out] at ho4)); have n0_ := G.a (Kd.S_lower ho4 (below_size G.bel)); have n1_ := G.a (below_step G.bel hb); clear HB; have HO617 := n0_; have HB := n1_; clear n0_ n1_; clear hb ho4))
  go_ret
  exact ⟨_, G.er, G.kS HO617.out, G.bel⟩
 ·rw [if_neg c2] at H
  have c2b0 : decide (64 < (l0.length : Int)) = false := decide_eq_false c2
  have c2b1 : decide (64 < l0.length) = false := decide_eq_false (by omega)
  clear c2
  have H' := G.a H
  clear H
  go_enter Tryz.func45, Tryz.ntmps45
  go_wp2_with (first | ((with_reducible refine gate_dst (N := 5) rfl ?_); refine Kd.S_lit (Kd.slice 3 (Kd.int .i64)) _ 24 ?hg (N := 5) ?hd (xs := ([] : List (List Int))) (inner := []) (ok := fun _ => True) (okp := fun _ => True) ?hr ?hp (fun _ hk => hk) trivial (Below.refl _ _) (Nat.le_refl _) (by simp) ?_; (case hd => rfl); (case hg => rfl); (case hr => first | (go_simp; done) | (go_simp; rfl)); (case hp => exact (Reps.none _ _)); intro v616 w5 ho6 hb hg_ hnew_; clear hg_ hnew_; (first | rw [← Ny615.out] at ho6 | (simp only [Int.reduceToNat] at ho6; rw [← Ny615.out] at ho6)); have n0_ := G.a (Kd.S_lower ho6 (below_size G.bel)); have n1_ := G.a (below_step G.bel hb); clear HB; have HO617 := n0_; have HB := n1_; clear n0_ n1_; clear hb ho6))
  go_loopg [3, 12] k (fun kq v3 v12 w' => ∃ (x3_1 : List (List Int)) (x12_1 : Int), v12 = .int .i64 x12_1 ∧ Aside0 (impl_ConjugatesOf.l0 kq l0 x3_1 (l0.length : Int) x12_1 = some r) ∧ Aside0 (kq ≤ k) ∧ Aside0 (Kd.S (Kd.slice 3 (Kd.int .i64)) 24 w' w.heap.size (fun _ => True) v3 x3_1) ∧ Aside0 (Below w.heap.size w w'))
  case atStart => exact ⟨(y615), (0), G.tr, H', ⟨Nat.le_refl _⟩, ⟨G.kS HO617.out⟩, ⟨G.bel⟩⟩
  case round =>
   clear H'
   try clear c2; try clear c2b0; try clear c2b1; try clear p2; try clear c4
   obtain ⟨x3_1, x12_1, rfl, HA, HK1, HO_3, HB⟩ := hrel
   cases gk with
   | zero => exact absurd HA.out (by simp [impl_ConjugatesOf.l0])
   | succ k1 =>
    have H := HA.out
    clear HA
    simp only [impl_ConjugatesOf.l0] at H
    by_cases c7 : x12_1 < (l0.length : Int)
    ·rw [if_pos c7] at H
     have c7b0 : decide (x12_1 < (l0.length : Int)) = true := decide_eq_true c7
     clear c7
     obtain ⟨y618, hy618⟩ : ∃ y_ : List Int, y_ = (([] : List Int)) := ⟨_, rfl⟩
     replace H : (if 0 ≤ x12_1 then (if x12_1 ≤ (l0.length : Int) then (if y618.length + (l0.drop (x12_1 : Int).toNat).length < 17592186044416 then ((some (y618 ++ (l0.drop (x12_1 : Int).toNat) : List Int)).bind fun y622 => (if y622.length + (l0.take (x12_1 : Int).toNat).length < 17592186044416 then (if x3_1.length < 5864062014805 then (impl_ConjugatesOf.l0 k1 l0 (x3_1 ++ [(y622 ++ (l0.take (x12_1 : Int).toNat))]) (l0.length : Int) (wrap64 (x12_1 + 1))) else (none)) else (none))) else (none)) else (none)) else (none)) = some r := by first | (rw [hy618]; with_reducible exact H) | (have H2_ := (Option.bind_some _ _).symm.trans H; rw [hy618]; with_reducible exact H2_) | (have H2_ := (Option.bind_some _ _).symm.trans H; with_reducible exact H2_) | with_reducible exact H | (rw [hy618]; exact H) | exact H
     have Ny618 := G.a hy618
     clear hy618
     by_cases c8 : 0 ≤ x12_1
     ·rw [if_pos c8] at H
      have c8b0 := eq_true c8
      have c8b1 : decide (0 ≤ x12_1) = true := decide_eq_true c8
      clear c8
      by_cases c9 : x12_1 ≤ (l0.length : Int)
      ·rw [if_pos c9] at H
       have c9b0 := eq_true c9
       have c9b1 : decide (x12_1 ≤ (l0.length : Int)) = true := decide_eq_true c9
       clear c9
       by_cases c10 : y618.length + (l0.drop (x12_1 : Int).toNat).length < 17592186044416
       ·rw [if_pos c10] at H
        have LMc10 := G.a c10
        clear c10
        obtain ⟨y622, hy622⟩ : ∃ y_ : List Int, y_ = (y618 ++ (l0.drop (x12_1 : Int).toNat)) := ⟨_, rfl⟩
        replace H : (if y622.length + (l0.take (x12_1 : Int).toNat).length < 17592186044416 then (if x3_1.length < 5864062014805 then (impl_ConjugatesOf.l0 k1 l0 (x3_1 ++ [(y622 ++ (l0.take (x12_1 : Int).toNat))]) (l0.length : Int) (wrap64 (x12_1 + 1))) else (none)) else (none)) = some r := by first | (rw [hy622]; with_reducible exact H) | (have H2_ := (Option.bind_some _ _).symm.trans H; rw [hy622]; with_reducible exact H2_) | (have H2_ := (Option.bind_some _ _).symm.trans H; with_reducible exact H2_) | with_reducible exact H | (rw [hy622]; exact H) | exact H
        have Ny622 := G.a hy622
        clear hy622
        have c11b0 := eq_true (G.odt : 0 ≤ x12_1)
        have c12b0 := eq_true (G.odt : x12_1 ≤ (l0.length : Int))
        by_cases c13 : y622.length + (l0.take (x12_1 : Int).toNat).length < 17592186044416
        ·rw [if_pos c13] at H
         have LMc13 := G.a c13
         clear c13
         obtain ⟨y626, hy626⟩ : ∃ y_ : List Int, y_ = (y622 ++ (l0.take (x12_1 : Int).toNat)) := ⟨_, rfl⟩
         replace H : (if x3_1.length < 5864062014805 then (impl_ConjugatesOf.l0 k1 l0 (x3_1 ++ [y626]) (l0.length : Int) (wrap64 (x12_1 + 1))) else (none)) = some r := by first | (rw [hy626]; with_reducible exact H) | (have H2_ := (Option.bind_some _ _).symm.trans H; rw [hy626]; with_reducible exact H2_) | (have H2_ := (Option.bind_some _ _).symm.trans H; with_reducible exact H2_) | with_reducible exact H | (rw [hy626]; exact H) | exact H
         have Ny626 := G.a hy626
         clear hy626
         by_cases c14 : x3_1.length < 5864062014805
         ·rw [if_pos c14] at H
          have LMc14 := G.a c14
          clear c14
          obtain ⟨y629, hy629⟩ : ∃ y_ : List (List Int), y_ = (x3_1 ++ [y626]) := ⟨_, rfl⟩
          replace H : (impl_ConjugatesOf.l0 k1 l0 y629 (l0.length : Int) (wrap64 (x12_1 + 1))) = some r := by first | (rw [hy629]; with_reducible exact H) | (have H2_ := (Option.bind_some _ _).symm.trans H; rw [hy629]; with_reducible exact H2_) | (have H2_ := (Option.bind_some _ _).symm.trans H; with_reducible exact H2_) | with_reducible exact H | (rw [hy629]; exact H) | exact H
          have Ny629 := G.a hy629
          clear hy629
          have H' := G.a H
          clear H
          try go_wp2
          have n0_ := G.a (Kd.S_drew HO_3.out)
          have n1_ := G.a (below_drew1 HB.out)
          clear HO_3
          clear HB
          have HO_3 := n0_
          have HB := n1_
          clear n0_ n1_
          obtain ⟨i016, hi016, _, hsz16, _⟩ := info_parts info3
          obtain ⟨A16, hcut16, hA16, hC16⟩ := print_drop_of (P := Tryz.prog) (Value.int .i64) 0 24 3 .i64 Tryz.underlying24 hi016 hsz16 A0 c0 l0 x12_1 G.odt G.odt HC0.out
          have HR621 := G.a (Kd.C_of_reads (h1 := fun _ => rfl) (hA16 _ (Kd.reads_of_C HR0.out)))
          have HC621 := G.a hC16
          clear hA16 hC16 hi016 hsz16
          obtain ⟨i017, hi017, _, hsz17, _⟩ := info_parts info3
          obtain ⟨hcut17, hA17, hC17⟩ := print_take_of (P := Tryz.prog) (Value.int .i64) 0 24 3 .i64 Tryz.underlying24 hi017 hsz17 A0 c0 l0 x12_1 G.odt G.odt HC0.out
          have HR625 := G.a (Kd.C_of_reads (h1 := fun _ => rfl) (hA17 _ (Kd.reads_of_C HR0.out)))
          have HC625 := G.a hC17
          clear hA17 hC17 hi017 hsz17
          refine start_ (n := 13) (S := fun w' => True) (ds := []) #[false, false, false, false, false, false, false, false, false, false, false, false, false] (by kernel_rfl) rfl rfl trivial (fun hHeld => ?_); refine with_tabW impl_ConjugatesOf.tab7 impl_ConjugatesOf.bits7 (fun HT_ HW_ => ?_)
          generalize wr.drew = w15 at HO_3 HB HR621 HR625 hHeld ⊢
          refine G.pu 0 15 (G.bs 13 1) ?_
          refine G.pu 2 17 (G.bs 13 5) ?_
          refine G.pu 3 18 (G.bs 13 13) ?_
          refine G.pu 4 19 (G.bs 13 29) ?_
          refine G.pu 6 21 (G.bs 13 93) ?_
          refine G.pu 7 22 (G.bs 13 221) ?_
          refine G.pu 8 23 (G.bs 13 477) ?_
          refine one_ (i := 1) (N := some 16) (G.bs 13 479) rfl rfl (one_of HT_.out (by kernel_rfl)) (by decide) (fun K hK => ?_)
          refine Kd.R_lit_step (Kd.int .i64) _ 3 ?hg (N := 16) ?hd (xs := ([] : List Int)) (inner := []) (ok := fun _ => True) (okp := fun _ => True) ?hr ?hp (fun _ hk => hk) trivial (Below.refl _ _) (Nat.le_refl _) (by simp) ?_; (case hd => rfl); (case hg => rfl); (case hr => first | (go_simp; done) | (go_simp; rfl)); (case hp => exact (Reps.none _ _))
          intro v619 w18 ho19 hb hg_ hnew_
          clear hg_ hnew_
          (first | rw [← Ny618.out] at ho19 | (simp only [Int.reduceToNat] at ho19; rw [← Ny618.out] at ho19))
          have n0_ := G.a (Kd.S_elder' (G.kS HO_3.out) (Kd.R_base ho19) hb)
          have n1_ := G.a (Kd.R_lower ho19 (below_size G.bel))
          have n2_ := G.a (below_step G.bel hb)
          clear HO_3
          clear HB
          have HO_3 := n0_
          have HO620 := n1_
          have HB := n2_
          clear n0_ n1_ n2_
          clear hb ho19
          refine hK.out _ _ trivial (fun hHeld => ?_)
          clear hK K
          refine norm_ (a' := ?_) ?_ ?_
          rotate_left
          ·show Act.put _ (some 16) _ = _
           simp only [Act.put, List.setIfInBounds_toArray, List.set_cons_zero, List.set_cons_succ, i64_w, i32_w]
           rfl
          refine one_ (i := 5) (N := some 20) (G.bs 13 511) rfl rfl (one_of HT_.out (by kernel_rfl)) (by decide) (fun K hK => ?_)
          refine Kd.R_append_rows_step (Kd.int .i64) (w0 := w) w.heap.size (by rfl) (.tmp 16) (.tmp 19) 24 3 (.int .i64 0) 8 rfl Tryz.underlying24 info3 rfl (by decide) (by omega) v619 y618 (l0.drop (x12_1 : Int).toNat) _ _ _ (fun _ => True) (fun _ => False) rfl rfl ?aO ?aR (fun _ _ h => h) (fun _ h => h.elim) ?aF ?aB ?aS ?aL ?_
          (case aR => first | (have h_ := HR621.out; simp only [Int.toNat_natCast, List.take_length] at h_ ⊢; exact (Kd.C_below h_ HB.out)) | (have h_ := HR621.out; rw [show (l0.drop (x12_1 : Int).toNat).length = (l0.length - x12_1.toNat) from List.length_drop] at h_; exact (Kd.C_below h_ HB.out)) | exact (Kd.C_below HR621.out HB.out) | (have h_ := HR625.out; simp only [Int.toNat_natCast, List.take_length] at h_ ⊢; exact (Kd.C_below h_ HB.out)) | (have h_ := HR625.out; rw [show (l0.drop (x12_1 : Int).toNat).length = (l0.length - x12_1.toNat) from List.length_drop] at h_; exact (Kd.C_below h_ HB.out)) | exact (Kd.C_below HR625.out HB.out) | (rw [← show (l0.drop (x12_1 : Int).toNat).length = (l0.length - x12_1.toNat) from List.length_drop]; repeat (first | exact (Kd.C_below HR621.out HB.out) | (with_reducible refine Kd.C_alloc ?_ _) | (with_reducible refine Kd.C_drewN ?_ _) | (with_reducible refine Kd.C_drew ?_))) | (repeat (first | exact (Kd.C_below HR621.out HB.out) | (with_reducible refine Kd.C_alloc ?_ _) | (with_reducible refine Kd.C_drewN ?_ _) | (with_reducible refine Kd.C_drew ?_))))
          (case aB => exact G.bel)
          (case aF => exact (fun _ _ => trivial))
          (case aO => exact (G.kR HO620.out))
          (case aS => exact (below_size G.bel))
          (case aL => have := LMc10.out; have hlx_ := (show (l0.drop (x12_1 : Int).toNat).length = (l0.length - x12_1.toNat) from List.length_drop); omega)
          intro v623 w20 ho hb hg hat
          rw [← Ny622.out] at ho
          have n0_ := G.a (Kd.S_after (ok := (fun _ => True)) (G.kS HO_3.out) hg hat)
          have n1_ := G.a (hb)
          have n2_ := G.a (ho)
          clear HO_3
          clear HB
          clear HO620
          have HO_3 := n0_
          have HB := n1_
          have HO624 := n2_
          clear n0_ n1_ n2_
          clear ho hb hg hat
          refine hK.out _ _ trivial (fun hHeld => ?_)
          clear hK K
          refine norm_ (a' := ?_) ?_ ?_
          rotate_left
          ·show Act.put _ (some 20) _ = _
           simp only [Act.put, List.setIfInBounds_toArray, List.set_cons_zero, List.set_cons_succ, i64_w, i32_w]
           rfl
          refine one_ (i := 9) (N := some 24) (G.bs 13 1023) rfl rfl (one_of HT_.out (by kernel_rfl)) (by decide) (fun K hK => ?_)
          refine Kd.R_append_rows_step (Kd.int .i64) (w0 := w) w.heap.size (by rfl) (.tmp 20) (.tmp 23) 24 3 (.int .i64 0) 8 rfl Tryz.underlying24 info3 rfl (by decide) (by omega) v623 y622 (l0.take (x12_1 : Int).toNat) _ _ _ (fun _ => True) (fun _ => False) rfl rfl ?aO ?aR (fun _ _ h => h) (fun _ h => h.elim) ?aF ?aB ?aS ?aL ?_
          (case aR => first | (have h_ := HR625.out; simp only [Int.toNat_natCast, List.take_length] at h_ ⊢; exact (Kd.C_below h_ HB.out)) | (have h_ := HR625.out; rw [show (l0.take (x12_1 : Int).toNat).length = x12_1.toNat from (by rw [List.length_take]; have h_ : (x12_1 : Int) ≤ (l0.length : Int) := G.odt; omega)] at h_; exact (Kd.C_below h_ HB.out)) | exact (Kd.C_below HR625.out HB.out) | (have h_ := HR621.out; simp only [Int.toNat_natCast, List.take_length] at h_ ⊢; exact (Kd.C_below h_ HB.out)) | (have h_ := HR621.out; rw [show (l0.take (x12_1 : Int).toNat).length = x12_1.toNat from (by rw [List.length_take]; have h_ : (x12_1 : Int) ≤ (l0.length : Int) := G.odt; omega)] at h_; exact (Kd.C_below h_ HB.out)) | exact (Kd.C_below HR621.out HB.out) | (rw [← show (l0.take (x12_1 : Int).toNat).length = x12_1.toNat from (by rw [List.length_take]; have h_ : (x12_1 : Int) ≤ (l0.length : Int) := G.odt; omega)]; repeat (first | exact (Kd.C_below HR625.out HB.out) | (with_reducible refine Kd.C_alloc ?_ _) | (with_reducible refine Kd.C_drewN ?_ _) | (with_reducible refine Kd.C_drew ?_))) | (repeat (first | exact (Kd.C_below HR625.out HB.out) | (with_reducible refine Kd.C_alloc ?_ _) | (with_reducible refine Kd.C_drewN ?_ _) | (with_reducible refine Kd.C_drew ?_))))
          (case aB => exact G.bel)
          (case aF => exact (fun _ _ => trivial))
          (case aO => exact (G.kR HO624.out))
          (case aS => exact (below_size G.bel))
          (case aL => have := LMc13.out; have hlx_ := (show (l0.take (x12_1 : Int).toNat).length = x12_1.toNat from (by rw [List.length_take]; have h_ : (x12_1 : Int) ≤ (l0.length : Int) := G.odt; omega)); omega)
          intro v627 w21 ho hb hg hat
          rw [← Ny626.out] at ho
          have n0_ := G.a (Kd.S_after (ok := (fun _ => True)) (G.kS HO_3.out) hg hat)
          have n1_ := G.a (hb)
          have n2_ := G.a (ho)
          clear HO_3
          clear HB
          clear HO624
          have HO_3 := n0_
          have HB := n1_
          have HO628 := n2_
          clear n0_ n1_ n2_
          clear ho hb hg hat
          obtain ⟨Ao23, co23, eo23⟩ := Kd.R_slice HO628.out
          (first | subst eo23 | (injection eo23 with f1_ f2_ f3_; have f4_ := f1_.symm; have f5_ := f3_.symm; clear f1_ f2_ f3_; subst f4_; subst f5_))
          refine hK.out _ _ trivial (fun hHeld => ?_)
          clear hK K
          refine norm_ (a' := ?_) ?_ ?_
          rotate_left
          ·show Act.put _ (some 24) _ = _
           simp only [Act.put, List.setIfInBounds_toArray, List.set_cons_zero, List.set_cons_succ, i64_w, i32_w]
           rfl
          refine one_ (i := 10) (N := some 25) (G.bs 13 2047) rfl rfl (one_of HT_.out (by kernel_rfl)) (by decide) (fun K hK => ?_)
          refine value_ (w1 := ?_) (v := ?_) (by rfl) rfl ?_ ?_
          rotate_left 2
          ·go_simp
           constructor
           ·rfl
           ·rfl
          refine hK.out _ _ trivial (fun hHeld => ?_)
          clear hK K
          refine norm_ (a' := ?_) ?_ ?_
          rotate_left
          ·show Act.put _ (some 25) _ = _
           simp only [Act.put, List.setIfInBounds_toArray, List.set_cons_zero, List.set_cons_succ, i64_w, i32_w]
           rfl
          refine one_ (i := 11) (N := some 26) (G.bs 13 4095) rfl rfl (one_of HT_.out (by kernel_rfl)) (by decide) (fun K hK => ?_)
          refine Kd.S_append_step (Kd.slice 3 (Kd.int .i64)) (w0 := w) w.heap.size (by rfl) (.tmp 15) (.tmp 25) 63 24 (.slice none 0 0) 24 rfl Tryz.underlying63 info24 rfl (by decide) (by omega) u3 x3_1 y626 [.slice Ao23 y626.length co23] (fun _ => True) (fun k_ => some k_ = (.slice Ao23 y626.length co23 : Value).ownBlock) rfl rfl ?aP (fun k_ hk_ => ((Kd.R_mono (ok' := fun k_ => ((fun _ => True)) k_ ∧ some k_ ≠ (u3 : Value).ownBlock) (Kd.R_apart' (HO628.out) (Kd.S_typed HO_3.out) (by decide)) (fun k_ hk => ⟨trivial, hk.2⟩))).1 k_ hk_.symm) ?aF ?aO ?aB ?aS ?aL ?_
          (case aP => exact Kd.M_row (Kd.R_mono (Kd.R_tight rfl (Kd.R_mono (ok' := fun k_ => ((fun _ => True)) k_ ∧ some k_ ≠ (u3 : Value).ownBlock) (Kd.R_apart' (HO628.out) (Kd.S_typed HO_3.out) (by decide)) (fun k_ hk => ⟨trivial, hk.2⟩))) (fun _ h_ => h_)))
          (case aB => exact G.bel)
          (case aF => exact (fun _ _ => trivial))
          (case aO => exact (by (with_reducible repeat (first | apply Kd.S_alloc | apply Kd.S_drewN | apply Kd.S_drew)); exact Kd.S_mono HO_3.out (fun k_ hk => ⟨trivial, fun e_ => hk.2 e_⟩)))
          (case aS => exact (below_size G.bel))
          (case aL => have := LMc14.out; omega)
          intro v630 w22 ho hb hg hat
          rw [← Ny629.out] at ho
          have n0_ := G.a (hb)
          have n1_ := G.a (ho)
          clear HB
          clear HO_3
          clear HO628
          have HB := n0_
          have HO631 := n1_
          clear n0_ n1_
          clear ho hb hg hat
          refine hK.out _ _ trivial (fun hHeld => ?_)
          clear hK K
          refine norm_ (a' := ?_) ?_ ?_
          rotate_left
          ·show Act.put _ (some 26) _ = _
           simp only [Act.put, List.setIfInBounds_toArray, List.set_cons_zero, List.set_cons_succ, i64_w, i32_w]
           rfl
          refine G.pu 12 3 (G.bs 13 8191) ?_
          refine done_ (done_of HT_.out (by kernel_rfl)) ?_
          try go_wp2
          go_roundg k1
          case measure => have := HK1.out; omega
          case rel => exact ⟨(y629), (wrap64 (x12_1 + 1)), G.tr, H', ⟨by have := HK1.out; omega⟩, ⟨G.kS HO631.out⟩, ⟨G.bel⟩⟩
         ·rw [if_neg c14] at H
          exact absurd H (by simp)
        ·rw [if_neg c13] at H
         exact absurd H (by simp)
       ·rw [if_neg c10] at H
        exact absurd H (by simp)
      ·rw [if_neg c9] at H
       exact absurd H (by simp)
     ·rw [if_neg c8] at H
      exact absurd H (by simp)
    ·rw [if_neg c7] at H
     have c7b0 : decide (x12_1 < (l0.length : Int)) = false := decide_eq_false c7
     clear c7
     obtain ⟨t632, A24, H⟩ := G.bx H
     obtain rfl := Option.some.inj H
     obtain ⟨Ao25, co25, eo25⟩ := Kd.S_slice HO_3.out
     subst eo25
     go_wp2_with (first | ((with_reducible refine gate_callee (f := 65) rfl ?_); refine goesL_ (some 29) rfl rfl Tryz.func65 (by kernel_rfl) rfl #[.slice Ao25 x3_1.length co25] rfl G.ar ?_; (with_reducible refine (impl_different.calls k1 (fun _ => True) _ x3_1 t632 w _ ?side1 ?side2 A24.out).mono ?_); (case side1 => repeat (first | (with_reducible first | exact HB.out | apply below_alloc | apply pw_below_drewN | apply below_drew1) | exact HB.out)); (case side2 => (with_reducible repeat (first | apply Kd.S_alloc | apply Kd.S_drewN | apply Kd.S_drew)); exact Kd.S_mono HO_3.out (fun _ _ => trivial)); rintro e w26 ⟨v633, rfl, hy0, hb, hkp⟩; refine ⟨_, rfl, ?_⟩; have ny_ := G.a hy0; have nb_ := G.a hb; clear HO_3; clear HB; have HO634 := ny_; have HB := nb_; clear ny_ nb_; clear hy0 hb hkp))
     go_ret
     exact ⟨_, G.er, by (with_reducible repeat (first | apply Kd.S_alloc | apply Kd.S_drewN | apply Kd.S_drew)); exact Kd.S_mono HO634.out (fun _ hk => trivial), G.bel⟩
end Go.Proofs.YtolikggioekalabGreat.PFnRuns
