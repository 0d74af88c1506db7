/- The Go functions that the law FnLyndon reaches (part 12): each as a Lean function, and that its code comes to these answers. No condition beyond those written. -/
import Derived.Test.YtolikggioekalabVGSlim
import Derived.Test.YtolikggioekalabVGDraw
import Derived.Test.YtolikggioekalabVMFnLyndonx9
import Derived.Test.YtolikggioekalabVMFnLyndonx8
import Derived.Test.YtolikggioekalabVMFnLyndonx7
import Derived.Test.YtolikggioekalabVMFnLyndonx6
import Derived.Test.YtolikggioekalabVMFnLyndonx5
import Derived.Test.YtolikggioekalabVMFnLyndonx2
import Derived.Test.YtolikggioekalabVMFnLyndonx0
import Derived.Test.YtolikggioekalabVMFnLyndonx1
import Derived.Test.YtolikggioekalabVMFnLyndonx3
import Derived.Test.YtolikggioekalabVMFnLyndonx4
import Derived.Test.YtolikggioekalabVMFnLyndonx10
import Derived.Test.YtolikggioekalabVMFnLyndonx11
namespace Go.Proofs.Ytolikggioekalab.PFnLyndon
open Go.RowKit Go.Proofs.YtolikggioekalabW.PrintWords Go.Proofs.YtolikggioekalabW.PrintLast Go.Proofs.YtolikggioekalabW.PrintMore
attribute [local go_sem] max2_int min2_int max_two min_two max_three min_three max_four min_four   -- for this text's walks alone
set_option linter.unusedVariables false
set_option linter.unusedSimpArgs false

/-! ### spec_LyndonFactors: function 83 -/
mutual
def spec_LyndonFactors.l0 : Nat → List Int → List (List Int) → Int → Option ((List (List Int)))
 | 0, _, _, _ => none
 | k + 1, x0, x3, x4 => if x4 < (x0.length : Int) then (spec_LyndonFactors.l1 k x0 x3 x4 (wrap64 (x4 + 1)) x4) else (some x3)
def spec_LyndonFactors.l1 : Nat → List Int → List (List Int) → Int → Int → Int → Option ((List (List Int)))
 | 0, _, _, _, _, _ => none
 | k + 1, x0, x3, x4, x5, x6 => if x5 < (x0.length : Int) then (if 0 ≤ x6 then (if x6 < (x0.length : Int) then (if 0 ≤ x5 then (spec_LyndonFactors.j2 k x0 x3 x4 x5 x6 (decide ((rd x0 x6) ≤ (rd x0 x5)))) else (none)) else (none)) else (none)) else (spec_LyndonFactors.j2 k x0 x3 x4 x5 x6 false)
def spec_LyndonFactors.j2 : Nat → List Int → List (List Int) → Int → Int → Int → Bool → Option ((List (List Int)))
 | 0, _, _, _, _, _, _ => none
 | k + 1, x0, x3, x4, x5, x6, x29 => if x29 = true then (if 0 ≤ x6 then (if x6 < (x0.length : Int) then (if 0 ≤ x5 then (if x5 < (x0.length : Int) then (if (rd x0 x6) < (rd x0 x5) then (spec_LyndonFactors.l1 k x0 x3 x4 (wrap64 (x5 + 1)) x4) else (spec_LyndonFactors.l1 k x0 x3 x4 (wrap64 (x5 + 1)) (wrap64 (x6 + 1)))) else (none)) else (none)) else (none)) else (none)) else (spec_LyndonFactors.l2 k x0 x3 x4 x5 x6)
def spec_LyndonFactors.l2 : Nat → List Int → List (List Int) → Int → Int → Int → Option ((List (List Int)))
 | 0, _, _, _, _, _ => none
 | k + 1, x0, x3, x4, x5, x6 => if x4 ≤ x6 then ((some (([] : List Int) : List Int)).bind fun y647 => (if 0 ≤ x4 then (if x4 ≤ (wrap64 ((wrap64 (x4 + x5)) - x6)) then (if (wrap64 ((wrap64 (x4 + x5)) - x6)) ≤ (x0.length : Int) then (if y647.length + ((x0.take ((wrap64 ((wrap64 (x4 + x5)) - x6)) : Int).toNat).drop (x4 : Int).toNat).length < 17592186044416 then (if x3.length < 5864062014805 then (spec_LyndonFactors.l2 k x0 (x3 ++ [(y647 ++ ((x0.take ((wrap64 ((wrap64 (x4 + x5)) - x6)) : Int).toNat).drop (x4 : Int).toNat))]) (wrap64 ((wrap64 (x4 + x5)) - x6)) x5 x6) else (none)) else (none)) else (none)) else (none)) else (none))) else (spec_LyndonFactors.l0 k x0 x3 x4)
end
def spec_LyndonFactors.f (k : Nat) (l0 : List Int) : Option ((List (List Int))) := spec_LyndonFactors.l0 k l0 (([] : List (List Int))) 0
set_option maxHeartbeats 8000000 in
set_option maxRecDepth 100000 in
theorem spec_LyndonFactors.calls (k : Nat) (A0 : Option Addr) (c0 : Nat) (l0 : List Int) (r : List (List Int)) (w : World) (hr0 : Kd.C (Kd.int .i64) w A0 l0.length l0) (hc0 : l0.length ≤ c0) (h : spec_LyndonFactors.f k l0 = some r) :
  Calls Try.prog 83 #[.slice A0 l0.length c0] w fun e w' => ∃ v0_ : Value, e = .returned (v0_) ∧ Kd.S (Kd.slice 3 (Kd.int .i64)) 22 w' w.heap.size (fun _ => True) v0_ r ∧ Below w.heap.size w w' := by
 have HR0 := Aside0.mk hr0
 have HC0 := Aside0.mk hc0
 clear hr0 hc0
 have HB := Aside0.mk (Below.refl w.heap.size w)
 have H : (spec_LyndonFactors.l0 k l0 (([] : List (List Int))) 0) = some r := h
 clear h
 obtain ⟨y640, hy640⟩ : ∃ y_ : List (List Int), y_ = (([] : List (List Int))) := ⟨_, rfl⟩
 replace H : (spec_LyndonFactors.l0 k l0 y640 0) = some r := by first | (rw [hy640]; with_reducible exact H) | (have H2_ := (Option.bind_some _ _).symm.trans H; rw [hy640]; with_reducible exact H2_) | (have H2_ := (Option.bind_some _ _).symm.trans H; with_reducible exact H2_) | with_reducible exact H | (rw [hy640]; exact H) | exact H
 have Ny640 := Aside0.mk hy640
 clear hy640
 have H' := Aside0.mk H
 clear H
 go_enter Try.func83, Try.ntmps83
 go_wp2_with (first | ((with_reducible refine gate_dst (N := 7) rfl ?_); refine Kd.S_lit (Kd.slice 3 (Kd.int .i64)) _ 22 ?hg (N := 7) ?hd (xs := ([] : List (List Int))) (inner := []) (ok := fun _ => True) (okp := fun _ => True) ?hr ?hp (fun _ hk => hk) trivial (Below.refl _ _) (Nat.le_refl _) (by simp) ?_; (case hd => rfl); (case hg => rfl); (case hr => first | (go_simp; done) | (go_simp; rfl)); (case hp => exact (Reps.none _ _)); intro v641 w2 ho3 hb hg_ hnew_; clear hg_ hnew_; (first | rw [← Ny640.out] at ho3 | (simp only [Int.reduceToNat] at ho3; rw [← Ny640.out] at ho3)); have n0_ := Aside0.mk (Kd.S_lower ho3 (below_size G.bel)); have n1_ := Aside0.mk (below_step G.bel hb); clear HB; have HO642 := n0_; have HB := n1_; clear n0_ n1_; clear hb ho3))
 repeat (go_quiet (first | ((with_reducible refine gate_dst (N := 7) rfl ?_); refine Kd.S_lit (Kd.slice 3 (Kd.int .i64)) _ 22 ?hg (N := 7) ?hd (xs := ([] : List (List Int))) (inner := []) (ok := fun _ => True) (okp := fun _ => True) ?hr ?hp (fun _ hk => hk) trivial (Below.refl _ _) (Nat.le_refl _) (by simp) ?_; (case hd => rfl); (case hg => rfl); (case hr => first | (go_simp; done) | (go_simp; rfl)); (case hp => exact (Reps.none _ _)); intro v641 w2 ho3 hb hg_ hnew_; clear hg_ hnew_; (first | rw [← Ny640.out] at ho3 | (simp only [Int.reduceToNat] at ho3; rw [← Ny640.out] at ho3)); have n0_ := Aside0.mk (Kd.S_lower ho3 (below_size G.bel)); have n1_ := Aside0.mk (below_step G.bel hb); clear HB; have HO642 := n0_; have HB := n1_; clear n0_ n1_; clear hb ho3)); try go_wp2_with (first | ((with_reducible refine gate_dst (N := 7) rfl ?_); refine Kd.S_lit (Kd.slice 3 (Kd.int .i64)) _ 22 ?hg (N := 7) ?hd (xs := ([] : List (List Int))) (inner := []) (ok := fun _ => True) (okp := fun _ => True) ?hr ?hp (fun _ hk => hk) trivial (Below.refl _ _) (Nat.le_refl _) (by simp) ?_; (case hd => rfl); (case hg => rfl); (case hr => first | (go_simp; done) | (go_simp; rfl)); (case hp => exact (Reps.none _ _)); intro v641 w2 ho3 hb hg_ hnew_; clear hg_ hnew_; (first | rw [← Ny640.out] at ho3 | (simp only [Int.reduceToNat] at ho3; rw [← Ny640.out] at ho3)); have n0_ := Aside0.mk (Kd.S_lower ho3 (below_size G.bel)); have n1_ := Aside0.mk (below_step G.bel hb); clear HB; have HO642 := n0_; have HB := n1_; clear n0_ n1_; clear hb ho3)))
 go_loopg [3, 4] k (fun kq v3 v4 w' => ∃ (x3_1 : List (List Int)) (x4_1 : Int), v4 = .int .i64 x4_1 ∧ Aside0 (spec_LyndonFactors.l0 kq l0 x3_1 x4_1 = some r) ∧ Aside0 (kq ≤ k) ∧ Aside0 (Kd.S (Kd.slice 3 (Kd.int .i64)) 22 w' w.heap.size (fun _ => True) v3 x3_1) ∧ Aside0 (Below w.heap.size w w'))
 case atStart => exact ⟨(y640), (0), G.tr, H', ⟨Nat.le_refl _⟩, ⟨G.kS HO642.out⟩, ⟨G.bel⟩⟩
 case round =>
  clear H'
  try clear p2
  obtain ⟨x3_1, x4_1, rfl, HA, HK1, HO_3, HB⟩ := hrel
  cases gk with
  | zero => exact absurd HA.out (by simp [spec_LyndonFactors.l0])
  | succ k1 =>
   have H := HA.out
   clear HA
   simp only [spec_LyndonFactors.l0] at H
   by_cases c4 : x4_1 < (l0.length : Int)
   ·rw [if_pos c4] at H
    have c4b0 : decide (x4_1 < (l0.length : Int)) = true := decide_eq_true c4
    clear c4
    have H' := Aside0.mk H
    clear H
    go_wp2
    repeat (go_quiet (fail); try go_wp2)
    go_loopg [5, 6] k1 (fun kq v5 v6 w' => ∃ (x5_2 : Int) (x6_2 : Int), v5 = .int .i64 x5_2 ∧ v6 = .int .i64 x6_2 ∧ Aside0 (spec_LyndonFactors.l1 kq l0 x3_1 x4_1 x5_2 x6_2 = some r) ∧ Aside0 (kq ≤ k1) ∧ Aside0 (Kd.S (Kd.slice 3 (Kd.int .i64)) 22 w' w.heap.size (fun _ => True) u3 x3_1) ∧ Aside0 (Below w.heap.size w w'))
    case atStart => exact ⟨(wrap64 (x4_1 + 1)), (x4_1), G.tr, G.tr, H', ⟨Nat.le_refl _⟩, ⟨G.kS HO_3.out⟩, ⟨G.bel⟩⟩
    case round =>
     clear H'
     try clear p2; try clear c4; try clear c4b0; try clear p2
     obtain ⟨x5_2, x6_2, rfl, rfl, HA, HK2, HO_3, HB⟩ := hrel
     cases gk with
     | zero => exact absurd HA.out (by simp [spec_LyndonFactors.l1])
     | succ k2 =>
      have H := HA.out
      clear HA
      simp only [spec_LyndonFactors.l1] at H
      have HC5 := Aside0.mk H
      clear H
      go_upto_region 6 with (fail)
      repeat (go_quiet (fail); go_upto_region 6 with (fail))
      go_cut [29] (fun v29 wc => ∃ (kq : Nat) (x29_4 : Bool), v29 = .bool x29_4 ∧ Aside0 (spec_LyndonFactors.j2 kq l0 x3_1 x4_1 x5_2 x6_2 x29_4 = some r) ∧ Aside0 (kq ≤ k2) ∧ Aside0 (Kd.S (Kd.slice 3 (Kd.int .i64)) 22 wc w.heap.size (fun _ => True) u3 x3_1) ∧ Aside0 (Below w.heap.size w wc))
      case first =>
       have H := HC5.out
       clear HC5
       by_cases c6 : x5_2 < (l0.length : Int)
       ·rw [if_pos c6] at H
        have c6b0 : decide (x5_2 < (l0.length : Int)) = true := decide_eq_true c6
        clear c6
        (first | rw [c6b0] | (simp only [i64_w, i32_w]; rw [c6b0]) | skip)
        by_cases c7 : 0 ≤ x6_2
        ·rw [if_pos c7] at H
         have c7b0 : decide (0 ≤ x6_2) = true := decide_eq_true c7
         clear c7
         by_cases c8 : x6_2 < (l0.length : Int)
         ·rw [if_pos c8] at H
          have c8b0 : decide (x6_2 < (l0.length : Int)) = true := decide_eq_true c8
          clear c8
          by_cases c9 : 0 ≤ x5_2
          ·rw [if_pos c9] at H
           have c9b0 : decide (0 ≤ x5_2) = true := decide_eq_true c9
           clear c9
           have H' := Aside0.mk H
           clear H
           have p643 : 0 ≤ (x6_2 : Int) := G.odt
           have q643 : x6_2 < (l0.length : Int) := G.odt
           obtain ⟨ad643, e643, hx643_0⟩ := Kd.at_int HR0.out x6_2 p643 q643
           cases e643
           replace hx643_0 := (HB.out.cell (World.block_lt_of_cell? w _ hx643_0)).trans hx643_0
           replace p643 := eq_true p643
           replace q643 := eq_true q643
           have p644 : 0 ≤ (x5_2 : Int) := G.odt
           have q644 : x5_2 < (l0.length : Int) := G.odt
           obtain ⟨ad644, e644, hx644_0⟩ := Kd.at_int HR0.out x5_2 p644 q644
           obtain rfl : ad643 = ad644 := (by injection e644)
           replace hx644_0 := (HB.out.cell (World.block_lt_of_cell? w _ hx644_0)).trans hx644_0
           replace p644 := eq_true p644
           replace q644 := eq_true q644
           go_wp2
           repeat (go_quiet (fail); try go_wp2)
           go_meet
           case rel => exact ⟨_, (decide ((rd l0 x6_2) ≤ (rd l0 x5_2))), G.tr, H', ⟨by have := HK1.out; have := HK2.out; first | omega | exact Nat.le_refl _⟩, ⟨G.kS HO_3.out⟩, ⟨G.bel⟩⟩
          ·rw [if_neg c9] at H
           exact absurd H (by simp)
         ·rw [if_neg c8] at H
          exact absurd H (by simp)
        ·rw [if_neg c7] at H
         exact absurd H (by simp)
       ·rw [if_neg c6] at H
        have c6b0 : decide (x5_2 < (l0.length : Int)) = false := decide_eq_false c6
        clear c6
        (first | rw [c6b0] | (simp only [i64_w, i32_w]; rw [c6b0]) | skip)
        have H' := Aside0.mk H
        clear H
        go_wp2
        repeat (go_quiet (fail); try go_wp2)
        go_meet
        case rel => exact ⟨_, (false), G.tr, H', ⟨by have := HK1.out; have := HK2.out; first | omega | exact Nat.le_refl _⟩, ⟨G.kS HO_3.out⟩, ⟨G.bel⟩⟩
      case rest =>
       clear HC5
       try clear p2; try clear c4; try clear c4b0; try clear c6; try clear c6b0; try clear p6; try clear q6; try clear hx6; try clear c7; try clear c7b0; try clear c8; try clear c8b0; try clear c9; try clear c9b0; try clear hx643_0; try clear hx644_0; try clear p2; try clear p643; try clear p644; try clear q643; try clear q644
       obtain ⟨kq, x29_4, rfl, HA, HJ4, HO_3, HB⟩ := hcut
       cases kq with
       | zero => exact absurd HA.out (by simp [spec_LyndonFactors.j2])
       | succ kj4 =>
        have H := HA.out
        clear HA
        simp only [spec_LyndonFactors.j2] at H
        by_cases c10 : x29_4 = true
        ·subst c10
         rw [if_pos rfl] at H
         by_cases c11 : 0 ≤ x6_2
         ·rw [if_pos c11] at H
          have c11b0 : decide (0 ≤ x6_2) = true := decide_eq_true c11
          clear c11
          by_cases c12 : x6_2 < (l0.length : Int)
          ·rw [if_pos c12] at H
           have c12b0 : decide (x6_2 < (l0.length : Int)) = true := decide_eq_true c12
           clear c12
           by_cases c13 : 0 ≤ x5_2
           ·rw [if_pos c13] at H
            have c13b0 : decide (0 ≤ x5_2) = true := decide_eq_true c13
            clear c13
            by_cases c14 : x5_2 < (l0.length : Int)
            ·rw [if_pos c14] at H
             have c14b0 : decide (x5_2 < (l0.length : Int)) = true := decide_eq_true c14
             clear c14
             by_cases c15 : (rd l0 x6_2) < (rd l0 x5_2)
             ·rw [if_pos c15] at H
              have c15b0 : decide ((rd l0 x6_2) < (rd l0 x5_2)) = true := decide_eq_true c15
              clear c15
              have H' := Aside0.mk H
              clear H
              have p645 : 0 ≤ (x6_2 : Int) := G.odt
              have q645 : x6_2 < (l0.length : Int) := G.odt
              obtain ⟨ad645, e645, hx645_0⟩ := Kd.at_int HR0.out x6_2 p645 q645
              cases e645
              replace hx645_0 := (HB.out.cell (World.block_lt_of_cell? w _ hx645_0)).trans hx645_0
              replace p645 := eq_true p645
              replace q645 := eq_true q645
              have p646 : 0 ≤ (x5_2 : Int) := G.odt
              have q646 : x5_2 < (l0.length : Int) := G.odt
              obtain ⟨ad646, e646, hx646_0⟩ := Kd.at_int HR0.out x5_2 p646 q646
              obtain rfl : ad645 = ad646 := (by injection e646)
              replace hx646_0 := (HB.out.cell (World.block_lt_of_cell? w _ hx646_0)).trans hx646_0
              replace p646 := eq_true p646
              replace q646 := eq_true q646
              go_wp2
              repeat (go_quiet (fail); try go_wp2)
              go_roundg kj4
              case measure => have := HK1.out; have := HK2.out; have := HJ4.out; omega
              case rel => exact ⟨(wrap64 (x5_2 + 1)), (x4_1), G.tr, G.tr, H', ⟨by have := HK1.out; have := HK2.out; have := HJ4.out; omega⟩, ⟨G.kS HO_3.out⟩, ⟨G.bel⟩⟩
             ·rw [if_neg c15] at H
              have c15b0 : decide ((rd l0 x6_2) < (rd l0 x5_2)) = false := decide_eq_false c15
              clear c15
              have H' := Aside0.mk H
              clear H
              have p645 : 0 ≤ (x6_2 : Int) := G.odt
              have q645 : x6_2 < (l0.length : Int) := G.odt
              obtain ⟨ad645, e645, hx645_0⟩ := Kd.at_int HR0.out x6_2 p645 q645
              cases e645
              replace hx645_0 := (HB.out.cell (World.block_lt_of_cell? w _ hx645_0)).trans hx645_0
              replace p645 := eq_true p645
              replace q645 := eq_true q645
              have p646 : 0 ≤ (x5_2 : Int) := G.odt
              have q646 : x5_2 < (l0.length : Int) := G.odt
              obtain ⟨ad646, e646, hx646_0⟩ := Kd.at_int HR0.out x5_2 p646 q646
              obtain rfl : ad645 = ad646 := (by injection e646)
              replace hx646_0 := (HB.out.cell (World.block_lt_of_cell? w _ hx646_0)).trans hx646_0
              replace p646 := eq_true p646
              replace q646 := eq_true q646
              go_wp2
              repeat (go_quiet (fail); try go_wp2)
              go_roundg kj4
              case measure => have := HK1.out; have := HK2.out; have := HJ4.out; omega
              case rel => exact ⟨(wrap64 (x5_2 + 1)), (wrap64 (x6_2 + 1)), G.tr, G.tr, H', ⟨by have := HK1.out; have := HK2.out; have := HJ4.out; omega⟩, ⟨G.kS HO_3.out⟩, ⟨G.bel⟩⟩
            ·rw [if_neg c14] at H
             exact absurd H (by simp)
           ·rw [if_neg c13] at H
            exact absurd H (by simp)
          ·rw [if_neg c12] at H
           exact absurd H (by simp)
         ·rw [if_neg c11] at H
          exact absurd H (by simp)
        ·replace c10 := Bool.eq_false_iff.mpr c10
         subst c10
         rw [if_neg (show ¬ (false = true) by decide)] at H
         have H' := Aside0.mk H
         clear H
         go_wp2
         repeat (go_quiet (fail); try go_wp2)
         go_loopg [3, 4] kj4 (fun kq v3 v4 w' => ∃ (x3_4 : List (List Int)) (x4_4 : Int), v4 = .int .i64 x4_4 ∧ Aside0 (spec_LyndonFactors.l2 kq l0 x3_4 x4_4 x5_2 x6_2 = some r) ∧ Aside0 (kq ≤ kj4) ∧ Aside0 (Kd.S (Kd.slice 3 (Kd.int .i64)) 22 w' w.heap.size (fun _ => True) v3 x3_4) ∧ Aside0 (Below w.heap.size w w'))
         case atStart => exact ⟨(x3_1), (x4_1), G.tr, H', ⟨Nat.le_refl _⟩, ⟨G.kS HO_3.out⟩, ⟨G.bel⟩⟩
         case round =>
          clear H'
          try clear c1; try clear p2; try clear c4; try clear c4b0; try clear c6; try clear c6b0; try clear p6; try clear q6; try clear hx6; try clear c7; try clear c7b0; try clear c8; try clear c8b0; try clear c9; try clear c9b0; try clear c10; try clear c11; try clear c11b0; try clear c12; try clear c12b0; try clear c13; try clear c13b0; try clear c14; try clear c14b0; try clear c15; try clear c15b0; try clear hx643_0; try clear hx644_0; try clear hx645_0; try clear hx646_0; try clear p2; try clear p6; try clear p643; try clear p644; try clear p645; try clear p646; try clear q6; try clear q643; try clear q644; try clear q645; try clear q646
          obtain ⟨x3_4, x4_4, rfl, HA, HK4, HO_3, HB⟩ := hrel
          cases gk with
          | zero => exact absurd HA.out (by simp [spec_LyndonFactors.l2])
          | succ k4 =>
           have H := HA.out
           clear HA
           simp only [spec_LyndonFactors.l2] at H
           by_cases c16 : x4_4 ≤ x6_2
           ·rw [if_pos c16] at H
            have c16b0 : decide (x4_4 ≤ x6_2) = true := decide_eq_true c16
            clear c16
            obtain ⟨y647, hy647⟩ : ∃ y_ : List Int, y_ = (([] : List Int)) := ⟨_, rfl⟩
            replace H : (if 0 ≤ x4_4 then (if x4_4 ≤ (wrap64 ((wrap64 (x4_4 + x5_2)) - x6_2)) then (if (wrap64 ((wrap64 (x4_4 + x5_2)) - x6_2)) ≤ (l0.length : Int) then (if y647.length + ((l0.take ((wrap64 ((wrap64 (x4_4 + x5_2)) - x6_2)) : Int).toNat).drop (x4_4 : Int).toNat).length < 17592186044416 then (if x3_4.length < 5864062014805 then (spec_LyndonFactors.l2 k4 l0 (x3_4 ++ [(y647 ++ ((l0.take ((wrap64 ((wrap64 (x4_4 + x5_2)) - x6_2)) : Int).toNat).drop (x4_4 : Int).toNat))]) (wrap64 ((wrap64 (x4_4 + x5_2)) - x6_2)) x5_2 x6_2) else (none)) else (none)) else (none)) else (none)) else (none)) = some r := by first | (rw [hy647]; with_reducible exact H) | (have H2_ := (Option.bind_some _ _).symm.trans H; rw [hy647]; with_reducible exact H2_) | (have H2_ := (Option.bind_some _ _).symm.trans H; with_reducible exact H2_) | with_reducible exact H | (rw [hy647]; exact H) | exact H
            have Ny647 := Aside0.mk hy647
            clear hy647
            by_cases c17 : 0 ≤ x4_4
            ·rw [if_pos c17] at H
             have c17b0 := eq_true c17
             have c17b1 : decide (0 ≤ x4_4) = true := decide_eq_true c17
             clear c17
             by_cases c18 : x4_4 ≤ (wrap64 ((wrap64 (x4_4 + x5_2)) - x6_2))
             ·rw [if_pos c18] at H
              have c18b0 := eq_true c18
              have c18b1 : decide (x4_4 ≤ (wrap64 ((wrap64 (x4_4 + x5_2)) - x6_2))) = true := decide_eq_true c18
              by_cases c19 : (wrap64 ((wrap64 (x4_4 + x5_2)) - x6_2)) ≤ (l0.length : Int)
              ·rw [if_pos c19] at H
               have c19b0 := eq_true c19
               have c19b1 : decide ((wrap64 ((wrap64 (x4_4 + x5_2)) - x6_2)) ≤ (l0.length : Int)) = true := decide_eq_true c19
               by_cases c20 : y647.length + ((l0.take ((wrap64 ((wrap64 (x4_4 + x5_2)) - x6_2)) : Int).toNat).drop (x4_4 : Int).toNat).length < 17592186044416
               ·rw [if_pos c20] at H
                have LMc20 := Aside0.mk c20
                clear c20
                obtain ⟨y651, hy651⟩ : ∃ y_ : List Int, y_ = (y647 ++ ((l0.take ((wrap64 ((wrap64 (x4_4 + x5_2)) - x6_2)) : Int).toNat).drop (x4_4 : Int).toNat)) := ⟨_, rfl⟩
                replace H : (if x3_4.length < 5864062014805 then (spec_LyndonFactors.l2 k4 l0 (x3_4 ++ [y651]) (wrap64 ((wrap64 (x4_4 + x5_2)) - x6_2)) x5_2 x6_2) else (none)) = some r := by first | (rw [hy651]; with_reducible exact H) | (have H2_ := (Option.bind_some _ _).symm.trans H; rw [hy651]; with_reducible exact H2_) | (have H2_ := (Option.bind_some _ _).symm.trans H; with_reducible exact H2_) | with_reducible exact H | (rw [hy651]; exact H) | exact H
                have Ny651 := Aside0.mk hy651
                clear hy651
                by_cases c21 : x3_4.length < 5864062014805
                ·rw [if_pos c21] at H
                 have LMc21 := Aside0.mk c21
                 clear c21
                 obtain ⟨y654, hy654⟩ : ∃ y_ : List (List Int), y_ = (x3_4 ++ [y651]) := ⟨_, rfl⟩
                 replace H : (spec_LyndonFactors.l2 k4 l0 y654 (wrap64 ((wrap64 (x4_4 + x5_2)) - x6_2)) x5_2 x6_2) = some r := by first | (rw [hy654]; with_reducible exact H) | (have H2_ := (Option.bind_some _ _).symm.trans H; rw [hy654]; with_reducible exact H2_) | (have H2_ := (Option.bind_some _ _).symm.trans H; with_reducible exact H2_) | with_reducible exact H | (rw [hy654]; exact H) | exact H
                 have Ny654 := Aside0.mk hy654
                 clear hy654
                 have H' := Aside0.mk H
                 clear H
                 go_wp2_with (first | ((with_reducible refine gate_dst (N := 48) rfl ?_); refine Kd.R_lit (Kd.int .i64) _ 3 ?hg (N := 48) ?hd (xs := ([] : List Int)) (inner := []) (ok := fun _ => True) (okp := fun _ => True) ?hr ?hp (fun _ hk => hk) trivial (Below.refl _ _) (Nat.le_refl _) (by simp) ?_; (case hd => rfl); (case hg => rfl); (case hr => first | (go_simp; done) | (go_simp; rfl)); (case hp => exact (Reps.none _ _)); intro v648 w22 ho23 hb hg_ hnew_; clear hg_ hnew_; (first | rw [← Ny647.out] at ho23 | (simp only [Int.reduceToNat] at ho23; rw [← Ny647.out] at ho23)); have n0_ := Aside0.mk (Kd.S_elder' (G.kS HO_3.out) (Kd.R_base ho23) hb); have n1_ := Aside0.mk (Kd.R_lower ho23 (below_size G.bel)); have n2_ := Aside0.mk (below_step G.bel hb); clear HO_3; clear HB; have HO_3 := n0_; have HO649 := n1_; have HB := n2_; clear n0_ n1_ n2_; clear hb ho23; obtain ⟨i024, hi024, _, hsz24, _⟩ := info_parts info3; obtain ⟨A24, hcut24, hA24, hC24⟩ := print_mid_of (P := Try.prog) (Value.int .i64) 0 22 3 .i64 .i64 Try.underlying22 hi024 hsz24 A0 c0 l0 x4_4 (wrap64 ((wrap64 (x4_4 + x5_2)) - x6_2)) G.odt (by first | omega | exact G.odt) G.odt HC0.out; have HR650 := Aside0.mk (Kd.C_of_reads (h1 := fun _ => rfl) (hA24 _ (Kd.reads_of_C HR0.out))); have HC650 := Aside0.mk hC24; clear hA24 hC24 hi024 hsz24) | ((with_reducible refine gate_builtin (b := .append) (xs := #[.tmp 48, .tmp 56]) rfl ?_); at_builtin; refine Kd.R_append_rows (Kd.int .i64) (w0 := w) w.heap.size rfl (.tmp 48) (.tmp 56) 22 3 (.int .i64 0) 8 rfl Try.underlying22 info3 rfl (by decide) (by omega) v648 y647 ((l0.take ((wrap64 ((wrap64 (x4_4 + x5_2)) - x6_2)) : Int).toNat).drop (x4_4 : Int).toNat) _ _ _ (fun _ => True) (fun _ => False) rfl rfl ?aO ?aR (fun _ _ h => h) (fun _ h => h.elim) ?aF ?aB ?aS ?aL ?_; (case aR => first | (rw [← show ((l0.take ((wrap64 ((wrap64 (x4_4 + x5_2)) - x6_2)) : Int).toNat).drop (x4_4 : Int).toNat).length = ((wrap64 ((wrap64 (x4_4 + x5_2)) - x6_2)).toNat - x4_4.toNat) from (by rw [List.length_drop, List.length_take]; have h_ : ((wrap64 ((wrap64 (x4_4 + x5_2)) - x6_2)) : Int) ≤ (l0.length : Int) := G.odt; omega)]; repeat (first | exact (Kd.C_below HR650.out HB.out) | (with_reducible refine Kd.C_alloc ?_ _) | (with_reducible refine Kd.C_drewN ?_ _) | (with_reducible refine Kd.C_drew ?_))) | (repeat (first | exact (Kd.C_below HR650.out HB.out) | (with_reducible refine Kd.C_alloc ?_ _) | (with_reducible refine Kd.C_drewN ?_ _) | (with_reducible refine Kd.C_drew ?_)))); (case aB => exact G.bel); (case aF => exact (fun _ _ => trivial)); (case aO => exact (G.kR HO649.out)); (case aS => exact (below_size G.bel)); (case aL => have := LMc20.out; have hlx_ := (show ((l0.take ((wrap64 ((wrap64 (x4_4 + x5_2)) - x6_2)) : Int).toNat).drop (x4_4 : Int).toNat).length = ((wrap64 ((wrap64 (x4_4 + x5_2)) - x6_2)).toNat - x4_4.toNat) from (by rw [List.length_drop, List.length_take]; have h_ : ((wrap64 ((wrap64 (x4_4 + x5_2)) - x6_2)) : Int) ≤ (l0.length : Int) := G.odt; omega)); omega); intro v652 w25 ho hb hg hat; rw [← Ny651.out] at ho; have n0_ := Aside0.mk (Kd.S_after (ok := (fun _ => True)) (G.kS HO_3.out) hg hat); have n1_ := Aside0.mk (hb); have n2_ := Aside0.mk (ho); clear HO_3; clear HB; clear HO649; have HO_3 := n0_; have HB := n1_; have HO653 := n2_; clear n0_ n1_ n2_; clear ho hb hg hat; obtain ⟨Ao27, co27, eo27⟩ := Kd.R_slice HO653.out; subst eo27) | ((with_reducible refine gate_builtin (b := .append) (xs := #[.tmp 47, .tmp 58]) rfl ?_); at_builtin; refine Kd.S_append (Kd.slice 3 (Kd.int .i64)) (w0 := w) w.heap.size rfl (.tmp 47) (.tmp 58) 23 22 (.slice none 0 0) 24 rfl Try.underlying23 info22 rfl (by decide) (by omega) u3 x3_4 y651 [.slice Ao27 y651.length co27] (fun _ => True) (fun k_ => some k_ = (.slice Ao27 y651.length co27 : Value).ownBlock) rfl rfl ?aP (fun k_ hk_ => ((Kd.R_mono (ok' := fun k_ => ((fun _ => True)) k_ ∧ some k_ ≠ (u3 : Value).ownBlock) (Kd.R_apart' (HO653.out) (Kd.S_typed HO_3.out) (by decide)) (fun k_ hk => ⟨trivial, hk.2⟩))).1 k_ hk_.symm) ?aF ?aO ?aB ?aS ?aL ?_; (case aP => exact Kd.M_row (Kd.R_mono (Kd.R_tight rfl (Kd.R_mono (ok' := fun k_ => ((fun _ => True)) k_ ∧ some k_ ≠ (u3 : Value).ownBlock) (Kd.R_apart' (HO653.out) (Kd.S_typed HO_3.out) (by decide)) (fun k_ hk => ⟨trivial, hk.2⟩))) (fun _ h_ => h_))); (case aB => exact G.bel); (case aF => exact (fun _ _ => trivial)); (case aO => exact (by (with_reducible repeat (first | apply Kd.S_alloc | apply Kd.S_drewN | apply Kd.S_drew)); exact Kd.S_mono HO_3.out (fun k_ hk => ⟨trivial, fun e_ => hk.2 e_⟩))); (case aS => exact (below_size G.bel)); (case aL => have := LMc21.out; omega); intro v655 w26 ho hb hg hat; rw [← Ny654.out] at ho; have n0_ := Aside0.mk (hb); have n1_ := Aside0.mk (ho); clear HB; clear HO_3; clear HO653; have HB := n0_; have HO656 := n1_; clear n0_ n1_; clear ho hb hg hat))
                 repeat (go_quiet (first | ((with_reducible refine gate_dst (N := 48) rfl ?_); refine Kd.R_lit (Kd.int .i64) _ 3 ?hg (N := 48) ?hd (xs := ([] : List Int)) (inner := []) (ok := fun _ => True) (okp := fun _ => True) ?hr ?hp (fun _ hk => hk) trivial (Below.refl _ _) (Nat.le_refl _) (by simp) ?_; (case hd => rfl); (case hg => rfl); (case hr => first | (go_simp; done) | (go_simp; rfl)); (case hp => exact (Reps.none _ _)); intro v648 w22 ho23 hb hg_ hnew_; clear hg_ hnew_; (first | rw [← Ny647.out] at ho23 | (simp only [Int.reduceToNat] at ho23; rw [← Ny647.out] at ho23)); have n0_ := Aside0.mk (Kd.S_elder' (G.kS HO_3.out) (Kd.R_base ho23) hb); have n1_ := Aside0.mk (Kd.R_lower ho23 (below_size G.bel)); have n2_ := Aside0.mk (below_step G.bel hb); clear HO_3; clear HB; have HO_3 := n0_; have HO649 := n1_; have HB := n2_; clear n0_ n1_ n2_; clear hb ho23; obtain ⟨i024, hi024, _, hsz24, _⟩ := info_parts info3; obtain ⟨A24, hcut24, hA24, hC24⟩ := print_mid_of (P := Try.prog) (Value.int .i64) 0 22 3 .i64 .i64 Try.underlying22 hi024 hsz24 A0 c0 l0 x4_4 (wrap64 ((wrap64 (x4_4 + x5_2)) - x6_2)) G.odt (by first | omega | exact G.odt) G.odt HC0.out; have HR650 := Aside0.mk (Kd.C_of_reads (h1 := fun _ => rfl) (hA24 _ (Kd.reads_of_C HR0.out))); have HC650 := Aside0.mk hC24; clear hA24 hC24 hi024 hsz24) | ((with_reducible refine gate_builtin (b := .append) (xs := #[.tmp 48, .tmp 56]) rfl ?_); at_builtin; refine Kd.R_append_rows (Kd.int .i64) (w0 := w) w.heap.size rfl (.tmp 48) (.tmp 56) 22 3 (.int .i64 0) 8 rfl Try.underlying22 info3 rfl (by decide) (by omega) v648 y647 ((l0.take ((wrap64 ((wrap64 (x4_4 + x5_2)) - x6_2)) : Int).toNat).drop (x4_4 : Int).toNat) _ _ _ (fun _ => True) (fun _ => False) rfl rfl ?aO ?aR (fun _ _ h => h) (fun _ h => h.elim) ?aF ?aB ?aS ?aL ?_; (case aR => first | (rw [← show ((l0.take ((wrap64 ((wrap64 (x4_4 + x5_2)) - x6_2)) : Int).toNat).drop (x4_4 : Int).toNat).length = ((wrap64 ((wrap64 (x4_4 + x5_2)) - x6_2)).toNat - x4_4.toNat) from (by rw [List.length_drop, List.length_take]; have h_ : ((wrap64 ((wrap64 (x4_4 + x5_2)) - x6_2)) : Int) ≤ (l0.length : Int) := G.odt; omega)]; repeat (first | exact (Kd.C_below HR650.out HB.out) | (with_reducible refine Kd.C_alloc ?_ _) | (with_reducible refine Kd.C_drewN ?_ _) | (with_reducible refine Kd.C_drew ?_))) | (repeat (first | exact (Kd.C_below HR650.out HB.out) | (with_reducible refine Kd.C_alloc ?_ _) | (with_reducible refine Kd.C_drewN ?_ _) | (with_reducible refine Kd.C_drew ?_)))); (case aB => exact G.bel); (case aF => exact (fun _ _ => trivial)); (case aO => exact (G.kR HO649.out)); (case aS => exact (below_size G.bel)); (case aL => have := LMc20.out; have hlx_ := (show ((l0.take ((wrap64 ((wrap64 (x4_4 + x5_2)) - x6_2)) : Int).toNat).drop (x4_4 : Int).toNat).length = ((wrap64 ((wrap64 (x4_4 + x5_2)) - x6_2)).toNat - x4_4.toNat) from (by rw [List.length_drop, List.length_take]; have h_ : ((wrap64 ((wrap64 (x4_4 + x5_2)) - x6_2)) : Int) ≤ (l0.length : Int) := G.odt; omega)); omega); intro v652 w25 ho hb hg hat; rw [← Ny651.out] at ho; have n0_ := Aside0.mk (Kd.S_after (ok := (fun _ => True)) (G.kS HO_3.out) hg hat); have n1_ := Aside0.mk (hb); have n2_ := Aside0.mk (ho); clear HO_3; clear HB; clear HO649; have HO_3 := n0_; have HB := n1_; have HO653 := n2_; clear n0_ n1_ n2_; clear ho hb hg hat; obtain ⟨Ao27, co27, eo27⟩ := Kd.R_slice HO653.out; subst eo27) | ((with_reducible refine gate_builtin (b := .append) (xs := #[.tmp 47, .tmp 58]) rfl ?_); at_builtin; refine Kd.S_append (Kd.slice 3 (Kd.int .i64)) (w0 := w) w.heap.size rfl (.tmp 47) (.tmp 58) 23 22 (.slice none 0 0) 24 rfl Try.underlying23 info22 rfl (by decide) (by omega) u3 x3_4 y651 [.slice Ao27 y651.length co27] (fun _ => True) (fun k_ => some k_ = (.slice Ao27 y651.length co27 : Value).ownBlock) rfl rfl ?aP (fun k_ hk_ => ((Kd.R_mono (ok' := fun k_ => ((fun _ => True)) k_ ∧ some k_ ≠ (u3 : Value).ownBlock) (Kd.R_apart' (HO653.out) (Kd.S_typed HO_3.out) (by decide)) (fun k_ hk => ⟨trivial, hk.2⟩))).1 k_ hk_.symm) ?aF ?aO ?aB ?aS ?aL ?_; (case aP => exact Kd.M_row (Kd.R_mono (Kd.R_tight rfl (Kd.R_mono (ok' := fun k_ => ((fun _ => True)) k_ ∧ some k_ ≠ (u3 : Value).ownBlock) (Kd.R_apart' (HO653.out) (Kd.S_typed HO_3.out) (by decide)) (fun k_ hk => ⟨trivial, hk.2⟩))) (fun _ h_ => h_))); (case aB => exact G.bel); (case aF => exact (fun _ _ => trivial)); (case aO => exact (by (with_reducible repeat (first | apply Kd.S_alloc | apply Kd.S_drewN | apply Kd.S_drew)); exact Kd.S_mono HO_3.out (fun k_ hk => ⟨trivial, fun e_ => hk.2 e_⟩))); (case aS => exact (below_size G.bel)); (case aL => have := LMc21.out; omega); intro v655 w26 ho hb hg hat; rw [← Ny654.out] at ho; have n0_ := Aside0.mk (hb); have n1_ := Aside0.mk (ho); clear HB; clear HO_3; clear HO653; have HB := n0_; have HO656 := n1_; clear n0_ n1_; clear ho hb hg hat)); try go_wp2_with (first | ((with_reducible refine gate_dst (N := 48) rfl ?_); refine Kd.R_lit (Kd.int .i64) _ 3 ?hg (N := 48) ?hd (xs := ([] : List Int)) (inner := []) (ok := fun _ => True) (okp := fun _ => True) ?hr ?hp (fun _ hk => hk) trivial (Below.refl _ _) (Nat.le_refl _) (by simp) ?_; (case hd => rfl); (case hg => rfl); (case hr => first | (go_simp; done) | (go_simp; rfl)); (case hp => exact (Reps.none _ _)); intro v648 w22 ho23 hb hg_ hnew_; clear hg_ hnew_; (first | rw [← Ny647.out] at ho23 | (simp only [Int.reduceToNat] at ho23; rw [← Ny647.out] at ho23)); have n0_ := Aside0.mk (Kd.S_elder' (G.kS HO_3.out) (Kd.R_base ho23) hb); have n1_ := Aside0.mk (Kd.R_lower ho23 (below_size G.bel)); have n2_ := Aside0.mk (below_step G.bel hb); clear HO_3; clear HB; have HO_3 := n0_; have HO649 := n1_; have HB := n2_; clear n0_ n1_ n2_; clear hb ho23; obtain ⟨i024, hi024, _, hsz24, _⟩ := info_parts info3; obtain ⟨A24, hcut24, hA24, hC24⟩ := print_mid_of (P := Try.prog) (Value.int .i64) 0 22 3 .i64 .i64 Try.underlying22 hi024 hsz24 A0 c0 l0 x4_4 (wrap64 ((wrap64 (x4_4 + x5_2)) - x6_2)) G.odt (by first | omega | exact G.odt) G.odt HC0.out; have HR650 := Aside0.mk (Kd.C_of_reads (h1 := fun _ => rfl) (hA24 _ (Kd.reads_of_C HR0.out))); have HC650 := Aside0.mk hC24; clear hA24 hC24 hi024 hsz24) | ((with_reducible refine gate_builtin (b := .append) (xs := #[.tmp 48, .tmp 56]) rfl ?_); at_builtin; refine Kd.R_append_rows (Kd.int .i64) (w0 := w) w.heap.size rfl (.tmp 48) (.tmp 56) 22 3 (.int .i64 0) 8 rfl Try.underlying22 info3 rfl (by decide) (by omega) v648 y647 ((l0.take ((wrap64 ((wrap64 (x4_4 + x5_2)) - x6_2)) : Int).toNat).drop (x4_4 : Int).toNat) _ _ _ (fun _ => True) (fun _ => False) rfl rfl ?aO ?aR (fun _ _ h => h) (fun _ h => h.elim) ?aF ?aB ?aS ?aL ?_; (case aR => first | (rw [← show ((l0.take ((wrap64 ((wrap64 (x4_4 + x5_2)) - x6_2)) : Int).toNat).drop (x4_4 : Int).toNat).length = ((wrap64 ((wrap64 (x4_4 + x5_2)) - x6_2)).toNat - x4_4.toNat) from (by rw [List.length_drop, List.length_take]; have h_ : ((wrap64 ((wrap64 (x4_4 + x5_2)) - x6_2)) : Int) ≤ (l0.length : Int) := G.odt; omega)]; repeat (first | exact (Kd.C_below HR650.out HB.out) | (with_reducible refine Kd.C_alloc ?_ _) | (with_reducible refine Kd.C_drewN ?_ _) | (with_reducible refine Kd.C_drew ?_))) | (repeat (first | exact (Kd.C_below HR650.out HB.out) | (with_reducible refine Kd.C_alloc ?_ _) | (with_reducible refine Kd.C_drewN ?_ _) | (with_reducible refine Kd.C_drew ?_)))); (case aB => exact G.bel); (case aF => exact (fun _ _ => trivial)); (case aO => exact (G.kR HO649.out)); (case aS => exact (below_size G.bel)); (case aL => have := LMc20.out; have hlx_ := (show ((l0.take ((wrap64 ((wrap64 (x4_4 + x5_2)) - x6_2)) : Int).toNat).drop (x4_4 : Int).toNat).length = ((wrap64 ((wrap64 (x4_4 + x5_2)) - x6_2)).toNat - x4_4.toNat) from (by rw [List.length_drop, List.length_take]; have h_ : ((wrap64 ((wrap64 (x4_4 + x5_2)) - x6_2)) : Int) ≤ (l0.length : Int) := G.odt; omega)); omega); intro v652 w25 ho hb hg hat; rw [← Ny651.out] at ho; have n0_ := Aside0.mk (Kd.S_after (ok := (fun _ => True)) (G.kS HO_3.out) hg hat); have n1_ := Aside0.mk (hb); have n2_ := Aside0.mk (ho); clear HO_3; clear HB; clear HO649; have HO_3 := n0_; have HB := n1_; have HO653 := n2_; clear n0_ n1_ n2_; clear ho hb hg hat; obtain ⟨Ao27, co27, eo27⟩ := Kd.R_slice HO653.out; subst eo27) | ((with_reducible refine gate_builtin (b := .append) (xs := #[.tmp 47, .tmp 58]) rfl ?_); at_builtin; refine Kd.S_append (Kd.slice 3 (Kd.int .i64)) (w0 := w) w.heap.size rfl (.tmp 47) (.tmp 58) 23 22 (.slice none 0 0) 24 rfl Try.underlying23 info22 rfl (by decide) (by omega) u3 x3_4 y651 [.slice Ao27 y651.length co27] (fun _ => True) (fun k_ => some k_ = (.slice Ao27 y651.length co27 : Value).ownBlock) rfl rfl ?aP (fun k_ hk_ => ((Kd.R_mono (ok' := fun k_ => ((fun _ => True)) k_ ∧ some k_ ≠ (u3 : Value).ownBlock) (Kd.R_apart' (HO653.out) (Kd.S_typed HO_3.out) (by decide)) (fun k_ hk => ⟨trivial, hk.2⟩))).1 k_ hk_.symm) ?aF ?aO ?aB ?aS ?aL ?_; (case aP => exact Kd.M_row (Kd.R_mono (Kd.R_tight rfl (Kd.R_mono (ok' := fun k_ => ((fun _ => True)) k_ ∧ some k_ ≠ (u3 : Value).ownBlock) (Kd.R_apart' (HO653.out) (Kd.S_typed HO_3.out) (by decide)) (fun k_ hk => ⟨trivial, hk.2⟩))) (fun _ h_ => h_))); (case aB => exact G.bel); (case aF => exact (fun _ _ => trivial)); (case aO => exact (by (with_reducible repeat (first | apply Kd.S_alloc | apply Kd.S_drewN | apply Kd.S_drew)); exact Kd.S_mono HO_3.out (fun k_ hk => ⟨trivial, fun e_ => hk.2 e_⟩))); (case aS => exact (below_size G.bel)); (case aL => have := LMc21.out; omega); intro v655 w26 ho hb hg hat; rw [← Ny654.out] at ho; have n0_ := Aside0.mk (hb); have n1_ := Aside0.mk (ho); clear HB; clear HO_3; clear HO653; have HB := n0_; have HO656 := n1_; clear n0_ n1_; clear ho hb hg hat)))
                 go_roundg k4
                 case measure => have := HK1.out; have := HK2.out; have := HJ4.out; have := HK4.out; omega
                 case rel => exact ⟨(y654), (wrap64 ((wrap64 (x4_4 + x5_2)) - x6_2)), G.tr, H', ⟨by have := HK1.out; have := HK2.out; have := HJ4.out; have := HK4.out; omega⟩, ⟨G.kS HO656.out⟩, ⟨G.bel⟩⟩
                ·rw [if_neg c21] at H
                 exact absurd H (by simp)
               ·rw [if_neg c20] at H
                exact absurd H (by simp)
              ·rw [if_neg c19] at H
               exact absurd H (by simp)
             ·rw [if_neg c18] at H
              exact absurd H (by simp)
            ·rw [if_neg c17] at H
             exact absurd H (by simp)
           ·rw [if_neg c16] at H
            have c16b0 : decide (x4_4 ≤ x6_2) = false := decide_eq_false c16
            clear c16
            have H' := Aside0.mk H
            clear H
            go_wp2
            repeat (go_quiet (fail); try go_wp2)
            go_roundg k4
            case measure => have := HK1.out; have := HK2.out; have := HJ4.out; have := HK4.out; omega
            case rel => exact ⟨(x3_4), (x4_4), G.tr, H', ⟨by have := HK1.out; have := HK2.out; have := HJ4.out; have := HK4.out; omega⟩, ⟨G.kS HO_3.out⟩, ⟨G.bel⟩⟩
   ·rw [if_neg c4] at H
    have c4b0 : decide (x4_1 < (l0.length : Int)) = false := decide_eq_false c4
    clear c4
    obtain rfl := Option.some.inj H
    go_wp2
    repeat (go_quiet (fail); try go_wp2)
    go_ret
    exact ⟨_, G.er, G.kS HO_3.out, G.bel⟩

/-! ### impl_IsLyndon: function 84 -/
def impl_IsLyndon.f (k : Nat) (l0 : List Int) : Option (Bool) := if (l0.length : Int) > 0 then ((impl_lyndon.f k l0).bind fun t657 => (if 0 < (t657.length : Int) then (some (((rd_L1 t657 0).length : Int) == (l0.length : Int))) else (none))) else (some false)
theorem impl_IsLyndon.mono : ∀ a0 k, LeO (impl_IsLyndon.f k a0) (impl_IsLyndon.f (k + 1) a0) := by
 intro a0 k
 unfold impl_IsLyndon.f
 repeat' first
   | (with_reducible exact impl_lyndon.mono _ _)
   | (with_reducible exact LeO.refl _)
   | (with_reducible exact LeO.none _)
   | (with_reducible refine LeO.ite ?_ ?_)
   | (with_reducible refine LeO.bind ?_ (fun _ => ?_))
   | exact impl_lyndon.mono _ _
   | exact LeO.none _
   | refine LeO.ite ?_ ?_
   | refine LeO.bind ?_ (fun _ => ?_)
set_option maxHeartbeats 8000000 in
set_option maxRecDepth 100000 in
theorem impl_IsLyndon.calls (k : Nat) (A0 : Option Addr) (c0 : Nat) (l0 : List Int) (r : Bool) (w : World) (hr0 : Kd.C (Kd.int .i64) w A0 l0.length l0) (hc0 : l0.length ≤ c0) (h : impl_IsLyndon.f k l0 = some r) :
  Calls Try.prog 84 #[.slice A0 l0.length c0] w fun e w' => e = .returned (.bool r) ∧ Below w.heap.size w w' := by
 have HR0 := Aside0.mk hr0
 have HC0 := Aside0.mk hc0
 clear hr0 hc0
 have HB := Aside0.mk (Below.refl w.heap.size w)
 have H : (if (l0.length : Int) > 0 then ((impl_lyndon.f k l0).bind fun t657 => (if 0 < (t657.length : Int) then (some (((rd_L1 t657 0).length : Int) == (l0.length : Int))) else (none))) else (some false)) = some r := h
 clear h
 by_cases c2 : (l0.length : Int) > 0
 ·rw [if_pos c2] at H
  have c2b0 : decide (0 < (l0.length : Int)) = true := decide_eq_true c2
  have c2b1 : decide (0 < l0.length) = true := decide_eq_true (by omega)
  clear c2
  obtain ⟨t657, A3, H⟩ := G.bx H
  by_cases c4 : 0 < (t657.length : Int)
  ·rw [if_pos c4] at H
   have c4b0 : decide (0 < (t657.length : Int)) = true := decide_eq_true c4
   have c4b1 : decide (0 < t657.length) = true := decide_eq_true (by omega)
   clear c4
   obtain rfl := Option.some.inj H
   go_enter Try.func84, Try.ntmps84
   go_wp2_with (first | (go_at_call 142; (with_reducible refine (impl_lyndon.calls k (fun k_ => k_ < w.heap.size) _ _ l0 t657 _ ?side1 A3.out).mono ?_); (case side1 => exact Kd.V_mk HC0.out (Kd.F_below (Kd.C_F (Kd.heap_int .i64) HR0.out) G.bel)); rintro e w5 ⟨v658, rfl, ho0, hb⟩; have n0_ := Aside0.mk (Kd.N_lower (Kd.N_mono (ok' := fun k_ => True) ho0 (fun k_ hk_ => trivial)) (below_size G.bel)); have n1_ := Aside0.mk (below_step G.bel hb); clear HB; have HO659 := n0_; have HB := n1_; clear n0_ n1_; (try clear hb); (try clear hb2); (try clear hk); (try clear hi); (try clear ho0); obtain ⟨Ao6, co6, eo6⟩ := Kd.N_slice HO659.out; subst eo6; have p660 : 0 ≤ (0 : Int) := (by omega); have q660 : 0 < (t657.length : Int) := G.odt; obtain ⟨ad660, A660_0, c660_0, e660, hx660_0, hl660_0, hi660_0⟩ := at_L1 (Kd.N_reads' HO659.out).2.2 0 p660 q660; cases e660; obtain ⟨ce660, hce660, hMe660, hcc660⟩ := Kd.N_get HO659.out [] 0 p660 (by first | exact q660 | exact G.odt | (have e_ := (Kd.N_reads' HO659.out).1; omega)); obtain ⟨ua660_0, uc660_0, rfl, ul660_0, ge660_0⟩ := Kd.FK_slice_open hMe660; have hv660_0 := hcc660 0 _ rfl; rw [Nat.add_zero, show ((Kd.slice 3 (Kd.int .i64))).sz = 1 from rfl, Nat.mul_one] at hv660_0; replace hv660_0 := Option.some.inj (hv660_0.symm.trans hx660_0); injection hv660_0 with hva_ hvn_ hvc_; rw [hva_] at ge660_0; rw [hvc_] at ul660_0; have HL660_0 := Aside0.mk (show Kd.V (Kd.int .i64) 3 _ w.heap.size _ _ (rd_L1 t657 0) from Kd.V_mk ul660_0 ge660_0); clear hva_ hvn_ hvc_ ge660_0 ul660_0; clear hcc660 hce660; have qi660 : (0 < t657.length) = True := eq_true (by omega); (try rw [show ((0 : Int)).toNat = 0 from rfl] at hx660_0); (try rw [Addr.add_zero'] at hx660_0); have HR660_0 := Aside0.mk hi660_0; have HC660_0 := Aside0.mk hl660_0; clear hi660_0 hl660_0; replace p660 := eq_true p660; replace q660 := eq_true q660))
   go_ret
   exact ⟨G.er, G.bel⟩
  ·rw [if_neg c4] at H
   exact absurd H (by simp)
 ·rw [if_neg c2] at H
  have c2b0 : decide (0 < (l0.length : Int)) = false := decide_eq_false c2
  have c2b1 : decide (0 < l0.length) = false := decide_eq_false (by omega)
  clear c2
  obtain rfl := Option.some.inj H
  go_enter Try.func84, Try.ntmps84
  go_wp2
  go_ret
  exact ⟨G.er, G.bel⟩

/-! ### spec_IsLyndon: function 85 -/
def spec_IsLyndon.l0 : Nat → List Int → Int → Option (Bool)
 | 0, _, _ => none
 | k + 1, x0, x3 => if x3 < (x0.length : Int) then (if 0 ≤ x3 then (if x3 ≤ (x0.length : Int) then ((spec_CompareWords.f k x0 (x0.drop (x3 : Int).toNat)).bind fun t662 => (if t662 ≥ 0 then (some false) else (spec_IsLyndon.l0 k x0 (wrap64 (x3 + 1))))) else (none)) else (none)) else (some (decide ((x0.length : Int) > 0)))
def spec_IsLyndon.f (k : Nat) (l0 : List Int) : Option (Bool) := spec_IsLyndon.l0 k l0 1
theorem spec_IsLyndon.mono_l : ∀ k, (∀ y0 y1, LeO (spec_IsLyndon.l0 k y0 y1) (spec_IsLyndon.l0 (k + 1) y0 y1))
 | 0 => fun _ _ r h => by simp [spec_IsLyndon.l0] at h
 | k + 1 => by
  have ih0 := spec_IsLyndon.mono_l k
  ·intro y0 y1
   unfold spec_IsLyndon.l0
   repeat' first
   | (with_reducible exact ih0 _ _)
   | (with_reducible exact spec_CompareWords.mono _ _ _)
   | (with_reducible exact LeO.refl _)
   | (with_reducible exact LeO.none _)
   | (with_reducible refine LeO.ite ?_ ?_)
   | (with_reducible refine LeO.bind ?_ (fun _ => ?_))
   | exact ih0 _ _
   | exact spec_CompareWords.mono _ _ _
   | exact LeO.none _
   | refine LeO.ite ?_ ?_
   | refine LeO.bind ?_ (fun _ => ?_)
theorem spec_IsLyndon.mono : ∀ a0 k, LeO (spec_IsLyndon.f k a0) (spec_IsLyndon.f (k + 1) a0) := by
 intro a0 k
 have ih0 := spec_IsLyndon.mono_l k
 unfold spec_IsLyndon.f
 repeat' first
   | (with_reducible exact ih0 _ _)
   | (with_reducible exact spec_CompareWords.mono _ _ _)
   | (with_reducible exact LeO.refl _)
   | (with_reducible exact LeO.none _)
   | (with_reducible refine LeO.ite ?_ ?_)
   | (with_reducible refine LeO.bind ?_ (fun _ => ?_))
   | exact ih0 _ _
   | exact spec_CompareWords.mono _ _ _
   | exact LeO.none _
   | refine LeO.ite ?_ ?_
   | refine LeO.bind ?_ (fun _ => ?_)
set_option maxHeartbeats 8000000 in
set_option maxRecDepth 100000 in
theorem spec_IsLyndon.calls (k : Nat) (A0 : Option Addr) (c0 : Nat) (l0 : List Int) (r : Bool) (w : World) (hr0 : Kd.C (Kd.int .i64) w A0 l0.length l0) (hc0 : l0.length ≤ c0) (h : spec_IsLyndon.f k l0 = some r) :
  Calls Try.prog 85 #[.slice A0 l0.length c0] w fun e w' => e = .returned (.bool r) ∧ Drawn0 w w' := by
 have HR0 := Aside0.mk hr0
 have HC0 := Aside0.mk hc0
 clear hr0 hc0
 have H : (spec_IsLyndon.l0 k l0 1) = some r := h
 clear h
 have H' := Aside0.mk H
 clear H
 go_enter Try.func85, Try.ntmps85
 go_wp2
 go_loopg [3] k (fun kq v3 w' => ∃ (x3_1 : Int), v3 = .int .i64 x3_1 ∧ Aside0 (spec_IsLyndon.l0 kq l0 x3_1 = some r) ∧ Aside0 (kq ≤ k) ∧ Drawn0 w w')
 case atStart => exact ⟨(1), G.tr, H', ⟨Nat.le_refl _⟩, G.dn⟩
 case round =>
  clear H'
  obtain ⟨x3_1, rfl, HA, HK1, ⟨m1, rfl⟩⟩ := hrel
  cases gk with
  | zero => exact absurd HA.out (by simp [spec_IsLyndon.l0])
  | succ k1 =>
   have H := HA.out
   clear HA
   simp only [spec_IsLyndon.l0] at H
   by_cases c2 : x3_1 < (l0.length : Int)
   ·rw [if_pos c2] at H
    have c2b0 : decide (x3_1 < (l0.length : Int)) = true := decide_eq_true c2
    clear c2
    by_cases c3 : 0 ≤ x3_1
    ·rw [if_pos c3] at H
     have c3b0 := eq_true c3
     have c3b1 : decide (0 ≤ x3_1) = true := decide_eq_true c3
     clear c3
     by_cases c4 : x3_1 ≤ (l0.length : Int)
     ·rw [if_pos c4] at H
      have c4b0 := eq_true c4
      have c4b1 : decide (x3_1 ≤ (l0.length : Int)) = true := decide_eq_true c4
      clear c4
      obtain ⟨t662, A5, H⟩ := G.bx H
      by_cases c6 : t662 ≥ 0
      ·rw [if_pos c6] at H
       have c6b0 : decide (0 ≤ t662) = true := decide_eq_true c6
       clear c6
       obtain rfl := Option.some.inj H
       obtain ⟨i07, hi07, _, hsz7, _⟩ := info_parts info3
       obtain ⟨A7, hcut7, hA7, hC7⟩ := print_drop_of (P := Try.prog) (Value.int .i64) 0 22 3 .i64 Try.underlying22 hi07 hsz7 A0 c0 l0 x3_1 G.odt G.odt HC0.out
       have HR661 := Aside0.mk (Kd.C_of_reads (h1 := fun _ => rfl) (hA7 _ (Kd.reads_of_C HR0.out)))
       have HC661 := Aside0.mk hC7
       clear hA7 hC7 hi07 hsz7
       go_wp2_with (first | ((with_reducible refine gate_callee (f := 79) rfl ?_); refine goesL_ (some 14) rfl rfl Try.func79 (by kernel_rfl) rfl #[.slice A0 l0.length c0, .slice A7 (l0.drop (x3_1 : Int).toNat).length (c0 - x3_1.toNat)] rfl (by (try simp only [List.map_toArray, List.map_cons, List.map_nil]); first | done | (rw [show (l0.drop (x3_1 : Int).toNat).length = (l0.length - x3_1.toNat) from List.length_drop] <;> rfl) | rfl | (simp only [List.length_drop, List.length_take]; rfl)) ?_; (with_reducible refine (spec_CompareWords.calls k1 _ _ l0 _ _ (l0.drop (x3_1 : Int).toNat) t662 _ ?side1 ?side2 ?side3 ?side4 A5.out).mono ?_); (case side1 => exact G.kC HR0.out); (case side2 => exact HC0.out); (case side3 => exact G.kC HR661.out); (case side4 => exact HC661.out); rintro e w' ⟨rfl, ⟨nd, rfl⟩⟩; refine ⟨_, rfl, ?_⟩))
       go_ret
       exact ⟨G.tr, G.dn⟩
      ·rw [if_neg c6] at H
       have c6b0 : decide (0 ≤ t662) = false := decide_eq_false c6
       clear c6
       have H' := Aside0.mk H
       clear H
       obtain ⟨i08, hi08, _, hsz8, _⟩ := info_parts info3
       obtain ⟨A8, hcut8, hA8, hC8⟩ := print_drop_of (P := Try.prog) (Value.int .i64) 0 22 3 .i64 Try.underlying22 hi08 hsz8 A0 c0 l0 x3_1 G.odt G.odt HC0.out
       have HR661 := Aside0.mk (Kd.C_of_reads (h1 := fun _ => rfl) (hA8 _ (Kd.reads_of_C HR0.out)))
       have HC661 := Aside0.mk hC8
       clear hA8 hC8 hi08 hsz8
       go_wp2_with (first | ((with_reducible refine gate_callee (f := 79) rfl ?_); refine goesL_ (some 14) rfl rfl Try.func79 (by kernel_rfl) rfl #[.slice A0 l0.length c0, .slice A8 (l0.drop (x3_1 : Int).toNat).length (c0 - x3_1.toNat)] rfl (by (try simp only [List.map_toArray, List.map_cons, List.map_nil]); first | done | (rw [show (l0.drop (x3_1 : Int).toNat).length = (l0.length - x3_1.toNat) from List.length_drop] <;> rfl) | rfl | (simp only [List.length_drop, List.length_take]; rfl)) ?_; (with_reducible refine (spec_CompareWords.calls k1 _ _ l0 _ _ (l0.drop (x3_1 : Int).toNat) t662 _ ?side1 ?side2 ?side3 ?side4 A5.out).mono ?_); (case side1 => exact G.kC HR0.out); (case side2 => exact HC0.out); (case side3 => exact G.kC HR661.out); (case side4 => exact HC661.out); rintro e w' ⟨rfl, ⟨nd, rfl⟩⟩; refine ⟨_, rfl, ?_⟩))
       go_roundg k1
       case measure => have := HK1.out; omega
       case rel => exact ⟨(wrap64 (x3_1 + 1)), G.tr, H', ⟨by have := HK1.out; omega⟩, G.dn⟩
     ·rw [if_neg c4] at H
      exact absurd H (by simp)
    ·rw [if_neg c3] at H
     exact absurd H (by simp)
   ·rw [if_neg c2] at H
    have c2b0 : decide (x3_1 < (l0.length : Int)) = false := decide_eq_false c2
    clear c2
    obtain rfl := Option.some.inj H
    go_wp2
    go_ret
    exact ⟨G.tr, G.dn⟩

/-! ### impl_LeastConjugate: function 86 -/
def impl_LeastConjugate.f (k : Nat) (l0 : List Int) : Option (List Int) := (impl_ConjugatesOf.f k l0).bind fun t663 => (if (t663.length : Int) = 0 then ((some (([] : List Int) : List Int)).bind fun y666 => (if y666.length + l0.length < 17592186044416 then (some (y666 ++ l0)) else (none))) else (if 0 < (t663.length : Int) then (some (rd_L1 t663 0)) else (none)))
set_option maxHeartbeats 8000000 in
set_option maxRecDepth 100000 in
theorem impl_LeastConjugate.calls (k : Nat) (A0 : Option Addr) (c0 : Nat) (l0 : List Int) (r : List Int) (w : World) (hr0 : Kd.C (Kd.int .i64) w A0 l0.length l0) (hc0 : l0.length ≤ c0) (h : impl_LeastConjugate.f k l0 = some r) :
  Calls Try.prog 86 #[.slice A0 l0.length c0] w fun e w' => ∃ v0_ : Value, e = .returned (v0_) ∧ Kd.R (Kd.int .i64) 3 w' w.heap.size (fun _ => True) v0_ r ∧ Below w.heap.size w w' := by
 have HR0 := Aside0.mk hr0
 have HC0 := Aside0.mk hc0
 clear hr0 hc0
 have HB := Aside0.mk (Below.refl w.heap.size w)
 have H : ((impl_ConjugatesOf.f k l0).bind fun t663 => (if (t663.length : Int) = 0 then ((some (([] : List Int) : List Int)).bind fun y666 => (if y666.length + l0.length < 17592186044416 then (some (y666 ++ l0)) else (none))) else (if 0 < (t663.length : Int) then (some (rd_L1 t663 0)) else (none)))) = some r := h
 clear h
 obtain ⟨t663, A2, H⟩ := G.bx H
 by_cases c3 : (t663.length : Int) = 0
 ·rw [if_pos c3] at H
  have c3b0 : ((t663.length : Int) == 0) = true := beq_iff_eq.mpr c3
  have c3b1 : ((t663.length : Int) != 0) = false := bne_eq_false_iff_eq.mpr c3
  clear c3
  obtain ⟨y666, hy666⟩ : ∃ y_ : List Int, y_ = (([] : List Int)) := ⟨_, rfl⟩
  replace H : (if y666.length + l0.length < 17592186044416 then (some (y666 ++ l0)) else (none)) = some r := by first | (rw [hy666]; with_reducible exact H) | (have H2_ := (Option.bind_some _ _).symm.trans H; rw [hy666]; with_reducible exact H2_) | (have H2_ := (Option.bind_some _ _).symm.trans H; with_reducible exact H2_) | with_reducible exact H | (rw [hy666]; exact H) | exact H
  have Ny666 := Aside0.mk hy666
  clear hy666
  by_cases c4 : y666.length + l0.length < 17592186044416
  ·rw [if_pos c4] at H
   have LMc4 := Aside0.mk c4
   clear c4
   obtain ⟨y669, hy669⟩ : ∃ y_ : List Int, y_ = (y666 ++ l0) := ⟨_, rfl⟩
   replace H : (some y669) = some r := by first | (rw [hy669]; with_reducible exact H) | (have H2_ := (Option.bind_some _ _).symm.trans H; rw [hy669]; with_reducible exact H2_) | (have H2_ := (Option.bind_some _ _).symm.trans H; with_reducible exact H2_) | with_reducible exact H | (rw [hy669]; exact H) | exact H
   have Ny669 := Aside0.mk hy669
   clear hy669
   obtain rfl := Option.some.inj H
   go_enter Try.func86, Try.ntmps86
   go_wp2_with (first | ((with_reducible refine gate_callee (f := 16) rfl ?_); refine goesL_ (some 5) rfl rfl Try.func16 (by kernel_rfl) rfl #[.slice A0 l0.length c0] rfl G.ar ?_; (with_reducible refine (impl_ConjugatesOf.calls k _ _ l0 t663 _ ?side1 ?side2 A2.out).mono ?_); (case side1 => exact G.kC HR0.out); (case side2 => exact HC0.out); rintro e w5 ⟨v664, rfl, ho0, hb⟩; refine ⟨_, rfl, ?_⟩; have n0_ := Aside0.mk (Kd.S_lower ho0 (below_size G.bel)); have n1_ := Aside0.mk (below_step G.bel hb); clear HB; have HO665 := n0_; have HB := n1_; clear n0_ n1_; (try clear hb); (try clear hb2); (try clear hk); (try clear hi); (try clear ho0); obtain ⟨Ao6, co6, eo6⟩ := Kd.S_slice HO665.out; subst eo6) | ((with_reducible refine gate_dst (N := 9) rfl ?_); refine Kd.R_lit (Kd.int .i64) _ 3 ?hg (N := 9) ?hd (xs := ([] : List Int)) (inner := []) (ok := fun _ => True) (okp := fun _ => True) ?hr ?hp (fun _ hk => hk) trivial (Below.refl _ _) (Nat.le_refl _) (by simp) ?_; (case hd => rfl); (case hg => rfl); (case hr => first | (go_simp; done) | (go_simp; rfl)); (case hp => exact (Reps.none _ _)); intro v667 w7 ho8 hb hg_ hnew_; clear hg_ hnew_; (first | rw [← Ny666.out] at ho8 | (simp only [Int.reduceToNat] at ho8; rw [← Ny666.out] at ho8)); have n0_ := Aside0.mk (Kd.S_elder' (G.kS HO665.out) (Kd.R_base ho8) hb); have n1_ := Aside0.mk (Kd.R_lower ho8 (below_size G.bel)); have n2_ := Aside0.mk (below_step G.bel hb); clear HO665; clear HB; have HO665 := n0_; have HO668 := n1_; have HB := n2_; clear n0_ n1_ n2_; clear hb ho8) | ((with_reducible refine gate_builtin (b := .append) (xs := #[.tmp 9, .tmp 10]) rfl ?_); at_builtin; refine Kd.R_append_rows (Kd.int .i64) (w0 := w) w.heap.size rfl (.tmp 9) (.tmp 10) 22 3 (.int .i64 0) 8 rfl Try.underlying22 info3 rfl (by decide) (by omega) v667 y666 l0 _ _ _ (fun _ => True) (fun _ => False) rfl rfl ?aO ?aR (fun _ _ h => h) (fun _ h => h.elim) ?aF ?aB ?aS ?aL ?_; (case aR => exact G.kC (Kd.C_below HR0.out HB.out)); (case aB => exact G.bel); (case aF => exact (fun _ _ => trivial)); (case aO => exact (G.kR HO668.out)); (case aS => exact (below_size G.bel)); (case aL => have := LMc4.out; omega); intro v670 w9 ho hb hg hat; rw [← Ny669.out] at ho; have n0_ := Aside0.mk (Kd.S_after (ok := (fun _ => True)) (G.kS HO665.out) hg hat); have n1_ := Aside0.mk (hb); have n2_ := Aside0.mk (ho); clear HO665; clear HB; clear HO668; have HO665 := n0_; have HB := n1_; have HO671 := n2_; clear n0_ n1_ n2_; clear ho hb hg hat))
   go_ret
   exact ⟨_, G.er, G.kR HO671.out, G.bel⟩
  ·rw [if_neg c4] at H
   exact absurd H (by simp)
 ·rw [if_neg c3] at H
  have c3b0 : ((t663.length : Int) == 0) = false := beq_eq_false_iff_ne.mpr c3
  have c3b1 : ((t663.length : Int) != 0) = true := bne_iff_ne.mpr c3
  have c3b2 : ¬ (t663 = []) := fun h_ => c3 (by rw [h_]; rfl)
  by_cases c10 : 0 < (t663.length : Int)
  ·rw [if_pos c10] at H
   have c10b0 : decide (0 < (t663.length : Int)) = true := decide_eq_true c10
   have c10b1 : decide (0 < t663.length) = true := decide_eq_true (by omega)
   clear c10
   obtain rfl := Option.some.inj H
   go_enter Try.func86, Try.ntmps86
   go_wp2_with (first | ((with_reducible refine gate_callee (f := 16) rfl ?_); refine goesL_ (some 5) rfl rfl Try.func16 (by kernel_rfl) rfl #[.slice A0 l0.length c0] rfl G.ar ?_; (with_reducible refine (impl_ConjugatesOf.calls k _ _ l0 t663 _ ?side1 ?side2 A2.out).mono ?_); (case side1 => exact G.kC HR0.out); (case side2 => exact HC0.out); rintro e w11 ⟨v664, rfl, ho0, hb⟩; refine ⟨_, rfl, ?_⟩; have n0_ := Aside0.mk (Kd.S_lower ho0 (below_size G.bel)); have n1_ := Aside0.mk (below_step G.bel hb); clear HB; have HO665 := n0_; have HB := n1_; clear n0_ n1_; (try clear hb); (try clear hb2); (try clear hk); (try clear hi); (try clear ho0); obtain ⟨Ao12, co12, eo12⟩ := Kd.S_slice HO665.out; subst eo12; have p672 : 0 ≤ (0 : Int) := (by omega); have q672 : 0 < (t663.length : Int) := G.odt; obtain ⟨ad672, A672_0, c672_0, e672, hx672_0, hl672_0, hi672_0⟩ := at_L1 (Kd.S_reads' HO665.out).2.2 0 p672 q672; cases e672; obtain ⟨ce672, hce672, hMe672, hcc672⟩ := Kd.S_get HO665.out [] 0 p672 (by first | exact q672 | exact G.odt | (have e_ := (Kd.S_reads' HO665.out).1; omega)); obtain ⟨ve672_0, rfl, ge672_0⟩ := hMe672; have hv672_0 := hcc672 0 _ rfl; rw [Nat.add_zero, show ((Kd.slice 3 (Kd.int .i64))).sz = 1 from rfl, Nat.mul_one] at hv672_0; replace hv672_0 := Option.some.inj (hv672_0.symm.trans hx672_0); rw [hv672_0] at ge672_0; have HL672_0 := Aside0.mk (show Kd.R (Kd.int .i64) 3 _ _ _ _ (rd_L1 t663 0) from ge672_0); clear hv672_0 ge672_0; clear hcc672 hce672; have qi672 : (0 < t663.length) = True := eq_true (by omega); (try rw [show ((0 : Int)).toNat = 0 from rfl] at hx672_0); (try rw [Addr.add_zero'] at hx672_0); have HR672_0 := Aside0.mk hi672_0; have HC672_0 := Aside0.mk hl672_0; clear hi672_0 hl672_0; replace p672 := eq_true p672; replace q672 := eq_true q672))
   go_ret
   exact ⟨_, G.er, by (with_reducible repeat (first | apply Kd.R_alloc | apply Kd.R_drewN | apply Kd.R_drew)); exact Kd.R_mono HL672_0.out (fun _ hk => trivial), G.bel⟩
  ·rw [if_neg c10] at H
   exact absurd H (by simp)

/-! ### spec_l11Numbers: own walk, a loose contract -/
-- lib: GDraw
-- num: RL=def rd_L(\d+) \(xs : List \(List Int\)\) \(i : Int\)
section
open Go.Proofs.Ytolikggioekalab.G
set_option maxHeartbeats 8000000 in
set_option maxRecDepth 100000 in
theorem spec_l11Numbers.any (A0 : Option Addr) (c0 : Nat) (l0 : List Int) (w : World) (hr0 : Kd.C (Kd.int .u8) w A0 l0.length l0) (hc0 : l0.length ≤ c0) (hl : l0.length ≤ 1048576) :
  Calls Try.prog 143 #[.slice A0 l0.length c0] w fun e w' => ∃ (r1 r2 : Int), ((0 ≤ r1 ∧ r1 < 6) ∧ (0 ≤ r2 ∧ r2 < 10)) ∧ e = .returned (.tuple #[.int .i64 r1, .int .i64 r2]) ∧ Below w.heap.size w w' := by
 have HR0 := Aside0.mk hr0
 have HC0 := Aside0.mk hc0
 have HL := Aside0.mk hl
 clear hr0 hc0 hl
 go_enter Try.func143, Try.ntmps143
 go_wp2_with (first | (go_at_call 122; (with_reducible refine (spec_l1New.any A0 c0 l0 w HR0.out HC0.out HL.out).mono ?_); rintro e w2 ⟨g, rfl, hc, hb⟩; have HC := Aside0.mk hc; clear hc hb) | (go_at_call 127; (with_reducible refine (spec_l1Below.any w _ g 6 HC.out (by decide)).mono ?_); rintro e w4 ⟨⟨z, rfl, hz⟩, hc, hk⟩; have HZ := Aside0.mk hz; have HC3 := Aside0.mk hc; clear HC hz hc hk) | (go_at_call 127; (with_reducible refine (spec_l1Below.any w _ g 10 HC3.out (by decide)).mono ?_); rintro e w5 ⟨⟨y, rfl, hy⟩, hc, hk⟩; have HY := Aside0.mk hy; have HC4 := Aside0.mk hc; clear hy hc hk))
 go_ret2
 exact ⟨z, y, ⟨by have := HZ.out; omega, by have := HY.out; omega⟩, rfl, HC4.out.2⟩
end

/-! ### spec_DrawLyndonWords: own walk, a loose contract -/
-- lib: GDraw
-- num: RL=def rd_L(\d+) \(xs : List \(List Int\)\) \(i : Int\)
section
open Go.Proofs.Ytolikggioekalab.G
def spec_DrawLyndonWords.Ok (t : Int × Int) : Prop := (0 ≤ t.1 ∧ t.1 < 6) ∧ (0 ≤ t.2 ∧ t.2 < 10)
set_option maxHeartbeats 8000000 in
set_option maxRecDepth 100000 in
theorem spec_DrawLyndonWords.any (A0 : Option Addr) (c0 : Nat) (l0 : List Int) (w : World) (hr0 : Kd.C (Kd.int .u8) w A0 l0.length l0) (hc0 : l0.length ≤ c0) (hl : l0.length ≤ 1048576) :
  Calls Try.prog 88 #[.slice A0 l0.length c0] w fun e w' => ∃ (r1 r2 : Int), ((0 ≤ r1 ∧ r1 < 6) ∧ (0 ≤ r2 ∧ r2 < 10)) ∧ e = .returned (.tuple #[.int .i64 r1, .int .i64 r2]) ∧ Below w.heap.size w w' := by
 have HR0 := Aside0.mk hr0
 have HC0 := Aside0.mk hc0
 have HL := Aside0.mk hl
 clear hr0 hc0 hl
 go_enter Try.func88, Try.ntmps88
 go_wp2_with (go_at_call 143; (with_reducible refine (spec_l11Numbers.any A0 c0 l0 w HR0.out HC0.out HL.out).mono ?_); rintro e w2 ⟨r1, r2, hz, rfl, hb⟩; have HZ := Aside0.mk hz; have HB := Aside0.mk hb; clear hz hb)
 go_ret2
 exact ⟨r1, r2, HZ.out, rfl, HB.out⟩
end

/-! ### impl_power: function 144 -/
def impl_power.l0 : Nat → Int → Int → Int → Int → Option (Int)
 | 0, _, _, _, _ => none
 | k + 1, x0, x5, x6, x7 => if x7 < x6 then (impl_power.l0 k x0 (wrap64 (x5 * x0)) x6 (wrap64 (x7 + 1))) else (some x5)
def impl_power.f (k : Nat) (a0 : Int) (a1 : Int) : Option (Int) := impl_power.l0 k a0 1 a1 0
theorem impl_power.mono_l : ∀ k, (∀ y0 y1 y2 y3, LeO (impl_power.l0 k y0 y1 y2 y3) (impl_power.l0 (k + 1) y0 y1 y2 y3))
 | 0 => fun _ _ _ _ r h => by simp [impl_power.l0] at h
 | k + 1 => by
  have ih0 := impl_power.mono_l k
  ·intro y0 y1 y2 y3
   unfold impl_power.l0
   repeat' first
   | (with_reducible exact ih0 _ _ _ _)
   | (with_reducible exact LeO.refl _)
   | (with_reducible exact LeO.none _)
   | (with_reducible refine LeO.ite ?_ ?_)
   | (with_reducible refine LeO.bind ?_ (fun _ => ?_))
   | exact ih0 _ _ _ _
   | exact LeO.none _
   | refine LeO.ite ?_ ?_
   | refine LeO.bind ?_ (fun _ => ?_)
theorem impl_power.mono : ∀ a0 a1 k, LeO (impl_power.f k a0 a1) (impl_power.f (k + 1) a0 a1) := by
 intro a0 a1 k
 have ih0 := impl_power.mono_l k
 unfold impl_power.f
 repeat' first
   | (with_reducible exact ih0 _ _ _ _)
   | (with_reducible exact LeO.refl _)
   | (with_reducible exact LeO.none _)
   | (with_reducible refine LeO.ite ?_ ?_)
   | (with_reducible refine LeO.bind ?_ (fun _ => ?_))
   | exact ih0 _ _ _ _
   | exact LeO.none _
   | refine LeO.ite ?_ ?_
   | refine LeO.bind ?_ (fun _ => ?_)
set_option maxHeartbeats 8000000 in
set_option maxRecDepth 100000 in
theorem impl_power.calls (k : Nat) (a0 : Int) (a1 : Int) (r : Int) (w : World) (h : impl_power.f k a0 a1 = some r) :
  Calls Try.prog 144 #[.int .i64 a0, .int .i64 a1] w fun e w' => e = .returned (.int .i64 r) ∧ Drawn0 w w' := by
 have H : (impl_power.l0 k a0 1 a1 0) = some r := h
 clear h
 have H' := Aside0.mk H
 clear H
 go_enter Try.func144, Try.ntmps144
 go_wp2
 go_loopg [5, 7] k (fun kq v5 v7 w' => ∃ (x5_1 : Int) (x7_1 : Int), v5 = .int .i64 x5_1 ∧ v7 = .int .i64 x7_1 ∧ Aside0 (impl_power.l0 kq a0 x5_1 a1 x7_1 = some r) ∧ Aside0 (kq ≤ k) ∧ Drawn0 w w')
 case atStart => exact ⟨(1), (0), G.tr, G.tr, H', ⟨Nat.le_refl _⟩, G.dn⟩
 case round =>
  clear H'
  try clear c1; try clear p2
  obtain ⟨x5_1, x7_1, rfl, rfl, HA, HK1, ⟨m1, rfl⟩⟩ := hrel
  cases gk with
  | zero => exact absurd HA.out (by simp [impl_power.l0])
  | succ k1 =>
   have H := HA.out
   clear HA
   simp only [impl_power.l0] at H
   by_cases c3 : x7_1 < a1
   ·rw [if_pos c3] at H
    have c3b0 : decide (x7_1 < a1) = true := decide_eq_true c3
    clear c3
    have H' := Aside0.mk H
    clear H
    go_wp2
    go_roundg k1
    case measure => have := HK1.out; omega
    case rel => exact ⟨(wrap64 (x5_1 * a0)), (wrap64 (x7_1 + 1)), G.tr, G.tr, H', ⟨by have := HK1.out; omega⟩, G.dn⟩
   ·rw [if_neg c3] at H
    have c3b0 : decide (x7_1 < a1) = false := decide_eq_false c3
    clear c3
    obtain rfl := Option.some.inj H
    go_wp2
    go_ret
    exact ⟨G.tr, G.dn⟩

end Go.Proofs.Ytolikggioekalab.PFnLyndon
