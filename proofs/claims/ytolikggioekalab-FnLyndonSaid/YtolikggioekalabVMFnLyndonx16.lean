/- The Go functions that the law FnLyndon reaches (part 16): each as a Lean function, and that its code comes to these answers. No condition beyond those written. -/
import Derived.Test.YtolikggioekalabVGSlim
import Derived.Test.YtolikggioekalabVGDraw
import Derived.Test.YtolikggioekalabVMFnLyndonx15
import Derived.Test.YtolikggioekalabVMFnLyndonx14
import Derived.Test.YtolikggioekalabVMFnLyndonx13
import Derived.Test.YtolikggioekalabVMFnLyndonx12
import Derived.Test.YtolikggioekalabVMFnLyndonx11
import Derived.Test.YtolikggioekalabVMFnLyndonx9
import Derived.Test.YtolikggioekalabVMFnLyndonx8
import Derived.Test.YtolikggioekalabVMFnLyndonx7
import Derived.Test.YtolikggioekalabVMFnLyndonx6
import Derived.Test.YtolikggioekalabVMFnLyndonx3
import Derived.Test.YtolikggioekalabVMFnLyndonx2
import Derived.Test.YtolikggioekalabVMFnLyndonx1
import Derived.Test.YtolikggioekalabVMFnLyndonx0
import Derived.Test.YtolikggioekalabVMFnLyndonx4
import Derived.Test.YtolikggioekalabVMFnLyndonx5
import Derived.Test.YtolikggioekalabVMFnLyndonx10
namespace Go.Proofs.Ytolikggioekalab.PFnLyndon
open Go.RowKit Go.Proofs.YtolikggioekalabW.PrintWords Go.Proofs.YtolikggioekalabW.PrintLast Go.Proofs.YtolikggioekalabW.PrintMore
attribute [local go_sem] max2_int min2_int max_two min_two max_three min_three max_four min_four   -- for this text's walks alone
set_option linter.unusedVariables false
set_option linter.unusedSimpArgs false

/-! ### spec_l9Borders: function 191 -/
mutual
def spec_l9Borders.l0 : Nat → List Int → List Int → Int → Int → Option (List Int)
 | 0, _, _, _, _ => none
 | k + 1, x0, x3, x4, x5 => if x5 < (x0.length : Int) then (if x5 = 0 then (if x3.length < 17592186044416 then (spec_l9Borders.l0 k x0 (x3 ++ [0]) x4 (wrap64 (x5 + 1))) else (none)) else (spec_l9Borders.l1 k x0 x3 x4 x5)) else (some x3)
def spec_l9Borders.l1 : Nat → List Int → List Int → Int → Int → Option (List Int)
 | 0, _, _, _, _ => none
 | k + 1, x0, x3, x4, x5 => if x4 > 0 then (if 0 ≤ x5 then (if x5 < (x0.length : Int) then (if 0 ≤ x4 then (if x4 < (x0.length : Int) then (if (rd x0 x5) = (rd x0 x4) then (if x3.length < 17592186044416 then (spec_l9Borders.l0 k x0 (x3 ++ [wrap64 (x4 + 1)]) (wrap64 (x4 + 1)) (wrap64 (x5 + 1))) else (none)) else (if 0 ≤ (wrap64 (x4 - 1)) then (if (wrap64 (x4 - 1)) < (x3.length : Int) then (spec_l9Borders.l1 k x0 x3 (rd x3 (wrap64 (x4 - 1))) x5) else (none)) else (none))) else (none)) else (none)) else (none)) else (none)) else (if 0 ≤ x5 then (if x5 < (x0.length : Int) then (if 0 ≤ x4 then (if x4 < (x0.length : Int) then (if (rd x0 x5) = (rd x0 x4) then (if x3.length < 17592186044416 then (spec_l9Borders.l0 k x0 (x3 ++ [wrap64 (x4 + 1)]) (wrap64 (x4 + 1)) (wrap64 (x5 + 1))) else (none)) else (if x3.length < 17592186044416 then (spec_l9Borders.l0 k x0 (x3 ++ [x4]) x4 (wrap64 (x5 + 1))) else (none))) else (none)) else (none)) else (none)) else (none))
end
def spec_l9Borders.f (k : Nat) (l0 : List Int) : Option (List Int) := spec_l9Borders.l0 k l0 (([] : List Int)) 0 0
set_option maxHeartbeats 8000000 in
set_option maxRecDepth 100000 in
theorem spec_l9Borders.calls (k : Nat) (A0 : Option Addr) (c0 : Nat) (l0 : List Int) (r : List Int) (w : World) (hr0 : Kd.C (Kd.int .i64) w A0 l0.length l0) (hc0 : l0.length ≤ c0) (h : spec_l9Borders.f k l0 = some r) :
  Calls Try.prog 191 #[.slice A0 l0.length c0] w fun e w' => ∃ v0_ : Value, e = .returned (v0_) ∧ Kd.R (Kd.int .i64) 3 w' w.heap.size (fun _ => True) v0_ r ∧ Below w.heap.size w w' := by
 have HR0 := Aside0.mk hr0
 have HC0 := Aside0.mk hc0
 clear hr0 hc0
 have HB := Aside0.mk (Below.refl w.heap.size w)
 have H : (spec_l9Borders.l0 k l0 (([] : List Int)) 0 0) = some r := h
 clear h
 obtain ⟨y757, hy757⟩ : ∃ y_ : List Int, y_ = (([] : List Int)) := ⟨_, rfl⟩
 replace H : (spec_l9Borders.l0 k l0 y757 0 0) = some r := by first | (rw [hy757]; with_reducible exact H) | (have H2_ := (Option.bind_some _ _).symm.trans H; rw [hy757]; with_reducible exact H2_) | (have H2_ := (Option.bind_some _ _).symm.trans H; with_reducible exact H2_) | with_reducible exact H | (rw [hy757]; exact H) | exact H
 have Ny757 := Aside0.mk hy757
 clear hy757
 have H' := Aside0.mk H
 clear H
 go_enter Try.func191, Try.ntmps191
 go_wp2_with (first | ((with_reducible refine gate_dst (N := 6) rfl ?_); refine Kd.R_lit (Kd.int .i64) _ 3 ?hg (N := 6) ?hd (xs := ([] : List Int)) (inner := []) (ok := fun _ => True) (okp := fun _ => True) ?hr ?hp (fun _ hk => hk) trivial (Below.refl _ _) (Nat.le_refl _) (by simp) ?_; (case hd => rfl); (case hg => rfl); (case hr => first | (go_simp; done) | (go_simp; rfl)); (case hp => exact (Reps.none _ _)); intro v758 w2 ho3 hb hg_ hnew_; clear hg_ hnew_; (first | rw [← Ny757.out] at ho3 | (simp only [Int.reduceToNat] at ho3; rw [← Ny757.out] at ho3)); have n0_ := Aside0.mk (Kd.R_lower ho3 (below_size G.bel)); have n1_ := Aside0.mk (below_step G.bel hb); clear HB; have HO759 := n0_; have HB := n1_; clear n0_ n1_; clear hb ho3))
 repeat (go_quiet (first | ((with_reducible refine gate_dst (N := 6) rfl ?_); refine Kd.R_lit (Kd.int .i64) _ 3 ?hg (N := 6) ?hd (xs := ([] : List Int)) (inner := []) (ok := fun _ => True) (okp := fun _ => True) ?hr ?hp (fun _ hk => hk) trivial (Below.refl _ _) (Nat.le_refl _) (by simp) ?_; (case hd => rfl); (case hg => rfl); (case hr => first | (go_simp; done) | (go_simp; rfl)); (case hp => exact (Reps.none _ _)); intro v758 w2 ho3 hb hg_ hnew_; clear hg_ hnew_; (first | rw [← Ny757.out] at ho3 | (simp only [Int.reduceToNat] at ho3; rw [← Ny757.out] at ho3)); have n0_ := Aside0.mk (Kd.R_lower ho3 (below_size G.bel)); have n1_ := Aside0.mk (below_step G.bel hb); clear HB; have HO759 := n0_; have HB := n1_; clear n0_ n1_; clear hb ho3)); try go_wp2_with (first | ((with_reducible refine gate_dst (N := 6) rfl ?_); refine Kd.R_lit (Kd.int .i64) _ 3 ?hg (N := 6) ?hd (xs := ([] : List Int)) (inner := []) (ok := fun _ => True) (okp := fun _ => True) ?hr ?hp (fun _ hk => hk) trivial (Below.refl _ _) (Nat.le_refl _) (by simp) ?_; (case hd => rfl); (case hg => rfl); (case hr => first | (go_simp; done) | (go_simp; rfl)); (case hp => exact (Reps.none _ _)); intro v758 w2 ho3 hb hg_ hnew_; clear hg_ hnew_; (first | rw [← Ny757.out] at ho3 | (simp only [Int.reduceToNat] at ho3; rw [← Ny757.out] at ho3)); have n0_ := Aside0.mk (Kd.R_lower ho3 (below_size G.bel)); have n1_ := Aside0.mk (below_step G.bel hb); clear HB; have HO759 := n0_; have HB := n1_; clear n0_ n1_; clear hb ho3)))
 go_loopg [3, 4, 5] k (fun kq v3 v4 v5 w' => ∃ (x3_1 : List Int) (x4_1 : Int) (x5_1 : Int), v4 = .int .i64 x4_1 ∧ v5 = .int .i64 x5_1 ∧ Aside0 (spec_l9Borders.l0 kq l0 x3_1 x4_1 x5_1 = some r) ∧ Aside0 (kq ≤ k) ∧ Aside0 (Kd.R (Kd.int .i64) 3 w' w.heap.size (fun _ => True) v3 x3_1) ∧ Aside0 (Below w.heap.size w w'))
 case atStart => exact ⟨(y757), (0), (0), G.tr, G.tr, H', ⟨Nat.le_refl _⟩, ⟨G.kR HO759.out⟩, ⟨G.bel⟩⟩
 case round =>
  clear H'
  try clear c1; try clear p2
  obtain ⟨x3_1, x4_1, x5_1, rfl, rfl, HA, HK1, HO_3, HB⟩ := hrel
  cases gk with
  | zero => exact absurd HA.out (by simp [spec_l9Borders.l0])
  | succ k1 =>
   have H := HA.out
   clear HA
   simp only [spec_l9Borders.l0] at H
   by_cases c4 : x5_1 < (l0.length : Int)
   ·rw [if_pos c4] at H
    have c4b0 : decide (x5_1 < (l0.length : Int)) = true := decide_eq_true c4
    clear c4
    by_cases c5 : x5_1 = 0
    ·rw [if_pos c5] at H
     have c5b0 : (x5_1 == 0) = true := beq_iff_eq.mpr c5
     have c5b1 : (x5_1 != 0) = false := bne_eq_false_iff_eq.mpr c5
     clear c5
     by_cases c6 : x3_1.length < 17592186044416
     ·rw [if_pos c6] at H
      have LMc6 := Aside0.mk c6
      clear c6
      obtain ⟨y760, hy760⟩ : ∃ y_ : List Int, y_ = (x3_1 ++ [0]) := ⟨_, rfl⟩
      replace H : (spec_l9Borders.l0 k1 l0 y760 x4_1 (wrap64 (x5_1 + 1))) = some r := by first | (rw [hy760]; with_reducible exact H) | (have H2_ := (Option.bind_some _ _).symm.trans H; rw [hy760]; with_reducible exact H2_) | (have H2_ := (Option.bind_some _ _).symm.trans H; with_reducible exact H2_) | with_reducible exact H | (rw [hy760]; exact H) | exact H
      have Ny760 := Aside0.mk hy760
      clear hy760
      have H' := Aside0.mk H
      clear H
      go_wp2_with (first | ((with_reducible refine gate_builtin (b := .append) (xs := #[.tmp 15, .tmp 16]) rfl ?_); at_builtin; refine Kd.R_append (Kd.int .i64) (w0 := w) w.heap.size rfl (.tmp 15) (.tmp 16) 22 3 (.int .i64 0) 8 rfl Try.underlying22 info3 rfl (by decide) (by omega) u3 x3_1 0 [.int .i64 0] (fun _ => True) (fun _ => False) rfl rfl ?aP (fun _ hk => hk.elim) ?aF ?aO ?aB ?aS ?aL ?_; (case aP => exact rfl); (case aB => exact G.bel); (case aF => exact (fun _ _ => trivial)); (case aO => exact (G.kR HO_3.out)); (case aS => exact (below_size G.bel)); (case aL => have := LMc6.out; omega); intro v761 w7 ho hb hg hat; rw [← Ny760.out] at ho; have n0_ := Aside0.mk (hb); have n1_ := Aside0.mk (ho); clear HB; clear HO_3; have HB := n0_; have HO762 := n1_; clear n0_ n1_; clear ho hb hg hat))
      repeat (go_quiet (first | ((with_reducible refine gate_builtin (b := .append) (xs := #[.tmp 15, .tmp 16]) rfl ?_); at_builtin; refine Kd.R_append (Kd.int .i64) (w0 := w) w.heap.size rfl (.tmp 15) (.tmp 16) 22 3 (.int .i64 0) 8 rfl Try.underlying22 info3 rfl (by decide) (by omega) u3 x3_1 0 [.int .i64 0] (fun _ => True) (fun _ => False) rfl rfl ?aP (fun _ hk => hk.elim) ?aF ?aO ?aB ?aS ?aL ?_; (case aP => exact rfl); (case aB => exact G.bel); (case aF => exact (fun _ _ => trivial)); (case aO => exact (G.kR HO_3.out)); (case aS => exact (below_size G.bel)); (case aL => have := LMc6.out; omega); intro v761 w7 ho hb hg hat; rw [← Ny760.out] at ho; have n0_ := Aside0.mk (hb); have n1_ := Aside0.mk (ho); clear HB; clear HO_3; have HB := n0_; have HO762 := n1_; clear n0_ n1_; clear ho hb hg hat)); try go_wp2_with (first | ((with_reducible refine gate_builtin (b := .append) (xs := #[.tmp 15, .tmp 16]) rfl ?_); at_builtin; refine Kd.R_append (Kd.int .i64) (w0 := w) w.heap.size rfl (.tmp 15) (.tmp 16) 22 3 (.int .i64 0) 8 rfl Try.underlying22 info3 rfl (by decide) (by omega) u3 x3_1 0 [.int .i64 0] (fun _ => True) (fun _ => False) rfl rfl ?aP (fun _ hk => hk.elim) ?aF ?aO ?aB ?aS ?aL ?_; (case aP => exact rfl); (case aB => exact G.bel); (case aF => exact (fun _ _ => trivial)); (case aO => exact (G.kR HO_3.out)); (case aS => exact (below_size G.bel)); (case aL => have := LMc6.out; omega); intro v761 w7 ho hb hg hat; rw [← Ny760.out] at ho; have n0_ := Aside0.mk (hb); have n1_ := Aside0.mk (ho); clear HB; clear HO_3; have HB := n0_; have HO762 := n1_; clear n0_ n1_; clear ho hb hg hat)))
      go_roundg k1
      case measure => have := HK1.out; omega
      case rel => exact ⟨(y760), (x4_1), (wrap64 (x5_1 + 1)), G.tr, G.tr, H', ⟨by have := HK1.out; omega⟩, ⟨G.kR HO762.out⟩, ⟨G.bel⟩⟩
     ·rw [if_neg c6] at H
      exact absurd H (by simp)
    ·rw [if_neg c5] at H
     have c5b0 : (x5_1 == 0) = false := beq_eq_false_iff_ne.mpr c5
     have c5b1 : (x5_1 != 0) = true := bne_iff_ne.mpr c5
     have H' := Aside0.mk H
     clear H
     go_wp2
     repeat (go_quiet (fail); try go_wp2)
     go_loopg [4] k1 (fun kq v4 w' => ∃ (x4_2 : Int), v4 = .int .i64 x4_2 ∧ Aside0 (spec_l9Borders.l1 kq l0 x3_1 x4_2 x5_1 = some r) ∧ Aside0 (kq ≤ k1) ∧ Aside0 (Kd.R (Kd.int .i64) 3 w' w.heap.size (fun _ => True) u3 x3_1) ∧ Aside0 (Below w.heap.size w w'))
     case atStart => exact ⟨(x4_1), G.tr, H', ⟨Nat.le_refl _⟩, ⟨G.kR HO_3.out⟩, ⟨G.bel⟩⟩
     case round =>
      clear H'
      try clear c1; try clear p2; try clear c4; try clear c4b0; try clear c5; try clear c5b0; try clear c5b1; try clear c6; try clear p6; try clear p2
      obtain ⟨x4_2, rfl, HA, HK2, HO_3, HB⟩ := hrel
      cases gk with
      | zero => exact absurd HA.out (by simp [spec_l9Borders.l1])
      | succ k2 =>
       have H := HA.out
       clear HA
       simp only [spec_l9Borders.l1] at H
       by_cases c8 : x4_2 > 0
       ·rw [if_pos c8] at H
        have c8b0 : decide (0 < x4_2) = true := decide_eq_true c8
        clear c8
        by_cases c9 : 0 ≤ x5_1
        ·rw [if_pos c9] at H
         have c9b0 : decide (0 ≤ x5_1) = true := decide_eq_true c9
         clear c9
         by_cases c10 : x5_1 < (l0.length : Int)
         ·rw [if_pos c10] at H
          have c10b0 : decide (x5_1 < (l0.length : Int)) = true := decide_eq_true c10
          clear c10
          by_cases c11 : 0 ≤ x4_2
          ·rw [if_pos c11] at H
           have c11b0 : decide (0 ≤ x4_2) = true := decide_eq_true c11
           clear c11
           by_cases c12 : x4_2 < (l0.length : Int)
           ·rw [if_pos c12] at H
            have c12b0 : decide (x4_2 < (l0.length : Int)) = true := decide_eq_true c12
            clear c12
            by_cases c13 : (rd l0 x5_1) = (rd l0 x4_2)
            ·rw [if_pos c13] at H
             have c13b0 : ((rd l0 x5_1) == (rd l0 x4_2)) = true := beq_iff_eq.mpr c13
             have c13b1 : ((rd l0 x5_1) != (rd l0 x4_2)) = false := bne_eq_false_iff_eq.mpr c13
             clear c13
             by_cases c14 : x3_1.length < 17592186044416
             ·rw [if_pos c14] at H
              have LMc14 := Aside0.mk c14
              clear c14
              obtain ⟨y767, hy767⟩ : ∃ y_ : List Int, y_ = (x3_1 ++ [wrap64 (x4_2 + 1)]) := ⟨_, rfl⟩
              replace H : (spec_l9Borders.l0 k2 l0 y767 (wrap64 (x4_2 + 1)) (wrap64 (x5_1 + 1))) = some r := by first | (rw [hy767]; with_reducible exact H) | (have H2_ := (Option.bind_some _ _).symm.trans H; rw [hy767]; with_reducible exact H2_) | (have H2_ := (Option.bind_some _ _).symm.trans H; with_reducible exact H2_) | with_reducible exact H | (rw [hy767]; exact H) | exact H
              have Ny767 := Aside0.mk hy767
              clear hy767
              have H' := Aside0.mk H
              clear H
              have p763 : 0 ≤ (x5_1 : Int) := G.odt
              have q763 : x5_1 < (l0.length : Int) := G.odt
              obtain ⟨ad763, e763, hx763_0⟩ := Kd.at_int HR0.out x5_1 p763 q763
              cases e763
              replace hx763_0 := (HB.out.cell (World.block_lt_of_cell? w _ hx763_0)).trans hx763_0
              replace p763 := eq_true p763
              replace q763 := eq_true q763
              have p764 : 0 ≤ (x4_2 : Int) := G.odt
              have q764 : x4_2 < (l0.length : Int) := G.odt
              obtain ⟨ad764, e764, hx764_0⟩ := Kd.at_int HR0.out x4_2 p764 q764
              obtain rfl : ad763 = ad764 := (by injection e764)
              replace hx764_0 := (HB.out.cell (World.block_lt_of_cell? w _ hx764_0)).trans hx764_0
              replace p764 := eq_true p764
              replace q764 := eq_true q764
              have p765 : 0 ≤ (x5_1 : Int) := G.odt
              have q765 : x5_1 < (l0.length : Int) := G.odt
              obtain ⟨ad765, e765, hx765_0⟩ := Kd.at_int HR0.out x5_1 p765 q765
              obtain rfl : ad763 = ad765 := (by injection e765)
              replace hx765_0 := (HB.out.cell (World.block_lt_of_cell? w _ hx765_0)).trans hx765_0
              replace p765 := eq_true p765
              replace q765 := eq_true q765
              have p766 : 0 ≤ (x4_2 : Int) := G.odt
              have q766 : x4_2 < (l0.length : Int) := G.odt
              obtain ⟨ad766, e766, hx766_0⟩ := Kd.at_int HR0.out x4_2 p766 q766
              obtain rfl : ad763 = ad766 := (by injection e766)
              replace hx766_0 := (HB.out.cell (World.block_lt_of_cell? w _ hx766_0)).trans hx766_0
              replace p766 := eq_true p766
              replace q766 := eq_true q766
              go_wp2_with (first | ((with_reducible refine gate_builtin (b := .append) (xs := #[.tmp 47, .tmp 49]) rfl ?_); at_builtin; refine Kd.R_append (Kd.int .i64) (w0 := w) w.heap.size rfl (.tmp 47) (.tmp 49) 22 3 (.int .i64 0) 8 rfl Try.underlying22 info3 rfl (by decide) (by omega) u3 x3_1 (wrap64 (x4_2 + 1)) [.int .i64 (wrap64 (x4_2 + 1))] (fun _ => True) (fun _ => False) rfl rfl ?aP (fun _ hk => hk.elim) ?aF ?aO ?aB ?aS ?aL ?_; (case aP => exact rfl); (case aB => exact G.bel); (case aF => exact (fun _ _ => trivial)); (case aO => exact (G.kR HO_3.out)); (case aS => exact (below_size G.bel)); (case aL => have := LMc14.out; omega); intro v768 w15 ho hb hg hat; rw [← Ny767.out] at ho; have n0_ := Aside0.mk (hb); have n1_ := Aside0.mk (ho); clear HB; clear HO_3; have HB := n0_; have HO769 := n1_; clear n0_ n1_; clear ho hb hg hat))
              repeat (go_quiet (first | ((with_reducible refine gate_builtin (b := .append) (xs := #[.tmp 47, .tmp 49]) rfl ?_); at_builtin; refine Kd.R_append (Kd.int .i64) (w0 := w) w.heap.size rfl (.tmp 47) (.tmp 49) 22 3 (.int .i64 0) 8 rfl Try.underlying22 info3 rfl (by decide) (by omega) u3 x3_1 (wrap64 (x4_2 + 1)) [.int .i64 (wrap64 (x4_2 + 1))] (fun _ => True) (fun _ => False) rfl rfl ?aP (fun _ hk => hk.elim) ?aF ?aO ?aB ?aS ?aL ?_; (case aP => exact rfl); (case aB => exact G.bel); (case aF => exact (fun _ _ => trivial)); (case aO => exact (G.kR HO_3.out)); (case aS => exact (below_size G.bel)); (case aL => have := LMc14.out; omega); intro v768 w15 ho hb hg hat; rw [← Ny767.out] at ho; have n0_ := Aside0.mk (hb); have n1_ := Aside0.mk (ho); clear HB; clear HO_3; have HB := n0_; have HO769 := n1_; clear n0_ n1_; clear ho hb hg hat)); try go_wp2_with (first | ((with_reducible refine gate_builtin (b := .append) (xs := #[.tmp 47, .tmp 49]) rfl ?_); at_builtin; refine Kd.R_append (Kd.int .i64) (w0 := w) w.heap.size rfl (.tmp 47) (.tmp 49) 22 3 (.int .i64 0) 8 rfl Try.underlying22 info3 rfl (by decide) (by omega) u3 x3_1 (wrap64 (x4_2 + 1)) [.int .i64 (wrap64 (x4_2 + 1))] (fun _ => True) (fun _ => False) rfl rfl ?aP (fun _ hk => hk.elim) ?aF ?aO ?aB ?aS ?aL ?_; (case aP => exact rfl); (case aB => exact G.bel); (case aF => exact (fun _ _ => trivial)); (case aO => exact (G.kR HO_3.out)); (case aS => exact (below_size G.bel)); (case aL => have := LMc14.out; omega); intro v768 w15 ho hb hg hat; rw [← Ny767.out] at ho; have n0_ := Aside0.mk (hb); have n1_ := Aside0.mk (ho); clear HB; clear HO_3; have HB := n0_; have HO769 := n1_; clear n0_ n1_; clear ho hb hg hat)))
              go_roundg k2
              case measure => have := HK1.out; have := HK2.out; omega
              case rel => exact ⟨(y767), (wrap64 (x4_2 + 1)), (wrap64 (x5_1 + 1)), G.tr, G.tr, H', ⟨by have := HK1.out; have := HK2.out; omega⟩, ⟨G.kR HO769.out⟩, ⟨G.bel⟩⟩
             ·rw [if_neg c14] at H
              exact absurd H (by simp)
            ·rw [if_neg c13] at H
             have c13b0 : ((rd l0 x5_1) == (rd l0 x4_2)) = false := beq_eq_false_iff_ne.mpr c13
             have c13b1 : ((rd l0 x5_1) != (rd l0 x4_2)) = true := bne_iff_ne.mpr c13
             obtain ⟨ji16, hji16⟩ : ∃ j_ : Int, (wrap64 (x4_2 - 1)) = j_ := ⟨_, rfl⟩
             replace H : (if 0 ≤ (ji16) then (if (ji16) < (x3_1.length : Int) then (spec_l9Borders.l1 k2 l0 x3_1 (rd x3_1 (ji16)) x5_1) else (none)) else (none)) = some r := by first | (rw [hji16] at H; exact H) | (simp only [hji16] at H ⊢; exact H)
             have hji16w : (IntKind.i64.wrap (x4_2 - 1)) = ji16 := (i64_w _).trans hji16
             by_cases c17 : 0 ≤ (ji16)
             ·rw [if_pos c17] at H
              have c17b0 : decide (0 ≤ (ji16)) = true := decide_eq_true c17
              clear c17
              by_cases c18 : (ji16) < (x3_1.length : Int)
              ·rw [if_pos c18] at H
               have c18b0 : decide ((ji16) < (x3_1.length : Int)) = true := decide_eq_true c18
               clear c18
               have H' := Aside0.mk H
               clear H
               have p763 : 0 ≤ (x5_1 : Int) := G.odt
               have q763 : x5_1 < (l0.length : Int) := G.odt
               obtain ⟨ad763, e763, hx763_0⟩ := Kd.at_int HR0.out x5_1 p763 q763
               cases e763
               replace hx763_0 := (HB.out.cell (World.block_lt_of_cell? w _ hx763_0)).trans hx763_0
               replace p763 := eq_true p763
               replace q763 := eq_true q763
               have p764 : 0 ≤ (x4_2 : Int) := G.odt
               have q764 : x4_2 < (l0.length : Int) := G.odt
               obtain ⟨ad764, e764, hx764_0⟩ := Kd.at_int HR0.out x4_2 p764 q764
               obtain rfl : ad763 = ad764 := (by injection e764)
               replace hx764_0 := (HB.out.cell (World.block_lt_of_cell? w _ hx764_0)).trans hx764_0
               replace p764 := eq_true p764
               replace q764 := eq_true q764
               obtain ⟨Ao19, co19, eo19⟩ := Kd.R_slice HO_3.out
               subst eo19
               have p770 : 0 ≤ ((ji16) : Int) := G.odt
               have q770 : (ji16) < (x3_1.length : Int) := G.odt
               obtain ⟨ad770, e770, hx770_0⟩ := Kd.at_int (Kd.R_reads' HO_3.out).2.2 (ji16) p770 q770
               cases e770
               replace p770 := eq_true p770
               replace q770 := eq_true q770
               go_wp2
               repeat (go_quiet (fail); try go_wp2)
               go_roundg k2
               case measure => have := HK1.out; have := HK2.out; omega
               case rel => exact ⟨(rd x3_1 (ji16)), (by first | rfl | (simp; done) | (simp only [← hji16] <;> (first | rfl | simp)) | (simp [*]; done)), H', ⟨by have := HK1.out; have := HK2.out; omega⟩, ⟨G.kR HO_3.out⟩, ⟨G.bel⟩⟩
              ·rw [if_neg c18] at H
               exact absurd H (by simp)
             ·rw [if_neg c17] at H
              exact absurd H (by simp)
           ·rw [if_neg c12] at H
            exact absurd H (by simp)
          ·rw [if_neg c11] at H
           exact absurd H (by simp)
         ·rw [if_neg c10] at H
          exact absurd H (by simp)
        ·rw [if_neg c9] at H
         exact absurd H (by simp)
       ·rw [if_neg c8] at H
        have c8b0 : decide (0 < x4_2) = false := decide_eq_false c8
        clear c8
        by_cases c20 : 0 ≤ x5_1
        ·rw [if_pos c20] at H
         have c20b0 : decide (0 ≤ x5_1) = true := decide_eq_true c20
         clear c20
         by_cases c21 : x5_1 < (l0.length : Int)
         ·rw [if_pos c21] at H
          have c21b0 : decide (x5_1 < (l0.length : Int)) = true := decide_eq_true c21
          clear c21
          by_cases c22 : 0 ≤ x4_2
          ·rw [if_pos c22] at H
           have c22b0 : decide (0 ≤ x4_2) = true := decide_eq_true c22
           clear c22
           by_cases c23 : x4_2 < (l0.length : Int)
           ·rw [if_pos c23] at H
            have c23b0 : decide (x4_2 < (l0.length : Int)) = true := decide_eq_true c23
            clear c23
            by_cases c24 : (rd l0 x5_1) = (rd l0 x4_2)
            ·rw [if_pos c24] at H
             have c24b0 : ((rd l0 x5_1) == (rd l0 x4_2)) = true := beq_iff_eq.mpr c24
             have c24b1 : ((rd l0 x5_1) != (rd l0 x4_2)) = false := bne_eq_false_iff_eq.mpr c24
             clear c24
             by_cases c25 : x3_1.length < 17592186044416
             ·rw [if_pos c25] at H
              have LMc25 := Aside0.mk c25
              clear c25
              obtain ⟨y773, hy773⟩ : ∃ y_ : List Int, y_ = (x3_1 ++ [wrap64 (x4_2 + 1)]) := ⟨_, rfl⟩
              replace H : (spec_l9Borders.l0 k2 l0 y773 (wrap64 (x4_2 + 1)) (wrap64 (x5_1 + 1))) = some r := by first | (rw [hy773]; with_reducible exact H) | (have H2_ := (Option.bind_some _ _).symm.trans H; rw [hy773]; with_reducible exact H2_) | (have H2_ := (Option.bind_some _ _).symm.trans H; with_reducible exact H2_) | with_reducible exact H | (rw [hy773]; exact H) | exact H
              have Ny773 := Aside0.mk hy773
              clear hy773
              have H' := Aside0.mk H
              clear H
              have p771 : 0 ≤ (x5_1 : Int) := G.odt
              have q771 : x5_1 < (l0.length : Int) := G.odt
              obtain ⟨ad771, e771, hx771_0⟩ := Kd.at_int HR0.out x5_1 p771 q771
              cases e771
              replace hx771_0 := (HB.out.cell (World.block_lt_of_cell? w _ hx771_0)).trans hx771_0
              replace p771 := eq_true p771
              replace q771 := eq_true q771
              have p772 : 0 ≤ (x4_2 : Int) := G.odt
              have q772 : x4_2 < (l0.length : Int) := G.odt
              obtain ⟨ad772, e772, hx772_0⟩ := Kd.at_int HR0.out x4_2 p772 q772
              obtain rfl : ad771 = ad772 := (by injection e772)
              replace hx772_0 := (HB.out.cell (World.block_lt_of_cell? w _ hx772_0)).trans hx772_0
              replace p772 := eq_true p772
              replace q772 := eq_true q772
              go_wp2_with (first | ((with_reducible refine gate_builtin (b := .append) (xs := #[.tmp 47, .tmp 49]) rfl ?_); at_builtin; refine Kd.R_append (Kd.int .i64) (w0 := w) w.heap.size rfl (.tmp 47) (.tmp 49) 22 3 (.int .i64 0) 8 rfl Try.underlying22 info3 rfl (by decide) (by omega) u3 x3_1 (wrap64 (x4_2 + 1)) [.int .i64 (wrap64 (x4_2 + 1))] (fun _ => True) (fun _ => False) rfl rfl ?aP (fun _ hk => hk.elim) ?aF ?aO ?aB ?aS ?aL ?_; (case aP => exact rfl); (case aB => exact G.bel); (case aF => exact (fun _ _ => trivial)); (case aO => exact (G.kR HO_3.out)); (case aS => exact (below_size G.bel)); (case aL => have := LMc25.out; omega); intro v774 w26 ho hb hg hat; rw [← Ny773.out] at ho; have n0_ := Aside0.mk (hb); have n1_ := Aside0.mk (ho); clear HB; clear HO_3; have HB := n0_; have HO775 := n1_; clear n0_ n1_; clear ho hb hg hat))
              repeat (go_quiet (first | ((with_reducible refine gate_builtin (b := .append) (xs := #[.tmp 47, .tmp 49]) rfl ?_); at_builtin; refine Kd.R_append (Kd.int .i64) (w0 := w) w.heap.size rfl (.tmp 47) (.tmp 49) 22 3 (.int .i64 0) 8 rfl Try.underlying22 info3 rfl (by decide) (by omega) u3 x3_1 (wrap64 (x4_2 + 1)) [.int .i64 (wrap64 (x4_2 + 1))] (fun _ => True) (fun _ => False) rfl rfl ?aP (fun _ hk => hk.elim) ?aF ?aO ?aB ?aS ?aL ?_; (case aP => exact rfl); (case aB => exact G.bel); (case aF => exact (fun _ _ => trivial)); (case aO => exact (G.kR HO_3.out)); (case aS => exact (below_size G.bel)); (case aL => have := LMc25.out; omega); intro v774 w26 ho hb hg hat; rw [← Ny773.out] at ho; have n0_ := Aside0.mk (hb); have n1_ := Aside0.mk (ho); clear HB; clear HO_3; have HB := n0_; have HO775 := n1_; clear n0_ n1_; clear ho hb hg hat)); try go_wp2_with (first | ((with_reducible refine gate_builtin (b := .append) (xs := #[.tmp 47, .tmp 49]) rfl ?_); at_builtin; refine Kd.R_append (Kd.int .i64) (w0 := w) w.heap.size rfl (.tmp 47) (.tmp 49) 22 3 (.int .i64 0) 8 rfl Try.underlying22 info3 rfl (by decide) (by omega) u3 x3_1 (wrap64 (x4_2 + 1)) [.int .i64 (wrap64 (x4_2 + 1))] (fun _ => True) (fun _ => False) rfl rfl ?aP (fun _ hk => hk.elim) ?aF ?aO ?aB ?aS ?aL ?_; (case aP => exact rfl); (case aB => exact G.bel); (case aF => exact (fun _ _ => trivial)); (case aO => exact (G.kR HO_3.out)); (case aS => exact (below_size G.bel)); (case aL => have := LMc25.out; omega); intro v774 w26 ho hb hg hat; rw [← Ny773.out] at ho; have n0_ := Aside0.mk (hb); have n1_ := Aside0.mk (ho); clear HB; clear HO_3; have HB := n0_; have HO775 := n1_; clear n0_ n1_; clear ho hb hg hat)))
              go_roundg k2
              case measure => have := HK1.out; have := HK2.out; omega
              case rel => exact ⟨(y773), (wrap64 (x4_2 + 1)), (wrap64 (x5_1 + 1)), G.tr, G.tr, H', ⟨by have := HK1.out; have := HK2.out; omega⟩, ⟨G.kR HO775.out⟩, ⟨G.bel⟩⟩
             ·rw [if_neg c25] at H
              exact absurd H (by simp)
            ·rw [if_neg c24] at H
             have c24b0 : ((rd l0 x5_1) == (rd l0 x4_2)) = false := beq_eq_false_iff_ne.mpr c24
             have c24b1 : ((rd l0 x5_1) != (rd l0 x4_2)) = true := bne_iff_ne.mpr c24
             by_cases c27 : x3_1.length < 17592186044416
             ·rw [if_pos c27] at H
              have LMc27 := Aside0.mk c27
              clear c27
              obtain ⟨y776, hy776⟩ : ∃ y_ : List Int, y_ = (x3_1 ++ [x4_2]) := ⟨_, rfl⟩
              replace H : (spec_l9Borders.l0 k2 l0 y776 x4_2 (wrap64 (x5_1 + 1))) = some r := by first | (rw [hy776]; with_reducible exact H) | (have H2_ := (Option.bind_some _ _).symm.trans H; rw [hy776]; with_reducible exact H2_) | (have H2_ := (Option.bind_some _ _).symm.trans H; with_reducible exact H2_) | with_reducible exact H | (rw [hy776]; exact H) | exact H
              have Ny776 := Aside0.mk hy776
              clear hy776
              have H' := Aside0.mk H
              clear H
              have p771 : 0 ≤ (x5_1 : Int) := G.odt
              have q771 : x5_1 < (l0.length : Int) := G.odt
              obtain ⟨ad771, e771, hx771_0⟩ := Kd.at_int HR0.out x5_1 p771 q771
              cases e771
              replace hx771_0 := (HB.out.cell (World.block_lt_of_cell? w _ hx771_0)).trans hx771_0
              replace p771 := eq_true p771
              replace q771 := eq_true q771
              have p772 : 0 ≤ (x4_2 : Int) := G.odt
              have q772 : x4_2 < (l0.length : Int) := G.odt
              obtain ⟨ad772, e772, hx772_0⟩ := Kd.at_int HR0.out x4_2 p772 q772
              obtain rfl : ad771 = ad772 := (by injection e772)
              replace hx772_0 := (HB.out.cell (World.block_lt_of_cell? w _ hx772_0)).trans hx772_0
              replace p772 := eq_true p772
              replace q772 := eq_true q772
              go_wp2_with (first | ((with_reducible refine gate_builtin (b := .append) (xs := #[.tmp 47, .tmp 49]) rfl ?_); at_builtin; refine Kd.R_append (Kd.int .i64) (w0 := w) w.heap.size rfl (.tmp 47) (.tmp 49) 22 3 (.int .i64 0) 8 rfl Try.underlying22 info3 rfl (by decide) (by omega) u3 x3_1 x4_2 [.int .i64 x4_2] (fun _ => True) (fun _ => False) rfl rfl ?aP (fun _ hk => hk.elim) ?aF ?aO ?aB ?aS ?aL ?_; (case aP => exact rfl); (case aB => exact G.bel); (case aF => exact (fun _ _ => trivial)); (case aO => exact (G.kR HO_3.out)); (case aS => exact (below_size G.bel)); (case aL => have := LMc27.out; omega); intro v777 w28 ho hb hg hat; rw [← Ny776.out] at ho; have n0_ := Aside0.mk (hb); have n1_ := Aside0.mk (ho); clear HB; clear HO_3; have HB := n0_; have HO778 := n1_; clear n0_ n1_; clear ho hb hg hat))
              repeat (go_quiet (first | ((with_reducible refine gate_builtin (b := .append) (xs := #[.tmp 47, .tmp 49]) rfl ?_); at_builtin; refine Kd.R_append (Kd.int .i64) (w0 := w) w.heap.size rfl (.tmp 47) (.tmp 49) 22 3 (.int .i64 0) 8 rfl Try.underlying22 info3 rfl (by decide) (by omega) u3 x3_1 x4_2 [.int .i64 x4_2] (fun _ => True) (fun _ => False) rfl rfl ?aP (fun _ hk => hk.elim) ?aF ?aO ?aB ?aS ?aL ?_; (case aP => exact rfl); (case aB => exact G.bel); (case aF => exact (fun _ _ => trivial)); (case aO => exact (G.kR HO_3.out)); (case aS => exact (below_size G.bel)); (case aL => have := LMc27.out; omega); intro v777 w28 ho hb hg hat; rw [← Ny776.out] at ho; have n0_ := Aside0.mk (hb); have n1_ := Aside0.mk (ho); clear HB; clear HO_3; have HB := n0_; have HO778 := n1_; clear n0_ n1_; clear ho hb hg hat)); try go_wp2_with (first | ((with_reducible refine gate_builtin (b := .append) (xs := #[.tmp 47, .tmp 49]) rfl ?_); at_builtin; refine Kd.R_append (Kd.int .i64) (w0 := w) w.heap.size rfl (.tmp 47) (.tmp 49) 22 3 (.int .i64 0) 8 rfl Try.underlying22 info3 rfl (by decide) (by omega) u3 x3_1 x4_2 [.int .i64 x4_2] (fun _ => True) (fun _ => False) rfl rfl ?aP (fun _ hk => hk.elim) ?aF ?aO ?aB ?aS ?aL ?_; (case aP => exact rfl); (case aB => exact G.bel); (case aF => exact (fun _ _ => trivial)); (case aO => exact (G.kR HO_3.out)); (case aS => exact (below_size G.bel)); (case aL => have := LMc27.out; omega); intro v777 w28 ho hb hg hat; rw [← Ny776.out] at ho; have n0_ := Aside0.mk (hb); have n1_ := Aside0.mk (ho); clear HB; clear HO_3; have HB := n0_; have HO778 := n1_; clear n0_ n1_; clear ho hb hg hat)))
              go_roundg k2
              case measure => have := HK1.out; have := HK2.out; omega
              case rel => exact ⟨(y776), (x4_2), (wrap64 (x5_1 + 1)), G.tr, G.tr, H', ⟨by have := HK1.out; have := HK2.out; omega⟩, ⟨G.kR HO778.out⟩, ⟨G.bel⟩⟩
             ·rw [if_neg c27] at H
              exact absurd H (by simp)
           ·rw [if_neg c23] at H
            exact absurd H (by simp)
          ·rw [if_neg c22] at H
           exact absurd H (by simp)
         ·rw [if_neg c21] at H
          exact absurd H (by simp)
        ·rw [if_neg c20] at H
         exact absurd H (by simp)
   ·rw [if_neg c4] at H
    have c4b0 : decide (x5_1 < (l0.length : Int)) = false := decide_eq_false c4
    clear c4
    obtain rfl := Option.some.inj H
    go_wp2
    repeat (go_quiet (fail); try go_wp2)
    go_ret
    exact ⟨_, G.er, G.kR HO_3.out, G.bel⟩

/-! ### spec_BordersOf: function 166 -/
def spec_BordersOf.l0 : Nat → List Int → List Int → Int → Option (List Int)
 | 0, _, _, _ => none
 | k + 1, x3, x4, x5 => if x5 > 0 then (if 0 ≤ (wrap64 (x5 - 1)) then (if (wrap64 (x5 - 1)) < (x4.length : Int) then ((some (([rd x4 (wrap64 (x5 - 1))] : List Int) : List Int)).bind fun y786 => (if y786.length + x3.length < 17592186044416 then (spec_BordersOf.l0 k (y786 ++ x3) x4 (rd x4 (wrap64 (x5 - 1)))) else (none))) else (none)) else (none)) else (some x3)
def spec_BordersOf.f (k : Nat) (l0 : List Int) : Option (List Int) := (spec_l9Borders.f k l0).bind fun t782 => (spec_BordersOf.l0 k (([] : List Int)) t782 (l0.length : Int))
set_option maxHeartbeats 8000000 in
set_option maxRecDepth 100000 in
theorem spec_BordersOf.calls (k : Nat) (A0 : Option Addr) (c0 : Nat) (l0 : List Int) (r : List Int) (w : World) (hr0 : Kd.C (Kd.int .i64) w A0 l0.length l0) (hc0 : l0.length ≤ c0) (h : spec_BordersOf.f k l0 = some r) :
  Calls Try.prog 166 #[.slice A0 l0.length c0] w fun e w' => ∃ v0_ : Value, e = .returned (v0_) ∧ Kd.R (Kd.int .i64) 3 w' w.heap.size (fun _ => True) v0_ r ∧ Below w.heap.size w w' := by
 have HR0 := Aside0.mk hr0
 have HC0 := Aside0.mk hc0
 clear hr0 hc0
 have HB := Aside0.mk (Below.refl w.heap.size w)
 have H : ((spec_l9Borders.f k l0).bind fun t782 => (spec_BordersOf.l0 k (([] : List Int)) t782 (l0.length : Int))) = some r := h
 clear h
 obtain ⟨y779, hy779⟩ : ∃ y_ : List Int, y_ = (([] : List Int)) := ⟨_, rfl⟩
 replace H : ((spec_l9Borders.f k l0).bind fun t782 => (spec_BordersOf.l0 k y779 t782 (l0.length : Int))) = some r := by first | (rw [hy779]; with_reducible exact H) | (have H2_ := (Option.bind_some _ _).symm.trans H; rw [hy779]; with_reducible exact H2_) | (have H2_ := (Option.bind_some _ _).symm.trans H; with_reducible exact H2_) | with_reducible exact H | (rw [hy779]; exact H) | exact H
 have Ny779 := Aside0.mk hy779
 clear hy779
 obtain ⟨t782, A2, H⟩ := G.bx H
 have H' := Aside0.mk H
 clear H
 go_enter Try.func166, Try.ntmps166
 go_wp2_with (first | ((with_reducible refine gate_dst (N := 6) rfl ?_); refine Kd.R_lit (Kd.int .i64) _ 3 ?hg (N := 6) ?hd (xs := ([] : List Int)) (inner := []) (ok := fun _ => True) (okp := fun _ => True) ?hr ?hp (fun _ hk => hk) trivial (Below.refl _ _) (Nat.le_refl _) (by simp) ?_; (case hd => rfl); (case hg => rfl); (case hr => first | (go_simp; done) | (go_simp; rfl)); (case hp => exact (Reps.none _ _)); intro v780 w3 ho4 hb hg_ hnew_; clear hg_ hnew_; (first | rw [← Ny779.out] at ho4 | (simp only [Int.reduceToNat] at ho4; rw [← Ny779.out] at ho4)); have n0_ := Aside0.mk (Kd.R_lower ho4 (below_size G.bel)); have n1_ := Aside0.mk (below_step G.bel hb); clear HB; have HO781 := n0_; have HB := n1_; clear n0_ n1_; clear hb ho4) | ((with_reducible refine gate_callee (f := 191) rfl ?_); refine goesL_ (some 8) rfl rfl Try.func191 (by kernel_rfl) rfl #[.slice A0 l0.length c0] rfl G.ar ?_; (with_reducible refine (spec_l9Borders.calls k _ _ l0 t782 _ ?side1 ?side2 A2.out).mono ?_); (case side1 => exact G.kC (Kd.C_below HR0.out HB.out)); (case side2 => exact HC0.out); rintro e w5 ⟨v783, rfl, ho0, hb⟩; refine ⟨_, rfl, ?_⟩; have n0_ := Aside0.mk (Kd.R_elder' (G.kR HO781.out) (Kd.R_base ho0) hb); have n1_ := Aside0.mk (Kd.R_lower (Kd.R_new' ho0 (Kd.R_lt (G.kR HO781.out))) (below_size G.bel)); have n2_ := Aside0.mk (below_step G.bel hb); clear HO781; clear HB; have HO781 := n0_; have HO784 := n1_; have HB := n2_; clear n0_ n1_ n2_; (try clear hb); (try clear hb2); (try clear hk); (try clear hi); (try clear ho0)))
 go_loopg [3, 5] k (fun kq v3 v5 w' => ∃ (x3_1 : List Int) (x5_1 : Int), v5 = .int .i64 x5_1 ∧ Aside0 (spec_BordersOf.l0 kq x3_1 t782 x5_1 = some r) ∧ Aside0 (kq ≤ k) ∧ Aside0 (Kd.R (Kd.int .i64) 3 w' w.heap.size (fun k_ => some k_ ≠ (v783 : Value).ownBlock) v3 x3_1) ∧ Aside0 (Kd.R (Kd.int .i64) 3 w' w.heap.size (fun k_ => some k_ ≠ (v3 : Value).ownBlock) v783 t782) ∧ Aside0 (Below w.heap.size w w'))
 case atStart => exact ⟨(y779), ((l0.length : Int)), G.tr, H', ⟨Nat.le_refl _⟩, ⟨by (with_reducible repeat (first | apply Kd.R_alloc | apply Kd.R_drewN | apply Kd.R_drew)); exact Kd.R_mono HO781.out (fun _ hk => hk.2)⟩, ⟨by (with_reducible repeat (first | apply Kd.R_alloc | apply Kd.R_drewN | apply Kd.R_drew)); exact Kd.R_mono HO784.out (fun _ hk => hk.2)⟩, ⟨G.bel⟩⟩
 case round =>
  clear H'
  try clear c1; try clear p2
  obtain ⟨x3_1, x5_1, rfl, HA, HK1, HO_3, HO_4, HB⟩ := hrel
  cases gk with
  | zero => exact absurd HA.out (by simp [spec_BordersOf.l0])
  | succ k1 =>
   have H := HA.out
   clear HA
   simp only [spec_BordersOf.l0] at H
   by_cases c6 : x5_1 > 0
   ·rw [if_pos c6] at H
    have c6b0 : decide (0 < x5_1) = true := decide_eq_true c6
    clear c6
    obtain ⟨ji7, hji7⟩ : ∃ j_ : Int, (wrap64 (x5_1 - 1)) = j_ := ⟨_, rfl⟩
    replace H : (if 0 ≤ (ji7) then (if (ji7) < (t782.length : Int) then ((some (([rd t782 (ji7)] : List Int) : List Int)).bind fun y786 => (if y786.length + x3_1.length < 17592186044416 then (spec_BordersOf.l0 k1 (y786 ++ x3_1) t782 (rd t782 (ji7))) else (none))) else (none)) else (none)) = some r := by first | (rw [hji7] at H; exact H) | (simp only [hji7] at H ⊢; exact H)
    have hji7w : (IntKind.i64.wrap (x5_1 - 1)) = ji7 := (i64_w _).trans hji7
    by_cases c8 : 0 ≤ (ji7)
    ·rw [if_pos c8] at H
     have c8b0 : decide (0 ≤ (ji7)) = true := decide_eq_true c8
     clear c8
     by_cases c9 : (ji7) < (t782.length : Int)
     ·rw [if_pos c9] at H
      have c9b0 : decide ((ji7) < (t782.length : Int)) = true := decide_eq_true c9
      clear c9
      obtain ⟨y786, hy786⟩ : ∃ y_ : List Int, y_ = (([rd t782 (ji7)] : List Int)) := ⟨_, rfl⟩
      replace H : (if y786.length + x3_1.length < 17592186044416 then (spec_BordersOf.l0 k1 (y786 ++ x3_1) t782 (rd t782 (ji7))) else (none)) = some r := by first | (rw [hy786]; with_reducible exact H) | (have H2_ := (Option.bind_some _ _).symm.trans H; rw [hy786]; with_reducible exact H2_) | (have H2_ := (Option.bind_some _ _).symm.trans H; with_reducible exact H2_) | with_reducible exact H | (rw [hy786]; exact H) | exact H
      have Ny786 := Aside0.mk hy786
      clear hy786
      by_cases c10 : y786.length + x3_1.length < 17592186044416
      ·rw [if_pos c10] at H
       have LMc10 := Aside0.mk c10
       clear c10
       obtain ⟨y789, hy789⟩ : ∃ y_ : List Int, y_ = (y786 ++ x3_1) := ⟨_, rfl⟩
       replace H : (spec_BordersOf.l0 k1 y789 t782 (rd t782 (ji7))) = some r := by first | (rw [hy789]; with_reducible exact H) | (have H2_ := (Option.bind_some _ _).symm.trans H; rw [hy789]; with_reducible exact H2_) | (have H2_ := (Option.bind_some _ _).symm.trans H; with_reducible exact H2_) | with_reducible exact H | (rw [hy789]; exact H) | exact H
       have Ny789 := Aside0.mk hy789
       clear hy789
       have H' := Aside0.mk H
       clear H
       obtain ⟨Ao11, co11, eo11⟩ := Kd.R_slice HO_4.out
       subst eo11
       have p785 : 0 ≤ ((ji7) : Int) := G.odt
       have q785 : (ji7) < (t782.length : Int) := G.odt
       obtain ⟨ad785, e785, hx785_0⟩ := Kd.at_int (Kd.R_reads' HO_4.out).2.2 (ji7) p785 q785
       cases e785
       replace p785 := eq_true p785
       replace q785 := eq_true q785
       go_wp2_with (first | ((with_reducible refine gate_dst (N := 19) rfl ?_); refine Kd.R_lit (Kd.int .i64) _ 3 ?hg (N := 19) ?hd (xs := ([rd t782 (ji7)] : List Int)) (inner := [.int .i64 (rd t782 (ji7))]) (ok := fun _ => True) (okp := fun _ => True) ?hr ?hp (fun _ hk => hk) trivial (Below.refl _ _) (Nat.le_refl _) (by simp) ?_; (case hd => rfl); (case hg => rfl); (case hr => first | (go_simp; done) | (go_simp; rfl)); (case hp => exact (Reps.one (show Kd.M (Kd.int .i64) _ _ _ (rd t782 (ji7)) [.int .i64 (rd t782 (ji7))] from rfl) (Reps.none _ _))); intro v787 w12 ho13 hb hg_ hnew_; clear hg_ hnew_; (first | rw [← Ny786.out] at ho13 | (simp only [Int.reduceToNat] at ho13; rw [← Ny786.out] at ho13)); have n0_ := Aside0.mk (Kd.R_elder' (G.kR HO_3.out) (Kd.R_base ho13) hb); have n1_ := Aside0.mk (Kd.R_elder' (G.kR HO_4.out) (Kd.R_base ho13) hb); have n2_ := Aside0.mk (Kd.R_lower (Kd.R_new' (Kd.R_new' ho13 (Kd.R_lt (G.kR HO_3.out))) (Kd.R_lt (G.kR HO_4.out))) (below_size G.bel)); have n3_ := Aside0.mk (below_step G.bel hb); clear HO_3; clear HO_4; clear HB; have HO_3 := n0_; have HO_4 := n1_; have HO788 := n2_; have HB := n3_; clear n0_ n1_ n2_ n3_; clear hb ho13; obtain ⟨Ao15, co15, eo15⟩ := Kd.R_slice HO_3.out; subst eo15) | ((with_reducible refine gate_builtin (b := .append) (xs := #[.tmp 19, .tmp 20]) rfl ?_); at_builtin; refine Kd.R_append_rows (Kd.int .i64) (w0 := w) w.heap.size rfl (.tmp 19) (.tmp 20) 22 3 (.int .i64 0) 8 rfl Try.underlying22 info3 rfl (by decide) (by omega) v787 y786 x3_1 _ _ _ (fun k_ => some k_ ≠ (.slice Ao15 x3_1.length co15 : Value).ownBlock ∧ some k_ ≠ (.slice (some ad785) t782.length co11 : Value).ownBlock) (fun _ => False) rfl rfl ?aO ?aR (fun _ _ h => h) (fun _ h => h.elim) ?aF ?aB ?aS ?aL ?_; (case aR => repeat (first | exact (Kd.R_reads' HO_3.out).2.2 | (with_reducible refine Kd.C_alloc ?_ _) | (with_reducible refine Kd.C_drewN ?_ _) | (with_reducible refine Kd.C_drew ?_))); (case aB => exact G.bel); (case aF => exact (fun k_ hk => ⟨Kd.fresh' (Kd.R_lt (G.kR HO_3.out)) k_ hk, Kd.fresh' (Kd.R_lt (G.kR HO_4.out)) k_ hk⟩)); (case aO => exact (by (with_reducible repeat (first | apply Kd.R_alloc | apply Kd.R_drewN | apply Kd.R_drew)); exact Kd.R_mono HO788.out (fun _ hk => ⟨hk.1.2, hk.2⟩))); (case aS => exact (below_size G.bel)); (case aL => have := LMc10.out; omega); intro v790 w14 ho hb hg hat; rw [← Ny789.out] at ho; have n0_ := Aside0.mk (Kd.R_after (ok := (fun k_ => some k_ ≠ (.slice (some ad785) t782.length co11 : Value).ownBlock)) (G.kR HO_3.out) hg hat); have n1_ := Aside0.mk (Kd.R_after (ok := (fun k_ => some k_ ≠ (.slice Ao15 x3_1.length co15 : Value).ownBlock)) (G.kR HO_4.out) hg hat); have n2_ := Aside0.mk (hb); have n3_ := Aside0.mk (ho); clear HO_3; clear HO_4; clear HB; clear HO788; have HO_3 := n0_; have HO_4 := n1_; have HB := n2_; have HO791 := n3_; clear n0_ n1_ n2_ n3_; clear ho hb hg hat))
       go_roundg k1
       case measure => have := HK1.out; omega
       case rel => exact ⟨(y789), (rd t782 (ji7)), (by first | rfl | (simp; done) | (simp only [← hji7] <;> (first | rfl | simp)) | (simp [*]; done)), H', ⟨by have := HK1.out; omega⟩, ⟨by (with_reducible repeat (first | apply Kd.R_alloc | apply Kd.R_drewN | apply Kd.R_drew)); exact Kd.R_mono HO791.out (fun _ hk => hk.2)⟩, ⟨by (with_reducible repeat (first | apply Kd.R_alloc | apply Kd.R_drewN | apply Kd.R_drew)); exact Kd.R_mono HO_4.out (fun _ hk => hk.2)⟩, ⟨G.bel⟩⟩
      ·rw [if_neg c10] at H
       exact absurd H (by simp)
     ·rw [if_neg c9] at H
      exact absurd H (by simp)
    ·rw [if_neg c8] at H
     exact absurd H (by simp)
   ·rw [if_neg c6] at H
    have c6b0 : decide (0 < x5_1) = false := decide_eq_false c6
    clear c6
    obtain rfl := Option.some.inj H
    go_wp2
    go_ret
    exact ⟨_, G.er, by (with_reducible repeat (first | apply Kd.R_alloc | apply Kd.R_drewN | apply Kd.R_drew)); exact Kd.R_mono HO_3.out (fun _ hk => trivial), G.bel⟩

/-! ### spec_PeriodsOf: function 153 -/
def spec_PeriodsOf.l0 : Nat → List Int → List Int → List Int → Int → Option (List Int)
 | 0, _, _, _, _ => none
 | k + 1, x0, x3, x4, x5 => if x5 ≥ 0 then (if 0 ≤ x5 then (if x5 < (x4.length : Int) then (if x3.length < 17592186044416 then (spec_PeriodsOf.l0 k x0 (x3 ++ [wrap64 ((x0.length : Int) - (rd x4 x5))]) x4 (wrap64 (x5 - 1))) else (none)) else (none)) else (none)) else (some x3)
def spec_PeriodsOf.f (k : Nat) (l0 : List Int) : Option (List Int) := (spec_BordersOf.f k l0).bind fun t795 => (spec_PeriodsOf.l0 k l0 (([] : List Int)) t795 (wrap64 ((t795.length : Int) - 1)))
set_option maxHeartbeats 8000000 in
set_option maxRecDepth 100000 in
theorem spec_PeriodsOf.calls (k : Nat) (A0 : Option Addr) (c0 : Nat) (l0 : List Int) (r : List Int) (w : World) (hr0 : Kd.C (Kd.int .i64) w A0 l0.length l0) (hc0 : l0.length ≤ c0) (h : spec_PeriodsOf.f k l0 = some r) :
  Calls Try.prog 153 #[.slice A0 l0.length c0] w fun e w' => ∃ v0_ : Value, e = .returned (v0_) ∧ Kd.R (Kd.int .i64) 3 w' w.heap.size (fun _ => True) v0_ r ∧ Below w.heap.size w w' := by
 have HR0 := Aside0.mk hr0
 have HC0 := Aside0.mk hc0
 clear hr0 hc0
 have HB := Aside0.mk (Below.refl w.heap.size w)
 have H : ((spec_BordersOf.f k l0).bind fun t795 => (spec_PeriodsOf.l0 k l0 (([] : List Int)) t795 (wrap64 ((t795.length : Int) - 1)))) = some r := h
 clear h
 obtain ⟨y792, hy792⟩ : ∃ y_ : List Int, y_ = (([] : List Int)) := ⟨_, rfl⟩
 replace H : ((spec_BordersOf.f k l0).bind fun t795 => (spec_PeriodsOf.l0 k l0 y792 t795 (wrap64 ((t795.length : Int) - 1)))) = some r := by first | (rw [hy792]; with_reducible exact H) | (have H2_ := (Option.bind_some _ _).symm.trans H; rw [hy792]; with_reducible exact H2_) | (have H2_ := (Option.bind_some _ _).symm.trans H; with_reducible exact H2_) | with_reducible exact H | (rw [hy792]; exact H) | exact H
 have Ny792 := Aside0.mk hy792
 clear hy792
 obtain ⟨t795, A2, H⟩ := G.bx H
 have H' := Aside0.mk H
 clear H
 go_enter Try.func153, Try.ntmps153
 go_wp2_with (first | ((with_reducible refine gate_dst (N := 6) rfl ?_); refine Kd.R_lit (Kd.int .i64) _ 3 ?hg (N := 6) ?hd (xs := ([] : List Int)) (inner := []) (ok := fun _ => True) (okp := fun _ => True) ?hr ?hp (fun _ hk => hk) trivial (Below.refl _ _) (Nat.le_refl _) (by simp) ?_; (case hd => rfl); (case hg => rfl); (case hr => first | (go_simp; done) | (go_simp; rfl)); (case hp => exact (Reps.none _ _)); intro v793 w3 ho4 hb hg_ hnew_; clear hg_ hnew_; (first | rw [← Ny792.out] at ho4 | (simp only [Int.reduceToNat] at ho4; rw [← Ny792.out] at ho4)); have n0_ := Aside0.mk (Kd.R_lower ho4 (below_size G.bel)); have n1_ := Aside0.mk (below_step G.bel hb); clear HB; have HO794 := n0_; have HB := n1_; clear n0_ n1_; clear hb ho4) | ((with_reducible refine gate_callee (f := 166) rfl ?_); refine goesL_ (some 8) rfl rfl Try.func166 (by kernel_rfl) rfl #[.slice A0 l0.length c0] rfl G.ar ?_; (with_reducible refine (spec_BordersOf.calls k _ _ l0 t795 _ ?side1 ?side2 A2.out).mono ?_); (case side1 => exact G.kC (Kd.C_below HR0.out HB.out)); (case side2 => exact HC0.out); rintro e w5 ⟨v796, rfl, ho0, hb⟩; refine ⟨_, rfl, ?_⟩; have n0_ := Aside0.mk (Kd.R_elder' (G.kR HO794.out) (Kd.R_base ho0) hb); have n1_ := Aside0.mk (Kd.R_lower (Kd.R_new' ho0 (Kd.R_lt (G.kR HO794.out))) (below_size G.bel)); have n2_ := Aside0.mk (below_step G.bel hb); clear HO794; clear HB; have HO794 := n0_; have HO797 := n1_; have HB := n2_; clear n0_ n1_ n2_; (try clear hb); (try clear hb2); (try clear hk); (try clear hi); (try clear ho0); obtain ⟨Ao6, co6, eo6⟩ := Kd.R_slice HO797.out; subst eo6))
 go_loopg [3, 5] k (fun kq v3 v5 w' => ∃ (x3_1 : List Int) (x5_1 : Int), v5 = .int .i64 x5_1 ∧ Aside0 (spec_PeriodsOf.l0 kq l0 x3_1 t795 x5_1 = some r) ∧ Aside0 (kq ≤ k) ∧ Aside0 (Kd.R (Kd.int .i64) 3 w' w.heap.size (fun k_ => some k_ ≠ ((.slice Ao6 t795.length co6) : Value).ownBlock) v3 x3_1) ∧ Aside0 (Kd.R (Kd.int .i64) 3 w' w.heap.size (fun k_ => some k_ ≠ (v3 : Value).ownBlock) (.slice Ao6 t795.length co6) t795) ∧ Aside0 (Below w.heap.size w w'))
 case atStart => exact ⟨(y792), (wrap64 ((t795.length : Int) - 1)), G.tr, H', ⟨Nat.le_refl _⟩, ⟨by (with_reducible repeat (first | apply Kd.R_alloc | apply Kd.R_drewN | apply Kd.R_drew)); exact Kd.R_mono HO794.out (fun _ hk => hk.2)⟩, ⟨by (with_reducible repeat (first | apply Kd.R_alloc | apply Kd.R_drewN | apply Kd.R_drew)); exact Kd.R_mono HO797.out (fun _ hk => hk.2)⟩, ⟨G.bel⟩⟩
 case round =>
  clear H'
  try clear c1; try clear p2; try clear p6
  obtain ⟨x3_1, x5_1, rfl, HA, HK1, HO_3, HO_4, HB⟩ := hrel
  cases gk with
  | zero => exact absurd HA.out (by simp [spec_PeriodsOf.l0])
  | succ k1 =>
   have H := HA.out
   clear HA
   simp only [spec_PeriodsOf.l0] at H
   by_cases c7 : x5_1 ≥ 0
   ·rw [if_pos c7] at H
    have c7b0 : decide (0 ≤ x5_1) = true := decide_eq_true c7
    clear c7
    by_cases c8 : 0 ≤ x5_1
    ·rw [if_pos c8] at H
     have c8b0 : decide (0 ≤ x5_1) = true := decide_eq_true c8
     clear c8
     by_cases c9 : x5_1 < (t795.length : Int)
     ·rw [if_pos c9] at H
      have c9b0 : decide (x5_1 < (t795.length : Int)) = true := decide_eq_true c9
      clear c9
      by_cases c10 : x3_1.length < 17592186044416
      ·rw [if_pos c10] at H
       have LMc10 := Aside0.mk c10
       clear c10
       obtain ⟨y799, hy799⟩ : ∃ y_ : List Int, y_ = (x3_1 ++ [wrap64 ((l0.length : Int) - (rd t795 x5_1))]) := ⟨_, rfl⟩
       replace H : (spec_PeriodsOf.l0 k1 l0 y799 t795 (wrap64 (x5_1 - 1))) = some r := by first | (rw [hy799]; with_reducible exact H) | (have H2_ := (Option.bind_some _ _).symm.trans H; rw [hy799]; with_reducible exact H2_) | (have H2_ := (Option.bind_some _ _).symm.trans H; with_reducible exact H2_) | with_reducible exact H | (rw [hy799]; exact H) | exact H
       have Ny799 := Aside0.mk hy799
       clear hy799
       have H' := Aside0.mk H
       clear H
       have p798 : 0 ≤ (x5_1 : Int) := G.odt
       have q798 : x5_1 < (t795.length : Int) := G.odt
       obtain ⟨ad798, e798, hx798_0⟩ := Kd.at_int (Kd.R_reads' HO_4.out).2.2 x5_1 p798 q798
       cases e798
       replace p798 := eq_true p798
       replace q798 := eq_true q798
       go_wp2_with (first | ((with_reducible refine gate_builtin (b := .append) (xs := #[.tmp 16, .tmp 24]) rfl ?_); at_builtin; refine Kd.R_append (Kd.int .i64) (w0 := w) w.heap.size rfl (.tmp 16) (.tmp 24) 22 3 (.int .i64 0) 8 rfl Try.underlying22 info3 rfl (by decide) (by omega) u3 x3_1 (wrap64 ((l0.length : Int) - (rd t795 x5_1))) [.int .i64 (wrap64 ((l0.length : Int) - (rd t795 x5_1)))] (fun k_ => some k_ ≠ (.slice (some ad798) t795.length co6 : Value).ownBlock) (fun _ => False) rfl rfl ?aP (fun _ hk => hk.elim) ?aF ?aO ?aB ?aS ?aL ?_; (case aP => exact rfl); (case aB => exact G.bel); (case aF => exact (fun k_ hk => Kd.fresh' (Kd.R_lt (G.kR HO_4.out)) k_ hk)); (case aO => exact (G.kR HO_3.out)); (case aS => exact (below_size G.bel)); (case aL => have := LMc10.out; omega); intro v800 w11 ho hb hg hat; rw [← Ny799.out] at ho; have n0_ := Aside0.mk (Kd.R_after (ok := (fun _ => True)) (by (with_reducible repeat (first | apply Kd.R_alloc | apply Kd.R_drewN | apply Kd.R_drew)); exact Kd.R_mono HO_4.out (fun _ hk => ⟨trivial, hk⟩)) hg hat); have n1_ := Aside0.mk (hb); have n2_ := Aside0.mk (ho); clear HO_4; clear HB; clear HO_3; have HO_4 := n0_; have HB := n1_; have HO801 := n2_; clear n0_ n1_ n2_; clear ho hb hg hat))
       go_roundg k1
       case measure => have := HK1.out; omega
       case rel => exact ⟨(y799), (wrap64 (x5_1 - 1)), G.tr, H', ⟨by have := HK1.out; omega⟩, ⟨G.kR HO801.out⟩, ⟨by (with_reducible repeat (first | apply Kd.R_alloc | apply Kd.R_drewN | apply Kd.R_drew)); exact Kd.R_mono HO_4.out (fun _ hk => hk.2)⟩, ⟨G.bel⟩⟩
      ·rw [if_neg c10] at H
       exact absurd H (by simp)
     ·rw [if_neg c9] at H
      exact absurd H (by simp)
    ·rw [if_neg c8] at H
     exact absurd H (by simp)
   ·rw [if_neg c7] at H
    have c7b0 : decide (0 ≤ x5_1) = false := decide_eq_false c7
    clear c7
    obtain rfl := Option.some.inj H
    go_wp2
    go_ret
    exact ⟨_, G.er, by (with_reducible repeat (first | apply Kd.R_alloc | apply Kd.R_drewN | apply Kd.R_drew)); exact Kd.R_mono HO_3.out (fun _ hk => trivial), G.bel⟩

/-! ### spec_LeastPeriod: function 103 -/
def spec_LeastPeriod.f (k : Nat) (l0 : List Int) : Option (Int) := (spec_PeriodsOf.f k l0).bind fun t802 => (if (t802.length : Int) = 0 then (some 0) else (if 0 < (t802.length : Int) then (some (rd t802 0)) else (none)))
set_option maxHeartbeats 8000000 in
set_option maxRecDepth 100000 in
theorem spec_LeastPeriod.calls (k : Nat) (A0 : Option Addr) (c0 : Nat) (l0 : List Int) (r : Int) (w : World) (hr0 : Kd.C (Kd.int .i64) w A0 l0.length l0) (hc0 : l0.length ≤ c0) (h : spec_LeastPeriod.f k l0 = some r) :
  Calls Try.prog 103 #[.slice A0 l0.length c0] w fun e w' => e = .returned (.int .i64 r) ∧ Below w.heap.size w w' := by
 have HR0 := Aside0.mk hr0
 have HC0 := Aside0.mk hc0
 clear hr0 hc0
 have HB := Aside0.mk (Below.refl w.heap.size w)
 have H : ((spec_PeriodsOf.f k l0).bind fun t802 => (if (t802.length : Int) = 0 then (some 0) else (if 0 < (t802.length : Int) then (some (rd t802 0)) else (none)))) = some r := h
 clear h
 obtain ⟨t802, A2, H⟩ := G.bx H
 by_cases c3 : (t802.length : Int) = 0
 ·rw [if_pos c3] at H
  have c3b0 : ((t802.length : Int) == 0) = true := beq_iff_eq.mpr c3
  have c3b1 : ((t802.length : Int) != 0) = false := bne_eq_false_iff_eq.mpr c3
  clear c3
  obtain rfl := Option.some.inj H
  go_enter Try.func103, Try.ntmps103
  go_wp2_with (first | ((with_reducible refine gate_callee (f := 153) rfl ?_); refine goesL_ (some 5) rfl rfl Try.func153 (by kernel_rfl) rfl #[.slice A0 l0.length c0] rfl G.ar ?_; (with_reducible refine (spec_PeriodsOf.calls k _ _ l0 t802 _ ?side1 ?side2 A2.out).mono ?_); (case side1 => exact G.kC HR0.out); (case side2 => exact HC0.out); rintro e w4 ⟨v803, rfl, ho0, hb⟩; refine ⟨_, rfl, ?_⟩; have n0_ := Aside0.mk (Kd.R_lower ho0 (below_size G.bel)); have n1_ := Aside0.mk (below_step G.bel hb); clear HB; have HO804 := n0_; have HB := n1_; clear n0_ n1_; (try clear hb); (try clear hb2); (try clear hk); (try clear hi); (try clear ho0); obtain ⟨Ao5, co5, eo5⟩ := Kd.R_slice HO804.out; subst eo5))
  go_ret
  exact ⟨G.er, G.bel⟩
 ·rw [if_neg c3] at H
  have c3b0 : ((t802.length : Int) == 0) = false := beq_eq_false_iff_ne.mpr c3
  have c3b1 : ((t802.length : Int) != 0) = true := bne_iff_ne.mpr c3
  have c3b2 : ¬ (t802 = []) := fun h_ => c3 (by rw [h_]; rfl)
  by_cases c6 : 0 < (t802.length : Int)
  ·rw [if_pos c6] at H
   have c6b0 : decide (0 < (t802.length : Int)) = true := decide_eq_true c6
   have c6b1 : decide (0 < t802.length) = true := decide_eq_true (by omega)
   clear c6
   obtain rfl := Option.some.inj H
   go_enter Try.func103, Try.ntmps103
   go_wp2_with (first | ((with_reducible refine gate_callee (f := 153) rfl ?_); refine goesL_ (some 5) rfl rfl Try.func153 (by kernel_rfl) rfl #[.slice A0 l0.length c0] rfl G.ar ?_; (with_reducible refine (spec_PeriodsOf.calls k _ _ l0 t802 _ ?side1 ?side2 A2.out).mono ?_); (case side1 => exact G.kC HR0.out); (case side2 => exact HC0.out); rintro e w7 ⟨v803, rfl, ho0, hb⟩; refine ⟨_, rfl, ?_⟩; have n0_ := Aside0.mk (Kd.R_lower ho0 (below_size G.bel)); have n1_ := Aside0.mk (below_step G.bel hb); clear HB; have HO804 := n0_; have HB := n1_; clear n0_ n1_; (try clear hb); (try clear hb2); (try clear hk); (try clear hi); (try clear ho0); obtain ⟨Ao8, co8, eo8⟩ := Kd.R_slice HO804.out; subst eo8; have p805 : 0 ≤ (0 : Int) := (by omega); have q805 : 0 < (t802.length : Int) := G.odt; obtain ⟨ad805, e805, hx805_0⟩ := Kd.at_int (Kd.R_reads' HO804.out).2.2 0 p805 q805; cases e805; have qi805 : (0 < t802.length) = True := eq_true (by omega); (try rw [show ((0 : Int)).toNat = 0 from rfl] at hx805_0); (try rw [Addr.add_zero'] at hx805_0); replace p805 := eq_true p805; replace q805 := eq_true q805))
   go_ret
   exact ⟨G.er, G.bel⟩
  ·rw [if_neg c6] at H
   exact absurd H (by simp)

/-! ### spec_RootOf: function 152 -/
def spec_RootOf.f (k : Nat) (l0 : List Int) : Option (List Int) := (spec_LeastPeriod.f k l0).bind fun t806 => (if (l0.length : Int) = 0 then ((some (([] : List Int) : List Int)).bind fun y807 => (if y807.length + l0.length < 17592186044416 then (some (y807 ++ l0)) else (none))) else (if t806 = 0 then (none) else (if ((l0.length : Int) % t806) = 0 then ((some (([] : List Int) : List Int)).bind fun y813 => (if 0 ≤ t806 then (if t806 ≤ (l0.length : Int) then (if y813.length + (l0.take (t806 : Int).toNat).length < 17592186044416 then (some (y813 ++ (l0.take (t806 : Int).toNat))) else (none)) else (none)) else (none))) else ((some (([] : List Int) : List Int)).bind fun y820 => (if y820.length + l0.length < 17592186044416 then (some (y820 ++ l0)) else (none))))))
set_option maxHeartbeats 8000000 in
set_option maxRecDepth 100000 in
theorem spec_RootOf.calls (k : Nat) (A0 : Option Addr) (c0 : Nat) (l0 : List Int) (r : List Int) (w : World) (hr0 : Kd.C (Kd.int .i64) w A0 l0.length l0) (hc0 : l0.length ≤ c0) (h : spec_RootOf.f k l0 = some r) :
  Calls Try.prog 152 #[.slice A0 l0.length c0] w fun e w' => ∃ v0_ : Value, e = .returned (v0_) ∧ Kd.R (Kd.int .i64) 3 w' w.heap.size (fun _ => True) v0_ r ∧ Below w.heap.size w w' := by
 have HR0 := Aside0.mk hr0
 have HC0 := Aside0.mk hc0
 clear hr0 hc0
 have HB := Aside0.mk (Below.refl w.heap.size w)
 have H : ((spec_LeastPeriod.f k l0).bind fun t806 => (if (l0.length : Int) = 0 then ((some (([] : List Int) : List Int)).bind fun y807 => (if y807.length + l0.length < 17592186044416 then (some (y807 ++ l0)) else (none))) else (if t806 = 0 then (none) else (if ((l0.length : Int) % t806) = 0 then ((some (([] : List Int) : List Int)).bind fun y813 => (if 0 ≤ t806 then (if t806 ≤ (l0.length : Int) then (if y813.length + (l0.take (t806 : Int).toNat).length < 17592186044416 then (some (y813 ++ (l0.take (t806 : Int).toNat))) else (none)) else (none)) else (none))) else ((some (([] : List Int) : List Int)).bind fun y820 => (if y820.length + l0.length < 17592186044416 then (some (y820 ++ l0)) else (none))))))) = some r := h
 clear h
 obtain ⟨t806, A2, H⟩ := G.bx H
 by_cases c3 : (l0.length : Int) = 0
 ·rw [if_pos c3] at H
  have c3b0 : ((l0.length : Int) == 0) = true := beq_iff_eq.mpr c3
  have c3b1 : ((l0.length : Int) != 0) = false := bne_eq_false_iff_eq.mpr c3
  clear c3
  obtain ⟨y807, hy807⟩ : ∃ y_ : List Int, y_ = (([] : List Int)) := ⟨_, rfl⟩
  replace H : (if y807.length + l0.length < 17592186044416 then (some (y807 ++ l0)) else (none)) = some r := by first | (rw [hy807]; with_reducible exact H) | (have H2_ := (Option.bind_some _ _).symm.trans H; rw [hy807]; with_reducible exact H2_) | (have H2_ := (Option.bind_some _ _).symm.trans H; with_reducible exact H2_) | with_reducible exact H | (rw [hy807]; exact H) | exact H
  have Ny807 := Aside0.mk hy807
  clear hy807
  by_cases c4 : y807.length + l0.length < 17592186044416
  ·rw [if_pos c4] at H
   have LMc4 := Aside0.mk c4
   clear c4
   obtain ⟨y810, hy810⟩ : ∃ y_ : List Int, y_ = (y807 ++ l0) := ⟨_, rfl⟩
   replace H : (some y810) = some r := by first | (rw [hy810]; with_reducible exact H) | (have H2_ := (Option.bind_some _ _).symm.trans H; rw [hy810]; with_reducible exact H2_) | (have H2_ := (Option.bind_some _ _).symm.trans H; with_reducible exact H2_) | with_reducible exact H | (rw [hy810]; exact H) | exact H
   have Ny810 := Aside0.mk hy810
   clear hy810
   obtain rfl := Option.some.inj H
   go_enter Try.func152, Try.ntmps152
   go_wp2_with (first | ((with_reducible refine gate_callee (f := 103) rfl ?_); refine goesL_ (some 5) rfl rfl Try.func103 (by kernel_rfl) rfl #[.slice A0 l0.length c0] rfl G.ar ?_; (with_reducible refine (spec_LeastPeriod.calls k _ _ l0 t806 _ ?side1 ?side2 A2.out).mono ?_); (case side1 => exact G.kC HR0.out); (case side2 => exact HC0.out); rintro e w5 ⟨rfl, hb⟩; refine ⟨_, rfl, ?_⟩; have n0_ := Aside0.mk (below_step G.bel hb); clear HB; have HB := n0_; clear n0_; (try clear hb); (try clear hb2); (try clear hk); (try clear hi)) | ((with_reducible refine gate_dst (N := 16) rfl ?_); (try (refine gate_guard (by rfl) ?_; dsimp only)); refine Kd.R_lit (Kd.int .i64) _ 3 ?hg (N := 16) ?hd (xs := ([] : List Int)) (inner := []) (ok := fun _ => True) (okp := fun _ => True) ?hr ?hp (fun _ hk => hk) trivial (Below.refl _ _) (Nat.le_refl _) (by simp) ?_; (case hd => rfl); (case hg => rfl); (case hr => first | (go_simp; done) | (go_simp; rfl)); (case hp => exact (Reps.none _ _)); intro v808 w6 ho7 hb hg_ hnew_; clear hg_ hnew_; (first | rw [← Ny807.out] at ho7 | (simp only [Int.reduceToNat] at ho7; rw [← Ny807.out] at ho7)); have n0_ := Aside0.mk (Kd.R_lower ho7 (below_size G.bel)); have n1_ := Aside0.mk (below_step G.bel hb); clear HB; have HO809 := n0_; have HB := n1_; clear n0_ n1_; clear hb ho7) | ((with_reducible refine gate_builtin (b := .append) (xs := #[.tmp 16, .tmp 17]) rfl ?_); (try (refine gate_guard (by rfl) ?_; dsimp only)); at_builtin; refine Kd.R_append_rows (Kd.int .i64) (w0 := w) w.heap.size rfl (.tmp 16) (.tmp 17) 22 3 (.int .i64 0) 8 rfl Try.underlying22 info3 rfl (by decide) (by omega) v808 y807 l0 _ _ _ (fun _ => True) (fun _ => False) rfl rfl ?aO ?aR (fun _ _ h => h) (fun _ h => h.elim) ?aF ?aB ?aS ?aL ?_; (case aR => exact G.kC (Kd.C_below HR0.out HB.out)); (case aB => exact G.bel); (case aF => exact (fun _ _ => trivial)); (case aO => exact (G.kR HO809.out)); (case aS => exact (below_size G.bel)); (case aL => have := LMc4.out; omega); intro v811 w8 ho hb hg hat; rw [← Ny810.out] at ho; have n0_ := Aside0.mk (hb); have n1_ := Aside0.mk (ho); clear HB; clear HO809; have HB := n0_; have HO812 := n1_; clear n0_ n1_; clear ho hb hg hat))
   repeat (go_quiet (first | ((with_reducible refine gate_callee (f := 103) rfl ?_); refine goesL_ (some 5) rfl rfl Try.func103 (by kernel_rfl) rfl #[.slice A0 l0.length c0] rfl G.ar ?_; (with_reducible refine (spec_LeastPeriod.calls k _ _ l0 t806 _ ?side1 ?side2 A2.out).mono ?_); (case side1 => exact G.kC HR0.out); (case side2 => exact HC0.out); rintro e w5 ⟨rfl, hb⟩; refine ⟨_, rfl, ?_⟩; have n0_ := Aside0.mk (below_step G.bel hb); clear HB; have HB := n0_; clear n0_; (try clear hb); (try clear hb2); (try clear hk); (try clear hi)) | ((with_reducible refine gate_dst (N := 16) rfl ?_); (try (refine gate_guard (by rfl) ?_; dsimp only)); refine Kd.R_lit (Kd.int .i64) _ 3 ?hg (N := 16) ?hd (xs := ([] : List Int)) (inner := []) (ok := fun _ => True) (okp := fun _ => True) ?hr ?hp (fun _ hk => hk) trivial (Below.refl _ _) (Nat.le_refl _) (by simp) ?_; (case hd => rfl); (case hg => rfl); (case hr => first | (go_simp; done) | (go_simp; rfl)); (case hp => exact (Reps.none _ _)); intro v808 w6 ho7 hb hg_ hnew_; clear hg_ hnew_; (first | rw [← Ny807.out] at ho7 | (simp only [Int.reduceToNat] at ho7; rw [← Ny807.out] at ho7)); have n0_ := Aside0.mk (Kd.R_lower ho7 (below_size G.bel)); have n1_ := Aside0.mk (below_step G.bel hb); clear HB; have HO809 := n0_; have HB := n1_; clear n0_ n1_; clear hb ho7) | ((with_reducible refine gate_builtin (b := .append) (xs := #[.tmp 16, .tmp 17]) rfl ?_); (try (refine gate_guard (by rfl) ?_; dsimp only)); at_builtin; refine Kd.R_append_rows (Kd.int .i64) (w0 := w) w.heap.size rfl (.tmp 16) (.tmp 17) 22 3 (.int .i64 0) 8 rfl Try.underlying22 info3 rfl (by decide) (by omega) v808 y807 l0 _ _ _ (fun _ => True) (fun _ => False) rfl rfl ?aO ?aR (fun _ _ h => h) (fun _ h => h.elim) ?aF ?aB ?aS ?aL ?_; (case aR => exact G.kC (Kd.C_below HR0.out HB.out)); (case aB => exact G.bel); (case aF => exact (fun _ _ => trivial)); (case aO => exact (G.kR HO809.out)); (case aS => exact (below_size G.bel)); (case aL => have := LMc4.out; omega); intro v811 w8 ho hb hg hat; rw [← Ny810.out] at ho; have n0_ := Aside0.mk (hb); have n1_ := Aside0.mk (ho); clear HB; clear HO809; have HB := n0_; have HO812 := n1_; clear n0_ n1_; clear ho hb hg hat)); try go_wp2_with (first | ((with_reducible refine gate_callee (f := 103) rfl ?_); refine goesL_ (some 5) rfl rfl Try.func103 (by kernel_rfl) rfl #[.slice A0 l0.length c0] rfl G.ar ?_; (with_reducible refine (spec_LeastPeriod.calls k _ _ l0 t806 _ ?side1 ?side2 A2.out).mono ?_); (case side1 => exact G.kC HR0.out); (case side2 => exact HC0.out); rintro e w5 ⟨rfl, hb⟩; refine ⟨_, rfl, ?_⟩; have n0_ := Aside0.mk (below_step G.bel hb); clear HB; have HB := n0_; clear n0_; (try clear hb); (try clear hb2); (try clear hk); (try clear hi)) | ((with_reducible refine gate_dst (N := 16) rfl ?_); (try (refine gate_guard (by rfl) ?_; dsimp only)); refine Kd.R_lit (Kd.int .i64) _ 3 ?hg (N := 16) ?hd (xs := ([] : List Int)) (inner := []) (ok := fun _ => True) (okp := fun _ => True) ?hr ?hp (fun _ hk => hk) trivial (Below.refl _ _) (Nat.le_refl _) (by simp) ?_; (case hd => rfl); (case hg => rfl); (case hr => first | (go_simp; done) | (go_simp; rfl)); (case hp => exact (Reps.none _ _)); intro v808 w6 ho7 hb hg_ hnew_; clear hg_ hnew_; (first | rw [← Ny807.out] at ho7 | (simp only [Int.reduceToNat] at ho7; rw [← Ny807.out] at ho7)); have n0_ := Aside0.mk (Kd.R_lower ho7 (below_size G.bel)); have n1_ := Aside0.mk (below_step G.bel hb); clear HB; have HO809 := n0_; have HB := n1_; clear n0_ n1_; clear hb ho7) | ((with_reducible refine gate_builtin (b := .append) (xs := #[.tmp 16, .tmp 17]) rfl ?_); (try (refine gate_guard (by rfl) ?_; dsimp only)); at_builtin; refine Kd.R_append_rows (Kd.int .i64) (w0 := w) w.heap.size rfl (.tmp 16) (.tmp 17) 22 3 (.int .i64 0) 8 rfl Try.underlying22 info3 rfl (by decide) (by omega) v808 y807 l0 _ _ _ (fun _ => True) (fun _ => False) rfl rfl ?aO ?aR (fun _ _ h => h) (fun _ h => h.elim) ?aF ?aB ?aS ?aL ?_; (case aR => exact G.kC (Kd.C_below HR0.out HB.out)); (case aB => exact G.bel); (case aF => exact (fun _ _ => trivial)); (case aO => exact (G.kR HO809.out)); (case aS => exact (below_size G.bel)); (case aL => have := LMc4.out; omega); intro v811 w8 ho hb hg hat; rw [← Ny810.out] at ho; have n0_ := Aside0.mk (hb); have n1_ := Aside0.mk (ho); clear HB; clear HO809; have HB := n0_; have HO812 := n1_; clear n0_ n1_; clear ho hb hg hat)))
   go_ret
   exact ⟨_, G.er, G.kR HO812.out, G.bel⟩
  ·rw [if_neg c4] at H
   exact absurd H (by simp)
 ·rw [if_neg c3] at H
  have c3b0 : ((l0.length : Int) == 0) = false := beq_eq_false_iff_ne.mpr c3
  have c3b1 : ((l0.length : Int) != 0) = true := bne_iff_ne.mpr c3
  have c3b2 : ¬ (l0 = []) := fun h_ => c3 (by rw [h_]; rfl)
  by_cases c9 : t806 = 0
  ·rw [if_pos c9] at H
   exact absurd H (by simp)
  ·rw [if_neg c9] at H
   have c9b0 : (t806 == 0) = false := beq_eq_false_iff_ne.mpr c9
   have c9b1 : (t806 != 0) = true := bne_iff_ne.mpr c9
   by_cases c10 : ((l0.length : Int) % t806) = 0
   ·rw [if_pos c10] at H
    have c10b0 : (((l0.length : Int) % t806) == 0) = true := beq_iff_eq.mpr c10
    have c10b1 : (((l0.length : Int) % t806) != 0) = false := bne_eq_false_iff_eq.mpr c10
    clear c10
    obtain ⟨y813, hy813⟩ : ∃ y_ : List Int, y_ = (([] : List Int)) := ⟨_, rfl⟩
    replace H : (if 0 ≤ t806 then (if t806 ≤ (l0.length : Int) then (if y813.length + (l0.take (t806 : Int).toNat).length < 17592186044416 then (some (y813 ++ (l0.take (t806 : Int).toNat))) else (none)) else (none)) else (none)) = some r := by first | (rw [hy813]; with_reducible exact H) | (have H2_ := (Option.bind_some _ _).symm.trans H; rw [hy813]; with_reducible exact H2_) | (have H2_ := (Option.bind_some _ _).symm.trans H; with_reducible exact H2_) | with_reducible exact H | (rw [hy813]; exact H) | exact H
    have Ny813 := Aside0.mk hy813
    clear hy813
    by_cases c11 : 0 ≤ t806
    ·rw [if_pos c11] at H
     have c11b0 := eq_true c11
     have c11b1 : decide (0 ≤ t806) = true := decide_eq_true c11
     clear c11
     by_cases c12 : t806 ≤ (l0.length : Int)
     ·rw [if_pos c12] at H
      have c12b0 := eq_true c12
      have c12b1 : decide (t806 ≤ (l0.length : Int)) = true := decide_eq_true c12
      clear c12
      by_cases c13 : y813.length + (l0.take (t806 : Int).toNat).length < 17592186044416
      ·rw [if_pos c13] at H
       have LMc13 := Aside0.mk c13
       clear c13
       obtain ⟨y817, hy817⟩ : ∃ y_ : List Int, y_ = (y813 ++ (l0.take (t806 : Int).toNat)) := ⟨_, rfl⟩
       replace H : (some y817) = some r := by first | (rw [hy817]; with_reducible exact H) | (have H2_ := (Option.bind_some _ _).symm.trans H; rw [hy817]; with_reducible exact H2_) | (have H2_ := (Option.bind_some _ _).symm.trans H; with_reducible exact H2_) | with_reducible exact H | (rw [hy817]; exact H) | exact H
       have Ny817 := Aside0.mk hy817
       clear hy817
       obtain rfl := Option.some.inj H
       go_enter Try.func152, Try.ntmps152
       go_wp2_with (first | ((with_reducible refine gate_callee (f := 103) rfl ?_); refine goesL_ (some 5) rfl rfl Try.func103 (by kernel_rfl) rfl #[.slice A0 l0.length c0] rfl G.ar ?_; (with_reducible refine (spec_LeastPeriod.calls k _ _ l0 t806 _ ?side1 ?side2 A2.out).mono ?_); (case side1 => exact G.kC HR0.out); (case side2 => exact HC0.out); rintro e w14 ⟨rfl, hb⟩; refine ⟨_, rfl, ?_⟩; have n0_ := Aside0.mk (below_step G.bel hb); clear HB; have HB := n0_; clear n0_; (try clear hb); (try clear hb2); (try clear hk); (try clear hi)) | ((with_reducible refine gate_dst (N := 19) rfl ?_); (try (refine gate_guard (by rfl) ?_; dsimp only)); refine Kd.R_lit (Kd.int .i64) _ 3 ?hg (N := 19) ?hd (xs := ([] : List Int)) (inner := []) (ok := fun _ => True) (okp := fun _ => True) ?hr ?hp (fun _ hk => hk) trivial (Below.refl _ _) (Nat.le_refl _) (by simp) ?_; (case hd => rfl); (case hg => rfl); (case hr => first | (go_simp; done) | (go_simp; rfl)); (case hp => exact (Reps.none _ _)); intro v814 w15 ho16 hb hg_ hnew_; clear hg_ hnew_; (first | rw [← Ny813.out] at ho16 | (simp only [Int.reduceToNat] at ho16; rw [← Ny813.out] at ho16)); have n0_ := Aside0.mk (Kd.R_lower ho16 (below_size G.bel)); have n1_ := Aside0.mk (below_step G.bel hb); clear HB; have HO815 := n0_; have HB := n1_; clear n0_ n1_; clear hb ho16; obtain ⟨i017, hi017, _, hsz17, _⟩ := info_parts info3; obtain ⟨hcut17, hA17, hC17⟩ := print_take_of (P := Try.prog) (Value.int .i64) 0 22 3 .i64 Try.underlying22 hi017 hsz17 A0 c0 l0 t806 G.odt G.odt HC0.out; have HR816 := Aside0.mk (Kd.C_of_reads (h1 := fun _ => rfl) (hA17 _ (Kd.reads_of_C HR0.out))); have HC816 := Aside0.mk hC17; clear hA17 hC17 hi017 hsz17) | ((with_reducible refine gate_builtin (b := .append) (xs := #[.tmp 19, .tmp 22]) rfl ?_); (try (refine gate_guard (by rfl) ?_; dsimp only)); at_builtin; refine Kd.R_append_rows (Kd.int .i64) (w0 := w) w.heap.size rfl (.tmp 19) (.tmp 22) 22 3 (.int .i64 0) 8 rfl Try.underlying22 info3 rfl (by decide) (by omega) v814 y813 (l0.take (t806 : Int).toNat) _ _ _ (fun _ => True) (fun _ => False) rfl rfl ?aO ?aR (fun _ _ h => h) (fun _ h => h.elim) ?aF ?aB ?aS ?aL ?_; (case aR => first | (have h_ := HR816.out; simp only [Int.toNat_natCast, List.take_length] at h_ ⊢; exact (Kd.C_below h_ HB.out)) | (have h_ := HR816.out; rw [show (l0.take (t806 : Int).toNat).length = t806.toNat from (by rw [List.length_take]; have h_ : (t806 : Int) ≤ (l0.length : Int) := G.odt; omega)] at h_; exact (Kd.C_below h_ HB.out)) | exact (Kd.C_below HR816.out HB.out) | (rw [← show (l0.take (t806 : Int).toNat).length = t806.toNat from (by rw [List.length_take]; have h_ : (t806 : Int) ≤ (l0.length : Int) := G.odt; omega)]; repeat (first | exact (Kd.C_below HR816.out HB.out) | (with_reducible refine Kd.C_alloc ?_ _) | (with_reducible refine Kd.C_drewN ?_ _) | (with_reducible refine Kd.C_drew ?_))) | (repeat (first | exact (Kd.C_below HR816.out HB.out) | (with_reducible refine Kd.C_alloc ?_ _) | (with_reducible refine Kd.C_drewN ?_ _) | (with_reducible refine Kd.C_drew ?_)))); (case aB => exact G.bel); (case aF => exact (fun _ _ => trivial)); (case aO => exact (G.kR HO815.out)); (case aS => exact (below_size G.bel)); (case aL => have := LMc13.out; have hlx_ := (show (l0.take (t806 : Int).toNat).length = t806.toNat from (by rw [List.length_take]; have h_ : (t806 : Int) ≤ (l0.length : Int) := G.odt; omega)); omega); intro v818 w18 ho hb hg hat; rw [← Ny817.out] at ho; have n0_ := Aside0.mk (hb); have n1_ := Aside0.mk (ho); clear HB; clear HO815; have HB := n0_; have HO819 := n1_; clear n0_ n1_; clear ho hb hg hat))
       repeat (go_quiet (first | ((with_reducible refine gate_callee (f := 103) rfl ?_); refine goesL_ (some 5) rfl rfl Try.func103 (by kernel_rfl) rfl #[.slice A0 l0.length c0] rfl G.ar ?_; (with_reducible refine (spec_LeastPeriod.calls k _ _ l0 t806 _ ?side1 ?side2 A2.out).mono ?_); (case side1 => exact G.kC HR0.out); (case side2 => exact HC0.out); rintro e w14 ⟨rfl, hb⟩; refine ⟨_, rfl, ?_⟩; have n0_ := Aside0.mk (below_step G.bel hb); clear HB; have HB := n0_; clear n0_; (try clear hb); (try clear hb2); (try clear hk); (try clear hi)) | ((with_reducible refine gate_dst (N := 19) rfl ?_); (try (refine gate_guard (by rfl) ?_; dsimp only)); refine Kd.R_lit (Kd.int .i64) _ 3 ?hg (N := 19) ?hd (xs := ([] : List Int)) (inner := []) (ok := fun _ => True) (okp := fun _ => True) ?hr ?hp (fun _ hk => hk) trivial (Below.refl _ _) (Nat.le_refl _) (by simp) ?_; (case hd => rfl); (case hg => rfl); (case hr => first | (go_simp; done) | (go_simp; rfl)); (case hp => exact (Reps.none _ _)); intro v814 w15 ho16 hb hg_ hnew_; clear hg_ hnew_; (first | rw [← Ny813.out] at ho16 | (simp only [Int.reduceToNat] at ho16; rw [← Ny813.out] at ho16)); have n0_ := Aside0.mk (Kd.R_lower ho16 (below_size G.bel)); have n1_ := Aside0.mk (below_step G.bel hb); clear HB; have HO815 := n0_; have HB := n1_; clear n0_ n1_; clear hb ho16; obtain ⟨i017, hi017, _, hsz17, _⟩ := info_parts info3; obtain ⟨hcut17, hA17, hC17⟩ := print_take_of (P := Try.prog) (Value.int .i64) 0 22 3 .i64 Try.underlying22 hi017 hsz17 A0 c0 l0 t806 G.odt G.odt HC0.out; have HR816 := Aside0.mk (Kd.C_of_reads (h1 := fun _ => rfl) (hA17 _ (Kd.reads_of_C HR0.out))); have HC816 := Aside0.mk hC17; clear hA17 hC17 hi017 hsz17) | ((with_reducible refine gate_builtin (b := .append) (xs := #[.tmp 19, .tmp 22]) rfl ?_); (try (refine gate_guard (by rfl) ?_; dsimp only)); at_builtin; refine Kd.R_append_rows (Kd.int .i64) (w0 := w) w.heap.size rfl (.tmp 19) (.tmp 22) 22 3 (.int .i64 0) 8 rfl Try.underlying22 info3 rfl (by decide) (by omega) v814 y813 (l0.take (t806 : Int).toNat) _ _ _ (fun _ => True) (fun _ => False) rfl rfl ?aO ?aR (fun _ _ h => h) (fun _ h => h.elim) ?aF ?aB ?aS ?aL ?_; (case aR => first | (have h_ := HR816.out; simp only [Int.toNat_natCast, List.take_length] at h_ ⊢; exact (Kd.C_below h_ HB.out)) | (have h_ := HR816.out; rw [show (l0.take (t806 : Int).toNat).length = t806.toNat from (by rw [List.length_take]; have h_ : (t806 : Int) ≤ (l0.length : Int) := G.odt; omega)] at h_; exact (Kd.C_below h_ HB.out)) | exact (Kd.C_below HR816.out HB.out) | (rw [← show (l0.take (t806 : Int).toNat).length = t806.toNat from (by rw [List.length_take]; have h_ : (t806 : Int) ≤ (l0.length : Int) := G.odt; omega)]; repeat (first | exact (Kd.C_below HR816.out HB.out) | (with_reducible refine Kd.C_alloc ?_ _) | (with_reducible refine Kd.C_drewN ?_ _) | (with_reducible refine Kd.C_drew ?_))) | (repeat (first | exact (Kd.C_below HR816.out HB.out) | (with_reducible refine Kd.C_alloc ?_ _) | (with_reducible refine Kd.C_drewN ?_ _) | (with_reducible refine Kd.C_drew ?_)))); (case aB => exact G.bel); (case aF => exact (fun _ _ => trivial)); (case aO => exact (G.kR HO815.out)); (case aS => exact (below_size G.bel)); (case aL => have := LMc13.out; have hlx_ := (show (l0.take (t806 : Int).toNat).length = t806.toNat from (by rw [List.length_take]; have h_ : (t806 : Int) ≤ (l0.length : Int) := G.odt; omega)); omega); intro v818 w18 ho hb hg hat; rw [← Ny817.out] at ho; have n0_ := Aside0.mk (hb); have n1_ := Aside0.mk (ho); clear HB; clear HO815; have HB := n0_; have HO819 := n1_; clear n0_ n1_; clear ho hb hg hat)); try go_wp2_with (first | ((with_reducible refine gate_callee (f := 103) rfl ?_); refine goesL_ (some 5) rfl rfl Try.func103 (by kernel_rfl) rfl #[.slice A0 l0.length c0] rfl G.ar ?_; (with_reducible refine (spec_LeastPeriod.calls k _ _ l0 t806 _ ?side1 ?side2 A2.out).mono ?_); (case side1 => exact G.kC HR0.out); (case side2 => exact HC0.out); rintro e w14 ⟨rfl, hb⟩; refine ⟨_, rfl, ?_⟩; have n0_ := Aside0.mk (below_step G.bel hb); clear HB; have HB := n0_; clear n0_; (try clear hb); (try clear hb2); (try clear hk); (try clear hi)) | ((with_reducible refine gate_dst (N := 19) rfl ?_); (try (refine gate_guard (by rfl) ?_; dsimp only)); refine Kd.R_lit (Kd.int .i64) _ 3 ?hg (N := 19) ?hd (xs := ([] : List Int)) (inner := []) (ok := fun _ => True) (okp := fun _ => True) ?hr ?hp (fun _ hk => hk) trivial (Below.refl _ _) (Nat.le_refl _) (by simp) ?_; (case hd => rfl); (case hg => rfl); (case hr => first | (go_simp; done) | (go_simp; rfl)); (case hp => exact (Reps.none _ _)); intro v814 w15 ho16 hb hg_ hnew_; clear hg_ hnew_; (first | rw [← Ny813.out] at ho16 | (simp only [Int.reduceToNat] at ho16; rw [← Ny813.out] at ho16)); have n0_ := Aside0.mk (Kd.R_lower ho16 (below_size G.bel)); have n1_ := Aside0.mk (below_step G.bel hb); clear HB; have HO815 := n0_; have HB := n1_; clear n0_ n1_; clear hb ho16; obtain ⟨i017, hi017, _, hsz17, _⟩ := info_parts info3; obtain ⟨hcut17, hA17, hC17⟩ := print_take_of (P := Try.prog) (Value.int .i64) 0 22 3 .i64 Try.underlying22 hi017 hsz17 A0 c0 l0 t806 G.odt G.odt HC0.out; have HR816 := Aside0.mk (Kd.C_of_reads (h1 := fun _ => rfl) (hA17 _ (Kd.reads_of_C HR0.out))); have HC816 := Aside0.mk hC17; clear hA17 hC17 hi017 hsz17) | ((with_reducible refine gate_builtin (b := .append) (xs := #[.tmp 19, .tmp 22]) rfl ?_); (try (refine gate_guard (by rfl) ?_; dsimp only)); at_builtin; refine Kd.R_append_rows (Kd.int .i64) (w0 := w) w.heap.size rfl (.tmp 19) (.tmp 22) 22 3 (.int .i64 0) 8 rfl Try.underlying22 info3 rfl (by decide) (by omega) v814 y813 (l0.take (t806 : Int).toNat) _ _ _ (fun _ => True) (fun _ => False) rfl rfl ?aO ?aR (fun _ _ h => h) (fun _ h => h.elim) ?aF ?aB ?aS ?aL ?_; (case aR => first | (have h_ := HR816.out; simp only [Int.toNat_natCast, List.take_length] at h_ ⊢; exact (Kd.C_below h_ HB.out)) | (have h_ := HR816.out; rw [show (l0.take (t806 : Int).toNat).length = t806.toNat from (by rw [List.length_take]; have h_ : (t806 : Int) ≤ (l0.length : Int) := G.odt; omega)] at h_; exact (Kd.C_below h_ HB.out)) | exact (Kd.C_below HR816.out HB.out) | (rw [← show (l0.take (t806 : Int).toNat).length = t806.toNat from (by rw [List.length_take]; have h_ : (t806 : Int) ≤ (l0.length : Int) := G.odt; omega)]; repeat (first | exact (Kd.C_below HR816.out HB.out) | (with_reducible refine Kd.C_alloc ?_ _) | (with_reducible refine Kd.C_drewN ?_ _) | (with_reducible refine Kd.C_drew ?_))) | (repeat (first | exact (Kd.C_below HR816.out HB.out) | (with_reducible refine Kd.C_alloc ?_ _) | (with_reducible refine Kd.C_drewN ?_ _) | (with_reducible refine Kd.C_drew ?_)))); (case aB => exact G.bel); (case aF => exact (fun _ _ => trivial)); (case aO => exact (G.kR HO815.out)); (case aS => exact (below_size G.bel)); (case aL => have := LMc13.out; have hlx_ := (show (l0.take (t806 : Int).toNat).length = t806.toNat from (by rw [List.length_take]; have h_ : (t806 : Int) ≤ (l0.length : Int) := G.odt; omega)); omega); intro v818 w18 ho hb hg hat; rw [← Ny817.out] at ho; have n0_ := Aside0.mk (hb); have n1_ := Aside0.mk (ho); clear HB; clear HO815; have HB := n0_; have HO819 := n1_; clear n0_ n1_; clear ho hb hg hat)))
       go_ret
       exact ⟨_, G.er, G.kR HO819.out, G.bel⟩
      ·rw [if_neg c13] at H
       exact absurd H (by simp)
     ·rw [if_neg c12] at H
      exact absurd H (by simp)
    ·rw [if_neg c11] at H
     exact absurd H (by simp)
   ·rw [if_neg c10] at H
    have c10b0 : (((l0.length : Int) % t806) == 0) = false := beq_eq_false_iff_ne.mpr c10
    have c10b1 : (((l0.length : Int) % t806) != 0) = true := bne_iff_ne.mpr c10
    obtain ⟨y820, hy820⟩ : ∃ y_ : List Int, y_ = (([] : List Int)) := ⟨_, rfl⟩
    replace H : (if y820.length + l0.length < 17592186044416 then (some (y820 ++ l0)) else (none)) = some r := by first | (rw [hy820]; with_reducible exact H) | (have H2_ := (Option.bind_some _ _).symm.trans H; rw [hy820]; with_reducible exact H2_) | (have H2_ := (Option.bind_some _ _).symm.trans H; with_reducible exact H2_) | with_reducible exact H | (rw [hy820]; exact H) | exact H
    have Ny820 := Aside0.mk hy820
    clear hy820
    by_cases c19 : y820.length + l0.length < 17592186044416
    ·rw [if_pos c19] at H
     have LMc19 := Aside0.mk c19
     clear c19
     obtain ⟨y823, hy823⟩ : ∃ y_ : List Int, y_ = (y820 ++ l0) := ⟨_, rfl⟩
     replace H : (some y823) = some r := by first | (rw [hy823]; with_reducible exact H) | (have H2_ := (Option.bind_some _ _).symm.trans H; rw [hy823]; with_reducible exact H2_) | (have H2_ := (Option.bind_some _ _).symm.trans H; with_reducible exact H2_) | with_reducible exact H | (rw [hy823]; exact H) | exact H
     have Ny823 := Aside0.mk hy823
     clear hy823
     obtain rfl := Option.some.inj H
     go_enter Try.func152, Try.ntmps152
     go_wp2_with (first | ((with_reducible refine gate_callee (f := 103) rfl ?_); refine goesL_ (some 5) rfl rfl Try.func103 (by kernel_rfl) rfl #[.slice A0 l0.length c0] rfl G.ar ?_; (with_reducible refine (spec_LeastPeriod.calls k _ _ l0 t806 _ ?side1 ?side2 A2.out).mono ?_); (case side1 => exact G.kC HR0.out); (case side2 => exact HC0.out); rintro e w20 ⟨rfl, hb⟩; refine ⟨_, rfl, ?_⟩; have n0_ := Aside0.mk (below_step G.bel hb); clear HB; have HB := n0_; clear n0_; (try clear hb); (try clear hb2); (try clear hk); (try clear hi)) | ((with_reducible refine gate_dst (N := 16) rfl ?_); (try (refine gate_guard (by rfl) ?_; dsimp only)); refine Kd.R_lit (Kd.int .i64) _ 3 ?hg (N := 16) ?hd (xs := ([] : List Int)) (inner := []) (ok := fun _ => True) (okp := fun _ => True) ?hr ?hp (fun _ hk => hk) trivial (Below.refl _ _) (Nat.le_refl _) (by simp) ?_; (case hd => rfl); (case hg => rfl); (case hr => first | (go_simp; done) | (go_simp; rfl)); (case hp => exact (Reps.none _ _)); intro v821 w21 ho22 hb hg_ hnew_; clear hg_ hnew_; (first | rw [← Ny820.out] at ho22 | (simp only [Int.reduceToNat] at ho22; rw [← Ny820.out] at ho22)); have n0_ := Aside0.mk (Kd.R_lower ho22 (below_size G.bel)); have n1_ := Aside0.mk (below_step G.bel hb); clear HB; have HO822 := n0_; have HB := n1_; clear n0_ n1_; clear hb ho22) | ((with_reducible refine gate_builtin (b := .append) (xs := #[.tmp 16, .tmp 17]) rfl ?_); (try (refine gate_guard (by rfl) ?_; dsimp only)); at_builtin; refine Kd.R_append_rows (Kd.int .i64) (w0 := w) w.heap.size rfl (.tmp 16) (.tmp 17) 22 3 (.int .i64 0) 8 rfl Try.underlying22 info3 rfl (by decide) (by omega) v821 y820 l0 _ _ _ (fun _ => True) (fun _ => False) rfl rfl ?aO ?aR (fun _ _ h => h) (fun _ h => h.elim) ?aF ?aB ?aS ?aL ?_; (case aR => exact G.kC (Kd.C_below HR0.out HB.out)); (case aB => exact G.bel); (case aF => exact (fun _ _ => trivial)); (case aO => exact (G.kR HO822.out)); (case aS => exact (below_size G.bel)); (case aL => have := LMc19.out; omega); intro v824 w23 ho hb hg hat; rw [← Ny823.out] at ho; have n0_ := Aside0.mk (hb); have n1_ := Aside0.mk (ho); clear HB; clear HO822; have HB := n0_; have HO825 := n1_; clear n0_ n1_; clear ho hb hg hat))
     repeat (go_quiet (first | ((with_reducible refine gate_callee (f := 103) rfl ?_); refine goesL_ (some 5) rfl rfl Try.func103 (by kernel_rfl) rfl #[.slice A0 l0.length c0] rfl G.ar ?_; (with_reducible refine (spec_LeastPeriod.calls k _ _ l0 t806 _ ?side1 ?side2 A2.out).mono ?_); (case side1 => exact G.kC HR0.out); (case side2 => exact HC0.out); rintro e w20 ⟨rfl, hb⟩; refine ⟨_, rfl, ?_⟩; have n0_ := Aside0.mk (below_step G.bel hb); clear HB; have HB := n0_; clear n0_; (try clear hb); (try clear hb2); (try clear hk); (try clear hi)) | ((with_reducible refine gate_dst (N := 16) rfl ?_); (try (refine gate_guard (by rfl) ?_; dsimp only)); refine Kd.R_lit (Kd.int .i64) _ 3 ?hg (N := 16) ?hd (xs := ([] : List Int)) (inner := []) (ok := fun _ => True) (okp := fun _ => True) ?hr ?hp (fun _ hk => hk) trivial (Below.refl _ _) (Nat.le_refl _) (by simp) ?_; (case hd => rfl); (case hg => rfl); (case hr => first | (go_simp; done) | (go_simp; rfl)); (case hp => exact (Reps.none _ _)); intro v821 w21 ho22 hb hg_ hnew_; clear hg_ hnew_; (first | rw [← Ny820.out] at ho22 | (simp only [Int.reduceToNat] at ho22; rw [← Ny820.out] at ho22)); have n0_ := Aside0.mk (Kd.R_lower ho22 (below_size G.bel)); have n1_ := Aside0.mk (below_step G.bel hb); clear HB; have HO822 := n0_; have HB := n1_; clear n0_ n1_; clear hb ho22) | ((with_reducible refine gate_builtin (b := .append) (xs := #[.tmp 16, .tmp 17]) rfl ?_); (try (refine gate_guard (by rfl) ?_; dsimp only)); at_builtin; refine Kd.R_append_rows (Kd.int .i64) (w0 := w) w.heap.size rfl (.tmp 16) (.tmp 17) 22 3 (.int .i64 0) 8 rfl Try.underlying22 info3 rfl (by decide) (by omega) v821 y820 l0 _ _ _ (fun _ => True) (fun _ => False) rfl rfl ?aO ?aR (fun _ _ h => h) (fun _ h => h.elim) ?aF ?aB ?aS ?aL ?_; (case aR => exact G.kC (Kd.C_below HR0.out HB.out)); (case aB => exact G.bel); (case aF => exact (fun _ _ => trivial)); (case aO => exact (G.kR HO822.out)); (case aS => exact (below_size G.bel)); (case aL => have := LMc19.out; omega); intro v824 w23 ho hb hg hat; rw [← Ny823.out] at ho; have n0_ := Aside0.mk (hb); have n1_ := Aside0.mk (ho); clear HB; clear HO822; have HB := n0_; have HO825 := n1_; clear n0_ n1_; clear ho hb hg hat)); try go_wp2_with (first | ((with_reducible refine gate_callee (f := 103) rfl ?_); refine goesL_ (some 5) rfl rfl Try.func103 (by kernel_rfl) rfl #[.slice A0 l0.length c0] rfl G.ar ?_; (with_reducible refine (spec_LeastPeriod.calls k _ _ l0 t806 _ ?side1 ?side2 A2.out).mono ?_); (case side1 => exact G.kC HR0.out); (case side2 => exact HC0.out); rintro e w20 ⟨rfl, hb⟩; refine ⟨_, rfl, ?_⟩; have n0_ := Aside0.mk (below_step G.bel hb); clear HB; have HB := n0_; clear n0_; (try clear hb); (try clear hb2); (try clear hk); (try clear hi)) | ((with_reducible refine gate_dst (N := 16) rfl ?_); (try (refine gate_guard (by rfl) ?_; dsimp only)); refine Kd.R_lit (Kd.int .i64) _ 3 ?hg (N := 16) ?hd (xs := ([] : List Int)) (inner := []) (ok := fun _ => True) (okp := fun _ => True) ?hr ?hp (fun _ hk => hk) trivial (Below.refl _ _) (Nat.le_refl _) (by simp) ?_; (case hd => rfl); (case hg => rfl); (case hr => first | (go_simp; done) | (go_simp; rfl)); (case hp => exact (Reps.none _ _)); intro v821 w21 ho22 hb hg_ hnew_; clear hg_ hnew_; (first | rw [← Ny820.out] at ho22 | (simp only [Int.reduceToNat] at ho22; rw [← Ny820.out] at ho22)); have n0_ := Aside0.mk (Kd.R_lower ho22 (below_size G.bel)); have n1_ := Aside0.mk (below_step G.bel hb); clear HB; have HO822 := n0_; have HB := n1_; clear n0_ n1_; clear hb ho22) | ((with_reducible refine gate_builtin (b := .append) (xs := #[.tmp 16, .tmp 17]) rfl ?_); (try (refine gate_guard (by rfl) ?_; dsimp only)); at_builtin; refine Kd.R_append_rows (Kd.int .i64) (w0 := w) w.heap.size rfl (.tmp 16) (.tmp 17) 22 3 (.int .i64 0) 8 rfl Try.underlying22 info3 rfl (by decide) (by omega) v821 y820 l0 _ _ _ (fun _ => True) (fun _ => False) rfl rfl ?aO ?aR (fun _ _ h => h) (fun _ h => h.elim) ?aF ?aB ?aS ?aL ?_; (case aR => exact G.kC (Kd.C_below HR0.out HB.out)); (case aB => exact G.bel); (case aF => exact (fun _ _ => trivial)); (case aO => exact (G.kR HO822.out)); (case aS => exact (below_size G.bel)); (case aL => have := LMc19.out; omega); intro v824 w23 ho hb hg hat; rw [← Ny823.out] at ho; have n0_ := Aside0.mk (hb); have n1_ := Aside0.mk (ho); clear HB; clear HO822; have HB := n0_; have HO825 := n1_; clear n0_ n1_; clear ho hb hg hat)))
     go_ret
     exact ⟨_, G.er, G.kR HO825.out, G.bel⟩
    ·rw [if_neg c19] at H
     exact absurd H (by simp)

/-! ### spec_DrawStandardSplit: own walk, a loose contract -/
-- lib: GDraw
-- num: RL=def rd_L(\d+) \(xs : List \(List Int\)\) \(i : Int\)
section
open Go.Proofs.Ytolikggioekalab.G
def RTok : Prop := ∀ u : List Int, u.length ≤ 1001 → ∃ K r, spec_RootOf.f K u = some r ∧ r.length ≤ 1001
def spec_DrawStandardSplit.Ok (t : List Int) : Prop := t.length ≤ 1001
set_option maxHeartbeats 8000000 in
set_option maxRecDepth 100000 in
theorem spec_DrawStandardSplit.any (A0 : Option Addr) (c0 : Nat) (l0 : List Int) (w : World) (hr0 : Kd.C (Kd.int .u8) w A0 l0.length l0) (hc0 : l0.length ≤ c0) (hl : l0.length ≤ 1048576) (hLC : LCok) (hRT : RTok) :
  Calls Try.prog 95 #[.slice A0 l0.length c0] w fun e w' => ∃ (r : List Int) (v0_ : Value), r.length ≤ 1001 ∧ e = .returned (v0_) ∧ Kd.R (Kd.int .i64) 3 w' w.heap.size (fun _ => True) v0_ r ∧ Below w.heap.size w w' := by
 have HR0 := Aside0.mk hr0
 have HC0 := Aside0.mk hc0
 have HL := Aside0.mk hl
 have HLC := Aside0.mk hLC
 have HRT := Aside0.mk hRT
 clear hr0 hc0 hl hLC hRT
 go_enter Try.func95, Try.ntmps95
 go_wp2_with (first | (go_at_call 122; (with_reducible refine (spec_l1New.any A0 c0 l0 w HR0.out HC0.out HL.out).mono ?_); rintro e w2 ⟨g, rfl, hc, hb⟩; have HC := Aside0.mk hc; have HB := Aside0.mk hb; clear hc hb) | (go_at_call 128; (with_reducible refine (spec_l7Word.any w _ g 3 HC.out (by decide)).mono ?_); rintro e w3 ⟨⟨v, u, rfl, hr, hl, _⟩, hc, hk⟩; have HU := Aside0.mk hr; have HUL := Aside0.mk hl; have HB2 := Aside0.mk hc.2; clear hr hl hc hk; obtain ⟨Au, cu, eu⟩ := Kd.R_slice HU.out; subst eu; obtain ⟨K, r, hK, hrl⟩ := HLC.out u (by have := HUL.out; omega); have HF := Aside0.mk hK; have HRL := Aside0.mk hrl; clear hK hrl; obtain ⟨K2, r2, hK2, hrl2⟩ := HRT.out r HRL.out; have HF2 := Aside0.mk hK2; have HRL2 := Aside0.mk hrl2; clear hK2 hrl2) | (go_at_call 87; (with_reducible refine (spec_LeastConjugate.calls K _ _ u r _ (Kd.R_reads' HU.out).2.2 (Kd.R_reads' HU.out).2.1 HF.out).mono ?_); rintro e w4 ⟨v4, rfl, ⟨A4, c4, rfl, h4, h5⟩, hb⟩; have HV := Aside0.mk (And.intro h4 h5); have HB3 := Aside0.mk (below_step HB2.out hb); clear h4 h5 hb) | (go_at_call 152; (with_reducible refine (spec_RootOf.calls K2 _ _ r r2 _ (Kd.F_now HV.out.2) HV.out.1 HF2.out).mono ?_); rintro e w5 ⟨v5, rfl, ho, hb⟩; have HO := Aside0.mk (Kd.R_lower ho HB3.out.size); have HB4 := Aside0.mk (below_step HB3.out hb); clear ho hb))
 go_ret
 exact ⟨r2, _, HRL2.out, rfl, HO.out, HB4.out⟩
end

end Go.Proofs.Ytolikggioekalab.PFnLyndon
