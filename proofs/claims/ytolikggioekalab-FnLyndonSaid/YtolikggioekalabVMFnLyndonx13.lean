/- The Go functions that the law FnLyndon reaches (part 13): each as a Lean function, and that its code comes to these answers. No condition beyond those written. -/
import Derived.Test.YtolikggioekalabVGSlim
import Derived.Test.YtolikggioekalabVGHand
import Derived.Test.YtolikggioekalabVG0
import Derived.Test.YtolikggioekalabVMFnLyndonx11
import Derived.Test.YtolikggioekalabVMFnLyndonx10
import Derived.Test.YtolikggioekalabVMFnLyndonx9
import Derived.Test.YtolikggioekalabVMFnLyndonx8
import Derived.Test.YtolikggioekalabVMFnLyndonx7
import Derived.Test.YtolikggioekalabVMFnLyndonx6
import Derived.Test.YtolikggioekalabVMFnLyndonx5
import Derived.Test.YtolikggioekalabVMFnLyndonx4
import Derived.Test.YtolikggioekalabVMFnLyndonx3
import Derived.Test.YtolikggioekalabVMFnLyndonx2
import Derived.Test.YtolikggioekalabVMFnLyndonx1
import Derived.Test.YtolikggioekalabVMFnLyndonx0
import Derived.Test.YtolikggioekalabVMFnLyndonx12
namespace Go.Proofs.Ytolikggioekalab.PFnLyndon
open Go.RowKit Go.Proofs.YtolikggioekalabW.PrintWords Go.Proofs.YtolikggioekalabW.PrintLast Go.Proofs.YtolikggioekalabW.PrintMore
attribute [local go_sem] max2_int min2_int max_two min_two max_three min_three max_four min_four   -- for this text's walks alone
set_option linter.unusedVariables false
set_option linter.unusedSimpArgs false

/-! ### impl_allWords: function 25 -/
-- num: RL=def rd_L(\d+) \(xs : List \(List Int\)\) \(i : Int\)
mutual
def impl_allWords.l0 : Nat → Int → List (List Int) → Int → Int → Option ((List (List Int)))
 | 0, _, _, _, _ => none
 | k + 1, x0, x5, x12, x13 => if x13 < x12 then (impl_allWords.l1 k x0 (([] : List (List Int))) x12 x13 x5 (x5.length : Int) 0) else (some x5)
def impl_allWords.l1 : Nat → Int → List (List Int) → Int → Int → List (List Int) → Int → Int → Option ((List (List Int)))
 | 0, _, _, _, _, _, _, _ => none
 | k + 1, x0, x6, x12, x13, x16, x17, x18 => if x18 < x17 then (if 0 ≤ x18 then (if x18 < (x16.length : Int) then (impl_allWords.l2 k x0 x6 (rd_L1 x16 x18) x12 x13 x16 x17 x18 x0 0) else (none)) else (none)) else (impl_allWords.l0 k x0 x6 x12 (wrap64 (x13 + 1)))
def impl_allWords.l2 : Nat → Int → List (List Int) → List Int → Int → Int → List (List Int) → Int → Int → Int → Int → Option ((List (List Int)))
 | 0, _, _, _, _, _, _, _, _, _, _ => none
 | k + 1, x0, x6, x8, x12, x13, x16, x17, x18, x22, x23 => if x23 < x22 then ((some (([] : List Int) : List Int)).bind fun y135 => (if y135.length + x8.length < 17592186044416 then ((some (y135 ++ x8 : List Int)).bind fun y138 => (if y138.length < 17592186044416 then (if x6.length < 5864062014805 then (impl_allWords.l2 k x0 (x6 ++ [(y138 ++ [x23])]) x8 x12 x13 x16 x17 x18 x22 (wrap64 (x23 + 1))) else (none)) else (none))) else (none))) else (impl_allWords.l1 k x0 x6 x12 x13 x16 x17 (wrap64 (x18 + 1)))
end
def impl_allWords.f (k : Nat) (a0 : Int) (a1 : Int) : Option ((List (List Int))) := impl_allWords.l0 k a0 (([(([] : List Int))] : List (List Int))) a1 0
theorem impl_allWords.mono_l : ∀ k, (∀ y0 y1 y2 y3, LeO (impl_allWords.l0 k y0 y1 y2 y3) (impl_allWords.l0 (k + 1) y0 y1 y2 y3)) ∧ (∀ y0 y1 y2 y3 y4 y5 y6, LeO (impl_allWords.l1 k y0 y1 y2 y3 y4 y5 y6) (impl_allWords.l1 (k + 1) y0 y1 y2 y3 y4 y5 y6)) ∧ (∀ y0 y1 y2 y3 y4 y5 y6 y7 y8 y9, LeO (impl_allWords.l2 k y0 y1 y2 y3 y4 y5 y6 y7 y8 y9) (impl_allWords.l2 (k + 1) y0 y1 y2 y3 y4 y5 y6 y7 y8 y9))
 | 0 => ⟨fun _ _ _ _ r h => by simp [impl_allWords.l0] at h, fun _ _ _ _ _ _ _ r h => by simp [impl_allWords.l1] at h, fun _ _ _ _ _ _ _ _ _ _ r h => by simp [impl_allWords.l2] at h⟩
 | k + 1 => by
  obtain ⟨ih0, ih1, ih2⟩ := impl_allWords.mono_l k
  refine ⟨?_, ?_, ?_⟩
  ·intro y0 y1 y2 y3
   unfold impl_allWords.l0
   repeat' first
   | (with_reducible exact ih0 _ _ _ _)
   | (with_reducible exact ih1 _ _ _ _ _ _ _)
   | (with_reducible exact ih2 _ _ _ _ _ _ _ _ _ _)
   | (with_reducible exact LeO.refl _)
   | (with_reducible exact LeO.none _)
   | (with_reducible refine LeO.ite ?_ ?_)
   | (with_reducible refine LeO.bind ?_ (fun _ => ?_))
   | exact ih0 _ _ _ _
   | exact ih1 _ _ _ _ _ _ _
   | exact ih2 _ _ _ _ _ _ _ _ _ _
   | exact LeO.none _
   | refine LeO.ite ?_ ?_
   | refine LeO.bind ?_ (fun _ => ?_)
  ·intro y0 y1 y2 y3 y4 y5 y6
   unfold impl_allWords.l1
   repeat' first
   | (with_reducible exact ih0 _ _ _ _)
   | (with_reducible exact ih1 _ _ _ _ _ _ _)
   | (with_reducible exact ih2 _ _ _ _ _ _ _ _ _ _)
   | (with_reducible exact LeO.refl _)
   | (with_reducible exact LeO.none _)
   | (with_reducible refine LeO.ite ?_ ?_)
   | (with_reducible refine LeO.bind ?_ (fun _ => ?_))
   | exact ih0 _ _ _ _
   | exact ih1 _ _ _ _ _ _ _
   | exact ih2 _ _ _ _ _ _ _ _ _ _
   | exact LeO.none _
   | refine LeO.ite ?_ ?_
   | refine LeO.bind ?_ (fun _ => ?_)
  ·intro y0 y1 y2 y3 y4 y5 y6 y7 y8 y9
   unfold impl_allWords.l2
   repeat' first
   | (with_reducible exact ih0 _ _ _ _)
   | (with_reducible exact ih1 _ _ _ _ _ _ _)
   | (with_reducible exact ih2 _ _ _ _ _ _ _ _ _ _)
   | (with_reducible exact LeO.refl _)
   | (with_reducible exact LeO.none _)
   | (with_reducible refine LeO.ite ?_ ?_)
   | (with_reducible refine LeO.bind ?_ (fun _ => ?_))
   | exact ih0 _ _ _ _
   | exact ih1 _ _ _ _ _ _ _
   | exact ih2 _ _ _ _ _ _ _ _ _ _
   | exact LeO.none _
   | refine LeO.ite ?_ ?_
   | refine LeO.bind ?_ (fun _ => ?_)
theorem impl_allWords.mono : ∀ a0 a1 k, LeO (impl_allWords.f k a0 a1) (impl_allWords.f (k + 1) a0 a1) := by
 intro a0 a1 k
 obtain ⟨ih0, ih1, ih2⟩ := impl_allWords.mono_l k
 unfold impl_allWords.f
 repeat' first
   | (with_reducible exact ih0 _ _ _ _)
   | (with_reducible exact ih1 _ _ _ _ _ _ _)
   | (with_reducible exact ih2 _ _ _ _ _ _ _ _ _ _)
   | (with_reducible exact LeO.refl _)
   | (with_reducible exact LeO.none _)
   | (with_reducible refine LeO.ite ?_ ?_)
   | (with_reducible refine LeO.bind ?_ (fun _ => ?_))
   | exact ih0 _ _ _ _
   | exact ih1 _ _ _ _ _ _ _
   | exact ih2 _ _ _ _ _ _ _ _ _ _
   | exact LeO.none _
   | refine LeO.ite ?_ ?_
   | refine LeO.bind ?_ (fun _ => ?_)
set_option maxHeartbeats 8000000 in
set_option maxRecDepth 100000 in
theorem impl_allWords.calls (k : Nat) (a0 : Int) (a1 : Int) (r : List (List Int)) (w : World) (h : impl_allWords.f k a0 a1 = some r) :
  Calls Try.prog 145 #[.int .i64 a0, .int .i64 a1] w fun e w' => ∃ v0_ : Value, e = .returned (v0_) ∧ Kd.S (Kd.slice 3 (Kd.int .i64)) 22 w' w.heap.size (fun _ => True) v0_ r ∧ Below w.heap.size w w' := by
 have HB := Aside0.mk (Below.refl w.heap.size w)
 have H : (impl_allWords.l0 k a0 (([(([] : List Int))] : List (List Int))) a1 0) = some r := h
 clear h
 obtain ⟨y125, hy125⟩ : ∃ y_ : List Int, y_ = (([] : List Int)) := ⟨_, rfl⟩
 replace H : (impl_allWords.l0 k a0 (([y125] : List (List Int))) a1 0) = some r := by first | (rw [hy125]; with_reducible exact H) | (have H2_ := (Option.bind_some _ _).symm.trans H; rw [hy125]; with_reducible exact H2_) | (have H2_ := (Option.bind_some _ _).symm.trans H; with_reducible exact H2_) | with_reducible exact H | (rw [hy125]; exact H) | exact H
 have Ny125 := Aside0.mk hy125
 clear hy125
 obtain ⟨y128, hy128⟩ : ∃ y_ : List (List Int), y_ = (([y125] : List (List Int))) := ⟨_, rfl⟩
 replace H : (impl_allWords.l0 k a0 y128 a1 0) = some r := by first | (rw [hy128]; with_reducible exact H) | (have H2_ := (Option.bind_some _ _).symm.trans H; rw [hy128]; with_reducible exact H2_) | (have H2_ := (Option.bind_some _ _).symm.trans H; with_reducible exact H2_) | with_reducible exact H | (rw [hy128]; exact H) | exact H
 have Ny128 := Aside0.mk hy128
 clear hy128
 have H' := Aside0.mk H
 clear H
 go_enter Try.func145, Try.ntmps145
 go_wp2_with (first | ((with_reducible refine gate_dst (N := 10) rfl ?_); refine Kd.R_lit (Kd.int .i64) _ 3 ?hg (N := 10) ?hd (xs := ([] : List Int)) (inner := []) (ok := fun _ => True) (okp := fun _ => True) ?hr ?hp (fun _ hk => hk) trivial (Below.refl _ _) (Nat.le_refl _) (by simp) ?_; (case hd => rfl); (case hg => rfl); (case hr => first | (go_simp; done) | (go_simp; rfl)); (case hp => exact (Reps.none _ _)); intro v126 w3 ho4 hb hg_ hnew_; clear hg_ hnew_; (first | rw [← Ny125.out] at ho4 | (simp only [Int.reduceToNat] at ho4; rw [← Ny125.out] at ho4)); have n0_ := Aside0.mk (Kd.R_lower ho4 (below_size G.bel)); have n1_ := Aside0.mk (below_step G.bel hb); clear HB; have HO127 := n0_; have HB := n1_; clear n0_ n1_; clear hb ho4; obtain ⟨Ao5, co5, eo5⟩ := Kd.R_slice HO127.out; subst eo5) | ((with_reducible refine gate_dst (N := 11) rfl ?_); refine Kd.S_lits (Kd.slice 3 (Kd.int .i64)) (w0 := w) w.heap.size 22 ?hg (N := 11) ?hd (xs := ([y125] : List (List Int))) (inner := [.slice Ao5 y125.length co5]) (ok := fun _ => True) (fun j_ _ => j_ = 0) ?hr rfl ?hp ?ha (fun _ _ _ => trivial) trivial G.bel (below_size G.bel) (by simp) ?_; (case hd => rfl); (case hg => rfl); (case hr => first | (go_simp; done) | (go_simp; rfl)); (case hp => intro j_ x_ hx_; rcases j_ with _ | j_; (obtain rfl : y125 = x_ := Option.some.inj hx_; exact Kd.M_row (Kd.R_mono (G.kR HO127.out) (fun _ _ => rfl))); exact absurd hx_ (by simp)); (case ha => intro i_ j_ k_ h1_ h2_; exact h1_.trans h2_.symm); intro vl_ wl_ ho7 hb hg_ hnew_; clear hg_ hnew_; (first | rw [← Ny128.out] at ho7 | (simp only [Int.reduceToNat] at ho7; rw [← Ny128.out] at ho7)); have n0_ := Aside0.mk ho7; have n1_ := Aside0.mk hb; clear HB; clear HO127; have HOl_ := n0_; have HB := n1_; clear n0_ n1_; clear hb ho7))
 go_loopg [5, 13] k (fun kq v5 v13 w' => ∃ (x5_1 : List (List Int)) (x13_1 : Int), v13 = .int .i64 x13_1 ∧ Aside0 (impl_allWords.l0 kq a0 x5_1 a1 x13_1 = some r) ∧ Aside0 (kq ≤ k) ∧ Aside0 (Kd.S (Kd.slice 3 (Kd.int .i64)) 22 w' w.heap.size (fun _ => True) v5 x5_1) ∧ Aside0 (Below w.heap.size w w'))
 case atStart => exact ⟨(y128), (0), G.tr, H', ⟨Nat.le_refl _⟩, ⟨G.kS HOl_.out⟩, ⟨G.bel⟩⟩
 case round =>
  clear H'
  try clear c1; try clear c2; try clear p2
  obtain ⟨x5_1, x13_1, rfl, HA, HK1, HO_5, HB⟩ := hrel
  cases gk with
  | zero => exact absurd HA.out (by simp [impl_allWords.l0])
  | succ k1 =>
   have H := HA.out
   clear HA
   simp only [impl_allWords.l0] at H
   by_cases c3 : x13_1 < a1
   ·rw [if_pos c3] at H
    have c3b0 : decide (x13_1 < a1) = true := decide_eq_true c3
    clear c3
    obtain ⟨A1, c1, eo_⟩ := Kd.S_slice HO_5.out
    subst eo_
    have HR1 := Aside0.mk (Kd.S_reads' HO_5.out).2.2
    have HC1 := Aside0.mk (Kd.S_reads' HO_5.out).2.1
    have HBo := HB
    clear HB HO_5
    rename World => W0_
    have HB := Aside0.mk (Below.refl W0_.heap.size W0_)
    obtain ⟨y128, hy128⟩ : ∃ y_ : List (List Int), y_ = (([] : List (List Int))) := ⟨_, rfl⟩
    replace H : (impl_allWords.l1 k1 a0 y128 a1 x13_1 x5_1 (x5_1.length : Int) 0) = some r := by first | (rw [hy128]; with_reducible exact H) | (have H2_ := (Option.bind_some _ _).symm.trans H; rw [hy128]; with_reducible exact H2_) | (have H2_ := (Option.bind_some _ _).symm.trans H; with_reducible exact H2_) | with_reducible exact H | (rw [hy128]; exact H) | exact H
    have Ny128 := Aside0.mk hy128
    clear hy128
    have H' := Aside0.mk H
    clear H
    go_wp2_with (first | ((with_reducible refine gate_dst (N := 15) rfl ?_); refine Kd.S_lit (Kd.slice 3 (Kd.int .i64)) _ 22 ?hg (N := 15) ?hd (xs := ([] : List (List Int))) (inner := []) (ok := fun _ => True) (okp := fun _ => True) ?hr ?hp (fun _ hk => hk) trivial (Below.refl _ _) (Nat.le_refl _) (by simp) ?_; (case hd => rfl); (case hg => rfl); (case hr => first | (go_simp; done) | (go_simp; rfl)); (case hp => exact (Reps.none _ _)); intro v129 w4 ho5 hb hg_ hnew_; clear hg_ hnew_; (first | rw [← Ny128.out] at ho5 | (simp only [Int.reduceToNat] at ho5; rw [← Ny128.out] at ho5)); have n0_ := Aside0.mk (Kd.S_lower ho5 (below_size G.bel)); have n1_ := Aside0.mk (below_step G.bel hb); clear HB; have HO130 := n0_; have HB := n1_; clear n0_ n1_; clear hb ho5))
    go_loopg [6, 18] k1 (fun kq v6 v18 w' => ∃ (x6_2 : List (List Int)) (x18_2 : Int), v18 = .int .i64 x18_2 ∧ Aside0 (impl_allWords.l1 kq a0 x6_2 a1 x13_1 x5_1 (x5_1.length : Int) x18_2 = some r) ∧ Aside0 (kq ≤ k1) ∧ Aside0 (Kd.S (Kd.slice 3 (Kd.int .i64)) 22 w' W0_.heap.size (fun _ => True) v6 x6_2) ∧ Aside0 (Below W0_.heap.size W0_ w'))
    case atStart => exact ⟨(y128), (0), G.tr, H', ⟨Nat.le_refl _⟩, ⟨G.kS HO130.out⟩, ⟨G.bel⟩⟩
    case round =>
     clear H'
     try clear c1; try clear c2; try clear p2; try clear c3; try clear c3b0; try clear p2
     obtain ⟨x6_2, x18_2, rfl, HA, HK2, HO_6, HB⟩ := hrel
     cases gk with
     | zero => exact absurd HA.out (by simp [impl_allWords.l1])
     | succ k2 =>
      have H := HA.out
      clear HA
      simp only [impl_allWords.l1] at H
      by_cases c6 : x18_2 < (x5_1.length : Int)
      ·rw [if_pos c6] at H
       have c6b0 : decide (x18_2 < (x5_1.length : Int)) = true := decide_eq_true c6
       clear c6
       by_cases c7 : 0 ≤ x18_2
       ·rw [if_pos c7] at H
        have c7b0 : decide (0 ≤ x18_2) = true := decide_eq_true c7
        clear c7
        by_cases c8 : x18_2 < (x5_1.length : Int)
        ·rw [if_pos c8] at H
         have c8b0 : decide (x18_2 < (x5_1.length : Int)) = true := decide_eq_true c8
         clear c8
         have H' := Aside0.mk H
         clear H
         have p131 : 0 ≤ (x18_2 : Int) := G.odt
         have q131 : x18_2 < (x5_1.length : Int) := G.odt
         obtain ⟨ad131, A131_0, c131_0, e131, hx131_0, hl131_0, hi131_0⟩ := at_L1 HR1.out x18_2 p131 q131
         cases e131
         replace hx131_0 := (HB.out.cell (World.block_lt_of_cell? W0_ _ hx131_0)).trans hx131_0
         have HR131_0 := Aside0.mk hi131_0
         have HC131_0 := Aside0.mk hl131_0
         clear hi131_0 hl131_0
         replace p131 := eq_true p131
         replace q131 := eq_true q131
         go_wp2
         go_loopg [6, 23] k2 (fun kq v6 v23 w' => ∃ (x6_3 : List (List Int)) (x23_3 : Int), v23 = .int .i64 x23_3 ∧ Aside0 (impl_allWords.l2 kq a0 x6_3 (rd_L1 x5_1 x18_2) a1 x13_1 x5_1 (x5_1.length : Int) x18_2 a0 x23_3 = some r) ∧ Aside0 (kq ≤ k2) ∧ Aside0 (Kd.S (Kd.slice 3 (Kd.int .i64)) 22 w' W0_.heap.size (fun _ => True) v6 x6_3) ∧ Aside0 (Below W0_.heap.size W0_ w'))
         case atStart => exact ⟨(x6_2), (0), G.tr, H', ⟨Nat.le_refl _⟩, ⟨G.kS HO_6.out⟩, ⟨G.bel⟩⟩
         case round =>
          clear H'
          try clear c1; try clear p1; try clear q1; try clear hx1; try clear c2; try clear p2; try clear c3; try clear c3b0; try clear c6; try clear c6b0; try clear c7; try clear c7b0; try clear c8; try clear c8b0; try clear hx131_0; try clear p131; try clear p2; try clear q131
          obtain ⟨x6_3, x23_3, rfl, HA, HK3, HO_6, HB⟩ := hrel
          cases gk with
          | zero => exact absurd HA.out (by simp [impl_allWords.l2])
          | succ k3 =>
           have H := HA.out
           clear HA
           simp only [impl_allWords.l2] at H
           by_cases c9 : x23_3 < a0
           ·rw [if_pos c9] at H
            have c9b0 : decide (x23_3 < a0) = true := decide_eq_true c9
            clear c9
            obtain ⟨y132, hy132⟩ : ∃ y_ : List Int, y_ = (([] : List Int)) := ⟨_, rfl⟩
            replace H : (if y132.length + (rd_L1 x5_1 x18_2).length < 17592186044416 then ((some (y132 ++ (rd_L1 x5_1 x18_2) : List Int)).bind fun y135 => (if y135.length < 17592186044416 then (if x6_3.length < 5864062014805 then (impl_allWords.l2 k3 a0 (x6_3 ++ [(y135 ++ [x23_3])]) (rd_L1 x5_1 x18_2) a1 x13_1 x5_1 (x5_1.length : Int) x18_2 a0 (wrap64 (x23_3 + 1))) else (none)) else (none))) else (none)) = some r := by first | (rw [hy132]; with_reducible exact H) | (have H2_ := (Option.bind_some _ _).symm.trans H; rw [hy132]; with_reducible exact H2_) | (have H2_ := (Option.bind_some _ _).symm.trans H; with_reducible exact H2_) | with_reducible exact H | (rw [hy132]; exact H) | exact H
            have Ny132 := Aside0.mk hy132
            clear hy132
            by_cases c10 : y132.length + (rd_L1 x5_1 x18_2).length < 17592186044416
            ·rw [if_pos c10] at H
             have LMc10 := Aside0.mk c10
             clear c10
             obtain ⟨y135, hy135⟩ : ∃ y_ : List Int, y_ = (y132 ++ (rd_L1 x5_1 x18_2)) := ⟨_, rfl⟩
             replace H : (if y135.length < 17592186044416 then (if x6_3.length < 5864062014805 then (impl_allWords.l2 k3 a0 (x6_3 ++ [(y135 ++ [x23_3])]) (rd_L1 x5_1 x18_2) a1 x13_1 x5_1 (x5_1.length : Int) x18_2 a0 (wrap64 (x23_3 + 1))) else (none)) else (none)) = some r := by first | (rw [hy135]; with_reducible exact H) | (have H2_ := (Option.bind_some _ _).symm.trans H; rw [hy135]; with_reducible exact H2_) | (have H2_ := (Option.bind_some _ _).symm.trans H; with_reducible exact H2_) | with_reducible exact H | (rw [hy135]; exact H) | exact H
             have Ny135 := Aside0.mk hy135
             clear hy135
             by_cases c11 : y135.length < 17592186044416
             ·rw [if_pos c11] at H
              have LMc11 := Aside0.mk c11
              clear c11
              obtain ⟨y138, hy138⟩ : ∃ y_ : List Int, y_ = (y135 ++ [x23_3]) := ⟨_, rfl⟩
              replace H : (if x6_3.length < 5864062014805 then (impl_allWords.l2 k3 a0 (x6_3 ++ [y138]) (rd_L1 x5_1 x18_2) a1 x13_1 x5_1 (x5_1.length : Int) x18_2 a0 (wrap64 (x23_3 + 1))) else (none)) = some r := by first | (rw [hy138]; with_reducible exact H) | (have H2_ := (Option.bind_some _ _).symm.trans H; rw [hy138]; with_reducible exact H2_) | (have H2_ := (Option.bind_some _ _).symm.trans H; with_reducible exact H2_) | with_reducible exact H | (rw [hy138]; exact H) | exact H
              have Ny138 := Aside0.mk hy138
              clear hy138
              by_cases c12 : x6_3.length < 5864062014805
              ·rw [if_pos c12] at H
               have LMc12 := Aside0.mk c12
               clear c12
               obtain ⟨y141, hy141⟩ : ∃ y_ : List (List Int), y_ = (x6_3 ++ [y138]) := ⟨_, rfl⟩
               replace H : (impl_allWords.l2 k3 a0 y141 (rd_L1 x5_1 x18_2) a1 x13_1 x5_1 (x5_1.length : Int) x18_2 a0 (wrap64 (x23_3 + 1))) = some r := by first | (rw [hy141]; with_reducible exact H) | (have H2_ := (Option.bind_some _ _).symm.trans H; rw [hy141]; with_reducible exact H2_) | (have H2_ := (Option.bind_some _ _).symm.trans H; with_reducible exact H2_) | with_reducible exact H | (rw [hy141]; exact H) | exact H
               have Ny141 := Aside0.mk hy141
               clear hy141
               have H' := Aside0.mk H
               clear H
               go_wp2_with (first | ((with_reducible refine gate_dst (N := 27) rfl ?_); refine Kd.R_lit (Kd.int .i64) _ 3 ?hg (N := 27) ?hd (xs := ([] : List Int)) (inner := []) (ok := fun _ => True) (okp := fun _ => True) ?hr ?hp (fun _ hk => hk) trivial (Below.refl _ _) (Nat.le_refl _) (by simp) ?_; (case hd => rfl); (case hg => rfl); (case hr => first | (go_simp; done) | (go_simp; rfl)); (case hp => exact (Reps.none _ _)); intro v133 w13 ho14 hb hg_ hnew_; clear hg_ hnew_; (first | rw [← Ny132.out] at ho14 | (simp only [Int.reduceToNat] at ho14; rw [← Ny132.out] at ho14)); have n0_ := Aside0.mk (Kd.S_elder' (G.kS HO_6.out) (Kd.R_base ho14) hb); have n1_ := Aside0.mk (Kd.R_lower ho14 (below_size G.bel)); have n2_ := Aside0.mk (below_step G.bel hb); clear HO_6; clear HB; have HO_6 := n0_; have HO134 := n1_; have HB := n2_; clear n0_ n1_ n2_; clear hb ho14) | ((with_reducible refine gate_builtin (b := .append) (xs := #[.tmp 27, .tmp 28]) rfl ?_); at_builtin; refine Kd.R_append_rows (Kd.int .i64) (w0 := W0_) W0_.heap.size rfl (.tmp 27) (.tmp 28) 22 3 (.int .i64 0) 8 rfl Try.underlying22 info3 rfl (by decide) (by omega) v133 y132 (rd_L1 x5_1 x18_2) _ _ _ (fun _ => True) (fun _ => False) rfl rfl ?aO ?aR (fun _ _ h => h) (fun _ h => h.elim) ?aF ?aB ?aS ?aL ?_; (case aR => exact G.kC (Kd.C_below HR131_0.out HB.out)); (case aB => exact G.bel); (case aF => exact (fun _ _ => trivial)); (case aO => exact (G.kR HO134.out)); (case aS => exact (below_size G.bel)); (case aL => have := LMc10.out; omega); intro v136 w15 ho hb hg hat; rw [← Ny135.out] at ho; have n0_ := Aside0.mk (Kd.S_after (ok := (fun _ => True)) (G.kS HO_6.out) hg hat); have n1_ := Aside0.mk (hb); have n2_ := Aside0.mk (ho); clear HO_6; clear HB; clear HO134; have HO_6 := n0_; have HB := n1_; have HO137 := n2_; clear n0_ n1_ n2_; clear ho hb hg hat) | ((with_reducible refine gate_builtin (b := .append) (xs := #[.tmp 29, .tmp 31]) rfl ?_); at_builtin; refine Kd.R_append (Kd.int .i64) (w0 := W0_) W0_.heap.size rfl (.tmp 29) (.tmp 31) 22 3 (.int .i64 0) 8 rfl Try.underlying22 info3 rfl (by decide) (by omega) v136 y135 x23_3 [.int .i64 x23_3] (fun _ => True) (fun _ => False) rfl rfl ?aP (fun _ hk => hk.elim) ?aF ?aO ?aB ?aS ?aL ?_; (case aP => exact rfl); (case aB => exact G.bel); (case aF => exact (fun _ _ => trivial)); (case aO => exact (G.kR HO137.out)); (case aS => exact (below_size G.bel)); (case aL => have := LMc11.out; omega); intro v139 w16 ho hb hg hat; rw [← Ny138.out] at ho; have n0_ := Aside0.mk (Kd.S_after (ok := (fun _ => True)) (G.kS HO_6.out) hg hat); have n1_ := Aside0.mk (hb); have n2_ := Aside0.mk (ho); clear HO_6; clear HB; clear HO137; have HO_6 := n0_; have HB := n1_; have HO140 := n2_; clear n0_ n1_ n2_; clear ho hb hg hat; obtain ⟨Ao18, co18, eo18⟩ := Kd.R_slice HO140.out; subst eo18) | ((with_reducible refine gate_builtin (b := .append) (xs := #[.tmp 26, .tmp 33]) rfl ?_); at_builtin; refine Kd.S_append (Kd.slice 3 (Kd.int .i64)) (w0 := W0_) W0_.heap.size rfl (.tmp 26) (.tmp 33) 23 22 (.slice none 0 0) 24 rfl Try.underlying23 info22 rfl (by decide) (by omega) u6 x6_3 y138 [.slice Ao18 y138.length co18] (fun _ => True) (fun k_ => some k_ = (.slice Ao18 y138.length co18 : Value).ownBlock) rfl rfl ?aP (fun k_ hk_ => ((Kd.R_mono (ok' := fun k_ => ((fun _ => True)) k_ ∧ some k_ ≠ (u6 : Value).ownBlock) (Kd.R_apart' (HO140.out) (Kd.S_typed HO_6.out) (by decide)) (fun k_ hk => ⟨trivial, hk.2⟩))).1 k_ hk_.symm) ?aF ?aO ?aB ?aS ?aL ?_; (case aP => exact Kd.M_row (Kd.R_mono (Kd.R_tight rfl (Kd.R_mono (ok' := fun k_ => ((fun _ => True)) k_ ∧ some k_ ≠ (u6 : Value).ownBlock) (Kd.R_apart' (HO140.out) (Kd.S_typed HO_6.out) (by decide)) (fun k_ hk => ⟨trivial, hk.2⟩))) (fun _ h_ => h_))); (case aB => exact G.bel); (case aF => exact (fun _ _ => trivial)); (case aO => exact (by (with_reducible repeat (first | apply Kd.S_alloc | apply Kd.S_drewN | apply Kd.S_drew)); exact Kd.S_mono HO_6.out (fun k_ hk => ⟨trivial, fun e_ => hk.2 e_⟩))); (case aS => exact (below_size G.bel)); (case aL => have := LMc12.out; omega); intro v142 w17 ho hb hg hat; rw [← Ny141.out] at ho; have n0_ := Aside0.mk (hb); have n1_ := Aside0.mk (ho); clear HB; clear HO_6; clear HO140; have HB := n0_; have HO143 := n1_; clear n0_ n1_; clear ho hb hg hat))
               go_roundg k3
               case measure => have := HK1.out; have := HK2.out; have := HK3.out; omega
               case rel => exact ⟨(y141), (wrap64 (x23_3 + 1)), G.tr, H', ⟨by have := HK1.out; have := HK2.out; have := HK3.out; omega⟩, ⟨G.kS HO143.out⟩, ⟨G.bel⟩⟩
              ·rw [if_neg c12] at H
               exact absurd H (by simp)
             ·rw [if_neg c11] at H
              exact absurd H (by simp)
            ·rw [if_neg c10] at H
             exact absurd H (by simp)
           ·rw [if_neg c9] at H
            have c9b0 : decide (x23_3 < a0) = false := decide_eq_false c9
            clear c9
            have H' := Aside0.mk H
            clear H
            go_wp2
            go_roundg k3
            case measure => have := HK1.out; have := HK2.out; have := HK3.out; omega
            case rel => exact ⟨(x6_3), (wrap64 (x18_2 + 1)), G.tr, H', ⟨by have := HK1.out; have := HK2.out; have := HK3.out; omega⟩, ⟨G.kS HO_6.out⟩, ⟨G.bel⟩⟩
        ·rw [if_neg c8] at H
         exact absurd H (by simp)
       ·rw [if_neg c7] at H
        exact absurd H (by simp)
      ·rw [if_neg c6] at H
       have c6b0 : decide (x18_2 < (x5_1.length : Int)) = false := decide_eq_false c6
       clear c6
       have H' := Aside0.mk H
       clear H
       go_wp2
       go_roundg k2
       case measure => have := HK1.out; have := HK2.out; omega
       case rel => exact ⟨(x6_2), (wrap64 (x13_1 + 1)), G.tr, H', ⟨by have := HK1.out; have := HK2.out; omega⟩, ⟨Kd.S_lower (G.kS HO_6.out) HBo.out.size⟩, ⟨below_step HBo.out G.bel⟩⟩
   ·rw [if_neg c3] at H
    have c3b0 : decide (x13_1 < a1) = false := decide_eq_false c3
    clear c3
    obtain rfl := Option.some.inj H
    go_wp2
    go_ret
    exact ⟨_, G.er, G.kS HO_5.out, G.bel⟩

/-! ### impl_LyndonWords: all Lyndon words, handed on out of all words (the print's lines, rows told apart) -/
-- lib: G0 GHand
-- num: RL=def rd_L(\d+) \(xs : List \(List Int\)\) \(i : Int\)
mutual
def impl_LyndonWords.j0 : Nat → Int → Int → Bool → Option ((List (List Int)) × Bool)
 | 0, _, _, _ => none
 | k + 1, x0, x1, x28 => if x28 = true then (some ((([] : List (List Int))), false)) else ((impl_allWords.f k x0 x1).bind fun t173 => (impl_LyndonWords.l0 k (([] : List (List Int))) t173 (t173.length : Int) 0))
def impl_LyndonWords.l0 : Nat → List (List Int) → List (List Int) → Int → Int → Option ((List (List Int)) × Bool)
 | 0, _, _, _, _ => none
 | k + 1, x6, x33, x34, x35 => if x35 < x34 then (if 0 ≤ x35 then (if x35 < (x33.length : Int) then ((impl_IsLyndon.f k (rd_L1 x33 x35)).bind fun t177 => (if t177 = true then (if x6.length < 5864062014805 then (impl_LyndonWords.l0 k (x6 ++ [rd_L1 x33 x35]) x33 x34 (wrap64 (x35 + 1))) else (none)) else (impl_LyndonWords.l0 k x6 x33 x34 (wrap64 (x35 + 1))))) else (none)) else (none)) else (some (x6, true))
end
def impl_LyndonWords.f (k : Nat) (a0 : Int) (a1 : Int) : Option ((List (List Int)) × Bool) := if a0 < 1 then (impl_LyndonWords.j0 k a0 a1 true) else (if a0 > 4 then (impl_LyndonWords.j0 k a0 a1 true) else (if a1 < 1 then (impl_LyndonWords.j0 k a0 a1 true) else (if a1 > 8 then (impl_LyndonWords.j0 k a0 a1 true) else ((impl_power.f k a0 a1).bind fun t166 => (impl_LyndonWords.j0 k a0 a1 (decide (t166 > 300)))))))
theorem impl_LyndonWords.mono_l : ∀ k, (∀ y0 y1 y2, LeO (impl_LyndonWords.j0 k y0 y1 y2) (impl_LyndonWords.j0 (k + 1) y0 y1 y2)) ∧ (∀ y0 y1 y2 y3, LeO (impl_LyndonWords.l0 k y0 y1 y2 y3) (impl_LyndonWords.l0 (k + 1) y0 y1 y2 y3))
 | 0 => ⟨fun _ _ _ r h => by simp [impl_LyndonWords.j0] at h, fun _ _ _ _ r h => by simp [impl_LyndonWords.l0] at h⟩
 | k + 1 => by
  obtain ⟨ih0, ih1⟩ := impl_LyndonWords.mono_l k
  refine ⟨?_, ?_⟩
  ·intro y0 y1 y2
   unfold impl_LyndonWords.j0
   repeat' first
   | (with_reducible exact ih0 _ _ _)
   | (with_reducible exact ih1 _ _ _ _)
   | (with_reducible exact impl_IsLyndon.mono _ _)
   | (with_reducible exact impl_allWords.mono _ _ _)
   | (with_reducible exact impl_power.mono _ _ _)
   | (with_reducible exact LeO.refl _)
   | (with_reducible exact LeO.none _)
   | (with_reducible refine LeO.ite ?_ ?_)
   | (with_reducible refine LeO.bind ?_ (fun _ => ?_))
   | exact ih0 _ _ _
   | exact ih1 _ _ _ _
   | exact impl_IsLyndon.mono _ _
   | exact impl_allWords.mono _ _ _
   | exact impl_power.mono _ _ _
   | exact LeO.none _
   | refine LeO.ite ?_ ?_
   | refine LeO.bind ?_ (fun _ => ?_)
  ·intro y0 y1 y2 y3
   unfold impl_LyndonWords.l0
   repeat' first
   | (with_reducible exact ih0 _ _ _)
   | (with_reducible exact ih1 _ _ _ _)
   | (with_reducible exact impl_IsLyndon.mono _ _)
   | (with_reducible exact impl_allWords.mono _ _ _)
   | (with_reducible exact impl_power.mono _ _ _)
   | (with_reducible exact LeO.refl _)
   | (with_reducible exact LeO.none _)
   | (with_reducible refine LeO.ite ?_ ?_)
   | (with_reducible refine LeO.bind ?_ (fun _ => ?_))
   | exact ih0 _ _ _
   | exact ih1 _ _ _ _
   | exact impl_IsLyndon.mono _ _
   | exact impl_allWords.mono _ _ _
   | exact impl_power.mono _ _ _
   | exact LeO.none _
   | refine LeO.ite ?_ ?_
   | refine LeO.bind ?_ (fun _ => ?_)
theorem impl_LyndonWords.mono : ∀ a0 a1 k, LeO (impl_LyndonWords.f k a0 a1) (impl_LyndonWords.f (k + 1) a0 a1) := by
 intro a0 a1 k
 obtain ⟨ih0, ih1⟩ := impl_LyndonWords.mono_l k
 unfold impl_LyndonWords.f
 repeat' first
   | (with_reducible exact ih0 _ _ _)
   | (with_reducible exact ih1 _ _ _ _)
   | (with_reducible exact impl_IsLyndon.mono _ _)
   | (with_reducible exact impl_allWords.mono _ _ _)
   | (with_reducible exact impl_power.mono _ _ _)
   | (with_reducible exact LeO.refl _)
   | (with_reducible exact LeO.none _)
   | (with_reducible refine LeO.ite ?_ ?_)
   | (with_reducible refine LeO.bind ?_ (fun _ => ?_))
   | exact ih0 _ _ _
   | exact ih1 _ _ _ _
   | exact impl_IsLyndon.mono _ _
   | exact impl_allWords.mono _ _ _
   | exact impl_power.mono _ _ _
   | exact LeO.none _
   | refine LeO.ite ?_ ?_
   | refine LeO.bind ?_ (fun _ => ?_)
set_option maxHeartbeats 8000000 in
set_option maxRecDepth 100000 in
theorem impl_LyndonWords.calls (k : Nat) (a0 : Int) (a1 : Int) (r1 : List (List Int)) (r2 : Bool) (w : World) (h : impl_LyndonWords.f k a0 a1 = some (r1, r2)) :
  Calls Try.prog 89 #[.int .i64 a0, .int .i64 a1] w fun e w' => ∃ v0_ : Value, e = .returned (.tuple #[v0_, .bool r2]) ∧ Kd.S (Kd.slice 3 (Kd.int .i64)) 22 w' w.heap.size (fun _ => True) v0_ r1 ∧ Below w.heap.size w w' := by
 have HB := Aside0.mk (Below.refl w.heap.size w)
 have H : (if a0 < 1 then (impl_LyndonWords.j0 k a0 a1 true) else (if a0 > 4 then (impl_LyndonWords.j0 k a0 a1 true) else (if a1 < 1 then (impl_LyndonWords.j0 k a0 a1 true) else (if a1 > 8 then (impl_LyndonWords.j0 k a0 a1 true) else ((impl_power.f k a0 a1).bind fun t166 => (impl_LyndonWords.j0 k a0 a1 (decide (t166 > 300)))))))) = some (r1, r2) := h
 clear h
 have HC3 := Aside0.mk H
 clear H
 go_enter Try.func89, Try.ntmps89
 go_upto_region 1 with (fail)
 go_cut [28] (fun v28 wc => ∃ (kq : Nat) (x28_2 : Bool), v28 = .bool x28_2 ∧ Aside0 (impl_LyndonWords.j0 kq a0 a1 x28_2 = some (r1, r2)) ∧ Aside0 (kq ≤ k) ∧ Aside0 (Below w.heap.size w wc))
 case first =>
  have H := HC3.out
  clear HC3
  by_cases c4 : a0 < 1
  ·rw [if_pos c4] at H
   have c4b0 : decide (a0 < 1) = true := decide_eq_true c4
   clear c4
   (first | rw [c4b0] | (simp only [i64_w, i32_w]; rw [c4b0]) | skip)
   have H' := Aside0.mk H
   clear H
   go_wp2
   go_meet
   case rel => exact ⟨_, (true), G.tr, H', ⟨by first | omega | exact Nat.le_refl _⟩, ⟨G.bel⟩⟩
  ·rw [if_neg c4] at H
   have c4b0 : decide (a0 < 1) = false := decide_eq_false c4
   clear c4
   (first | rw [c4b0] | (simp only [i64_w, i32_w]; rw [c4b0]) | skip)
   by_cases c5 : a0 > 4
   ·rw [if_pos c5] at H
    have c5b0 : decide (4 < a0) = true := decide_eq_true c5
    clear c5
    have H' := Aside0.mk H
    clear H
    go_wp2
    go_meet
    case rel => exact ⟨_, (true), G.tr, H', ⟨by first | omega | exact Nat.le_refl _⟩, ⟨G.bel⟩⟩
   ·rw [if_neg c5] at H
    have c5b0 : decide (4 < a0) = false := decide_eq_false c5
    clear c5
    by_cases c6 : a1 < 1
    ·rw [if_pos c6] at H
     have c6b0 : decide (a1 < 1) = true := decide_eq_true c6
     clear c6
     have H' := Aside0.mk H
     clear H
     go_wp2
     go_meet
     case rel => exact ⟨_, (true), G.tr, H', ⟨by first | omega | exact Nat.le_refl _⟩, ⟨G.bel⟩⟩
    ·rw [if_neg c6] at H
     have c6b0 : decide (a1 < 1) = false := decide_eq_false c6
     clear c6
     by_cases c7 : a1 > 8
     ·rw [if_pos c7] at H
      have c7b0 : decide (8 < a1) = true := decide_eq_true c7
      clear c7
      have H' := Aside0.mk H
      clear H
      go_wp2
      go_meet
      case rel => exact ⟨_, (true), G.tr, H', ⟨by first | omega | exact Nat.le_refl _⟩, ⟨G.bel⟩⟩
     ·rw [if_neg c7] at H
      have c7b0 : decide (8 < a1) = false := decide_eq_false c7
      clear c7
      obtain ⟨t166, A8, H⟩ := G.bx H
      have H' := Aside0.mk H
      clear H
      go_wp2_with (first | (go_at_call 144; (with_reducible refine (impl_power.calls k a0 a1 t166 _ A8.out).mono ?_); rintro e w' ⟨rfl, ⟨nd, rfl⟩⟩))
      go_meet
      case rel => exact ⟨_, (decide (t166 > 300)), G.tr, H', ⟨by first | omega | exact Nat.le_refl _⟩, ⟨G.bel⟩⟩
 case rest =>
  clear HC3
  try clear p2; try clear c4; try clear c4b0; try clear c5; try clear c5b0; try clear c6; try clear c6b0; try clear c7; try clear c7b0
  obtain ⟨kq, x28_2, rfl, HA, HJ2, HB⟩ := hcut
  cases kq with
  | zero => exact absurd HA.out (by simp [impl_LyndonWords.j0])
  | succ kj2 =>
   have H := HA.out
   clear HA
   simp only [impl_LyndonWords.j0] at H
   by_cases c9 : x28_2 = true
   ·subst c9
    rw [if_pos rfl] at H
    obtain ⟨y167, hy167⟩ : ∃ y_ : List (List Int), y_ = (([] : List (List Int))) := ⟨_, rfl⟩
    replace H : (some (y167, false)) = some (r1, r2) := by first | (rw [hy167]; with_reducible exact H) | (have H2_ := (Option.bind_some _ _).symm.trans H; rw [hy167]; with_reducible exact H2_) | (have H2_ := (Option.bind_some _ _).symm.trans H; with_reducible exact H2_) | with_reducible exact H | (rw [hy167]; exact H) | exact H
    have Ny167 := Aside0.mk hy167
    clear hy167
    simp only [Option.some.injEq, Prod.mk.injEq] at H
    obtain ⟨rfl, rfl⟩ := H
    go_wp2_with (first | ((with_reducible refine gate_dst (N := 29) rfl ?_); refine Kd.S_lit (Kd.slice 3 (Kd.int .i64)) _ 22 ?hg (N := 29) ?hd (xs := ([] : List (List Int))) (inner := []) (ok := fun _ => True) (okp := fun _ => True) ?hr ?hp (fun _ hk => hk) trivial (Below.refl _ _) (Nat.le_refl _) (by simp) ?_; (case hd => rfl); (case hg => rfl); (case hr => first | (go_simp; done) | (go_simp; rfl)); (case hp => exact (Reps.none _ _)); intro v168 w10 ho11 hb hg_ hnew_; clear hg_ hnew_; (first | rw [← Ny167.out] at ho11 | (simp only [Int.reduceToNat] at ho11; rw [← Ny167.out] at ho11)); have n0_ := Aside0.mk (Kd.S_lower ho11 (below_size G.bel)); have n1_ := Aside0.mk (below_step G.bel hb); clear HB; have HO169 := n0_; have HB := n1_; clear n0_ n1_; clear hb ho11))
    go_ret2
    exact ⟨_, G.er, G.kS HO169.out, G.bel⟩
   ·replace c9 := Bool.eq_false_iff.mpr c9
    subst c9
    rw [if_neg (show ¬ (false = true) by decide)] at H
    obtain ⟨y170, hy170⟩ : ∃ y_ : List (List Int), y_ = (([] : List (List Int))) := ⟨_, rfl⟩
    replace H : ((impl_allWords.f kj2 a0 a1).bind fun t173 => (impl_LyndonWords.l0 kj2 y170 t173 (t173.length : Int) 0)) = some (r1, r2) := by first | (rw [hy170]; with_reducible exact H) | (have H2_ := (Option.bind_some _ _).symm.trans H; rw [hy170]; with_reducible exact H2_) | (have H2_ := (Option.bind_some _ _).symm.trans H; with_reducible exact H2_) | with_reducible exact H | (rw [hy170]; exact H) | exact H
    have Ny170 := Aside0.mk hy170
    clear hy170
    obtain ⟨t173, A12, H⟩ := G.bx H
    have H' := Aside0.mk H
    clear H
    go_wp2_with (first | ((with_reducible refine gate_dst (N := 30) rfl ?_); refine Kd.S_lit (Kd.slice 3 (Kd.int .i64)) _ 22 ?hg (N := 30) ?hd (xs := ([] : List (List Int))) (inner := []) (ok := fun _ => True) (okp := fun _ => True) ?hr ?hp (fun _ hk => hk) trivial (Below.refl _ _) (Nat.le_refl _) (by simp) ?_; (case hd => rfl); (case hg => rfl); (case hr => first | (go_simp; done) | (go_simp; rfl)); (case hp => exact (Reps.none _ _)); intro v171 w13 ho14 hb hg_ hnew_; clear hg_ hnew_; (first | rw [← Ny170.out] at ho14 | (simp only [Int.reduceToNat] at ho14; rw [← Ny170.out] at ho14)); have n0_ := Aside0.mk (Kd.S_lower ho14 (below_size G.bel)); have n1_ := Aside0.mk (below_step G.bel hb); clear HB; have HO172 := n0_; have HB := n1_; clear n0_ n1_; clear hb ho14) | ((with_reducible refine gate_callee (f := 145) rfl ?_); refine goesL_ (some 33) rfl rfl Try.func145 (by kernel_rfl) rfl #[.int .i64 a0, .int .i64 a1] rfl G.ar ?_; (with_reducible refine (impl_allWords.calls kj2 a0 a1 t173 _ A12.out).mono ?_); rintro e w15 ⟨v174, rfl, ho0, hb⟩; refine ⟨_, rfl, ?_⟩; obtain ⟨b15_, hb15_, hbl15_⟩ := G.named hb; have HN_ := Aside0.mk (Kd.S_below (Kd.S_mono (ok' := fun k_ => k_ < b15_) (Kd.S_bound (G.kS HO172.out)) (fun k_ hk_ => by rw [hb15_]; exact hk_.2.2.1)) hb); rw [← hb15_] at ho0; obtain ⟨Ao16, co16, eo16⟩ := Kd.S_slice ho0; subst eo16; obtain ⟨own_, ho1_, ho2_, ho3_⟩ := G.S_split ho0; have HO1 := Aside0.mk ho1_; have HO2 := Aside0.mk ho2_; have HO3 := Aside0.mk ho3_; have HSA := Aside0.mk ho0; have HHD := Aside0.mk (show ∀ k_, (v171 : Value).ownBlock = some k_ → ¬ (b15_ ≤ k_ ∧ k_ < w15.heap.size) from fun k_ e_ h_ => Nat.lt_irrefl _ (Nat.lt_of_lt_of_le (HN_.out.choose_spec.1 k_ e_) h_.1)); have n0_ := Aside0.mk (Kd.S_mono (ok' := fun k_ => G.Taken own_ b15_ w15.heap.size 0 k_) HN_.out (fun k_ hk_ => .inl (fun h_ => Nat.lt_irrefl _ (Nat.lt_of_lt_of_le hk_ h_.1)))); have n2_ := Aside0.mk (below_step G.bel hb); have HKW := Aside0.mk (Kept.refl w15 (fun k_ => ¬ (b15_ ≤ k_ ∧ k_ < w15.heap.size))); have HW15 := Aside0.mk (Nat.le_trans (below_size G.bel) (Nat.le_of_eq hb15_.symm)); clear HO172; clear HB; have HO172 := n0_; have HB := n2_; clear n0_ n2_ HN_; clear ho0 ho1_ ho2_ ho3_ hb hb15_ hbl15_))
    go_loopg [6, 35] kj2 (fun kq v6 v35 w' => ∃ (x6_2 : List (List Int)) (x35_2 : Int), v35 = .int .i64 x35_2 ∧ Aside0 (impl_LyndonWords.l0 kq x6_2 t173 (t173.length : Int) x35_2 = some (r1, r2)) ∧ Aside0 (kq ≤ kj2) ∧ Aside0 (Kd.S (Kd.slice 3 (Kd.int .i64)) 22 w' w.heap.size (fun k_ => G.Taken own_ b15_ w15.heap.size x35_2 k_) v6 x6_2) ∧ Aside0 (∀ k_, (v6 : Value).ownBlock = some k_ → ¬ (b15_ ≤ k_ ∧ k_ < w15.heap.size)) ∧ Aside0 (Kept w15 w' (fun k_ => ¬ (b15_ ≤ k_ ∧ k_ < w15.heap.size))) ∧ Aside0 (Below w.heap.size w w'))
    case atStart => exact ⟨(y170), (0), G.tr, H', ⟨Nat.le_refl _⟩, ⟨G.kS HO172.out⟩, HHD, ⟨(by repeat (first | (with_reducible first | exact HKW.out | apply Kept.alloc | apply Kept.drewN | apply Kept.drew) | exact HKW.out))⟩, ⟨G.bel⟩⟩
    case round =>
     clear H'
     try clear c2; try clear p2; try clear c4; try clear c4b0; try clear c5; try clear c5b0; try clear c6; try clear c6b0; try clear c7; try clear c7b0; try clear c9; try clear p2
     clear HO172 HHD HKW HB
     obtain ⟨x6_2, x35_2, rfl, HA, HK2, HO_6, HHD, HKW, HB⟩ := hrel
     cases gk with
     | zero => exact absurd HA.out (by simp [impl_LyndonWords.l0])
     | succ k2 =>
      have H := HA.out
      clear HA
      simp only [impl_LyndonWords.l0] at H
      by_cases c17 : x35_2 < (t173.length : Int)
      ·rw [if_pos c17] at H
       have c17b0 : decide (x35_2 < (t173.length : Int)) = true := decide_eq_true c17
       clear c17
       by_cases c18 : 0 ≤ x35_2
       ·rw [if_pos c18] at H
        have c18b0 : decide (0 ≤ x35_2) = true := decide_eq_true c18
        clear c18
        by_cases c19 : x35_2 < (t173.length : Int)
        ·rw [if_pos c19] at H
         have c19b0 : decide (x35_2 < (t173.length : Int)) = true := decide_eq_true c19
         clear c19
         obtain ⟨t177, A20, H⟩ := G.bx H
         by_cases c21 : t177 = true
         ·subst c21
          rw [if_pos rfl] at H
          by_cases c22 : x6_2.length < 5864062014805
          ·rw [if_pos c22] at H
           have LMc22 := Aside0.mk c22
           clear c22
           obtain ⟨y178, hy178⟩ : ∃ y_ : List (List Int), y_ = (x6_2 ++ [rd_L1 t173 x35_2]) := ⟨_, rfl⟩
           replace H : (impl_LyndonWords.l0 k2 y178 t173 (t173.length : Int) (wrap64 (x35_2 + 1))) = some (r1, r2) := by first | (rw [hy178]; with_reducible exact H) | (have H2_ := (Option.bind_some _ _).symm.trans H; rw [hy178]; with_reducible exact H2_) | (have H2_ := (Option.bind_some _ _).symm.trans H; with_reducible exact H2_) | with_reducible exact H | (rw [hy178]; exact H) | exact H
           have Ny178 := Aside0.mk hy178
           clear hy178
           have H' := Aside0.mk H
           clear H
           have p176 : 0 ≤ (x35_2 : Int) := G.odt
           have q176 : x35_2 < (t173.length : Int) := G.odt
           obtain ⟨ad176, A176_0, c176_0, e176, hx176_0, hl176_0, hi176_0⟩ := at_L1 (Kd.S_reads' HSA.out).2.2 x35_2 p176 q176
           cases e176
           have hR_ := HO3.out ad176 x35_2.toNat _ _ _ rfl (by omega) hx176_0
           have hz_ : wrap64 (x35_2 + 1) = x35_2 + 1 := by have hm_ := (Kd.S_reads' HSA.out).2.2.2.1; exact G.w64 (by omega) (by omega)
           have HZ := Aside0.mk hz_
           have HP0 := Aside0.mk p176
           clear hz_
           replace hx176_0 := cell_kept hx176_0 HKW.out (fun h_ => h_ (by
            have e_ : (Value.slice (some ad176) t173.length co16).ownBlock = some (ad176.add x35_2.toNat).block := by rw [add_block]; simp [Value.ownBlock]
            exact ⟨Kd.S_base HSA.out _ e_, Kd.S_lt HSA.out _ e_⟩))
           have HL176_0 := Aside0.mk (show (Kd.int .i64).R 3 _ b15_ (own_ x35_2.toNat) (.slice A176_0 (rd_L1 t173 x35_2).length c176_0) (rd_L1 t173 x35_2) from Kd.R_kept hR_ HKW.out (fun k_ hk_ h_ => h_ (HO2.out _ _ hk_)))
           have HR176_0 := Aside0.mk (Kd.R_reads' HL176_0.out).2.2
           have HC176_0 := Aside0.mk hl176_0
           clear hi176_0 hl176_0 hR_
           replace p176 := eq_true p176
           replace q176 := eq_true q176
           go_wp2_with (first | ((with_reducible refine gate_callee (f := 84) rfl ?_); refine goesL_ (some 40) rfl rfl Try.func84 (by kernel_rfl) rfl #[.slice A176_0 (rd_L1 t173 x35_2).length c176_0] rfl G.ar ?_; (with_reducible refine (impl_IsLyndon.calls k2 _ _ (rd_L1 t173 x35_2) true _ ?side1 ?side2 A20.out).mono ?_); (case side1 => repeat (first | exact (by repeat (first | (with_reducible exact HR176_0.out) | (with_reducible refine Kd.C_alloc ?_ _) | (with_reducible refine Kd.C_drewN ?_ _) | (with_reducible refine Kd.C_drew ?_) | exact HR176_0.out)) | (with_reducible refine Kd.C_alloc ?_ _) | (with_reducible refine Kd.C_drewN ?_ _) | (with_reducible refine Kd.C_drew ?_))); (case side2 => exact HC176_0.out); rintro e w23 ⟨rfl, hb⟩; refine ⟨_, rfl, ?_⟩; have n0_ := Aside0.mk (Kd.S_below (G.kS HO_6.out) hb); have n1_ := Aside0.mk (Kept.below (S := (fun k_ => ¬ (b15_ ≤ k_ ∧ k_ < w15.heap.size))) (by repeat (first | (with_reducible first | exact HKW.out | apply Kept.alloc | apply Kept.drewN | apply Kept.drew) | exact HKW.out)) hb); have n2_ := Aside0.mk (Kd.R_below (G.kR HL176_0.out) hb); have n3_ := Aside0.mk (Kd.C_below (by repeat (first | (with_reducible exact HR176_0.out) | (with_reducible refine Kd.C_alloc ?_ _) | (with_reducible refine Kd.C_drewN ?_ _) | (with_reducible refine Kd.C_drew ?_) | exact HR176_0.out)) hb); have n4_ := Aside0.mk (below_step G.bel hb); clear HO_6; clear HKW; clear HL176_0; clear HR176_0; clear HB; have HO_6 := n0_; have HKW := n1_; have HL176_0 := n2_; have HR176_0 := n3_; have HB := n4_; clear n0_ n1_ n2_ n3_ n4_; (try clear hb); (try clear hb2); (try clear hk); (try clear hi)) | ((with_reducible refine gate_builtin (b := .append) (xs := #[.tmp 41, .tmp 43]) rfl ?_); at_builtin; refine Kd.S_append (Kd.slice 3 (Kd.int .i64)) (w0 := w) w.heap.size rfl (.tmp 41) (.tmp 43) 23 22 (.slice none 0 0) 24 rfl Try.underlying23 info22 rfl (by decide) (by omega) u6 x6_2 (rd_L1 t173 x35_2) [.slice A176_0 (rd_L1 t173 x35_2).length c176_0] (fun k_ => G.Taken own_ b15_ w15.heap.size (x35_2 + 1) k_) (own_ x35_2.toNat) rfl rfl ?aP (fun k_ hk_ => ⟨G.taken_in HP0.out hk_, fun e_ => HHD.out k_ e_.symm (HO2.out _ _ hk_)⟩) ?aF ?aO ?aB ?aS ?aL ?_; (case aP => exact Kd.M_row (Kd.R_lower (G.kR HL176_0.out) HW15.out)); (case aB => exact G.bel); (case aF => exact (fun k_ hk_ => .inl (fun h_ => Nat.lt_irrefl _ (Nat.lt_of_lt_of_le h_.2 (Nat.le_trans (show Kept w15 _ (fun k_ => ¬ (b15_ ≤ k_ ∧ k_ < w15.heap.size)) from by repeat (first | (with_reducible first | exact HKW.out | apply Kept.alloc | apply Kept.drewN | apply Kept.drew) | exact HKW.out)).1 hk_))))); (case aO => exact (Kd.S_mono (ok := fun k_ => G.Taken own_ b15_ w15.heap.size x35_2 k_) (G.kS HO_6.out) (fun k_ hk_ => ⟨G.taken_next hk_, G.taken_not HO1.out HO2.out HP0.out hk_⟩))); (case aS => exact (below_size G.bel)); (case aL => have := LMc22.out; omega); intro v179 w24 ho hb hg hat; rw [← Ny178.out] at ho; have n1_ := Aside0.mk (Kept.of_grown (S := (fun k_ => ¬ (b15_ ≤ k_ ∧ k_ < w15.heap.size))) hg (by repeat (first | (with_reducible first | exact HKW.out | apply Kept.alloc | apply Kept.drewN | apply Kept.drew) | exact HKW.out)) (fun k_ e_ => .inl (HHD.out k_ e_))); have nh_ := Aside0.mk (show ∀ k_, (v179 : Value).ownBlock = some k_ → ¬ (b15_ ≤ k_ ∧ k_ < w15.heap.size) from fun k_ e_ h_ => hat.elim (fun e2_ => HHD.out k_ (e2_.symm.trans e_) h_) (fun ⟨b_, e2_, h2_⟩ => by rw [e2_] at e_; injection e_ with e_; subst e_; exact Nat.lt_irrefl _ (Nat.lt_of_lt_of_le h_.2 (Nat.le_trans (show Kept w15 _ (fun k_ => ¬ (b15_ ≤ k_ ∧ k_ < w15.heap.size)) from by repeat (first | (with_reducible first | exact HKW.out | apply Kept.alloc | apply Kept.drewN | apply Kept.drew) | exact HKW.out)).1 h2_)))); have n2_ := Aside0.mk (hb); have n3_ := Aside0.mk (ho); clear HKW; clear HL176_0; clear HB; clear HO_6; clear HHD; have HKW := n1_; have HHD := nh_; have HB := n2_; have HO180 := n3_; clear n1_ nh_ n2_ n3_; clear ho hb hg hat))
           go_roundg k2
           case measure => have := HJ2.out; have := HK2.out; omega
           case rel => exact ⟨(y178), (wrap64 (x35_2 + 1)), G.tr, H', ⟨by have := HJ2.out; have := HK2.out; omega⟩, ⟨by rw [HZ.out]; (with_reducible repeat (first | apply Kd.S_alloc | apply Kd.S_drewN | apply Kd.S_drew)); exact HO180.out⟩, HHD, ⟨(by repeat (first | (with_reducible first | exact HKW.out | apply Kept.alloc | apply Kept.drewN | apply Kept.drew) | exact HKW.out))⟩, ⟨G.bel⟩⟩
          ·rw [if_neg c22] at H
           exact absurd H (by simp)
         ·replace c21 := Bool.eq_false_iff.mpr c21
          subst c21
          rw [if_neg (show ¬ (false = true) by decide)] at H
          have H' := Aside0.mk H
          clear H
          have p176 : 0 ≤ (x35_2 : Int) := G.odt
          have q176 : x35_2 < (t173.length : Int) := G.odt
          obtain ⟨ad176, A176_0, c176_0, e176, hx176_0, hl176_0, hi176_0⟩ := at_L1 (Kd.S_reads' HSA.out).2.2 x35_2 p176 q176
          cases e176
          have hR_ := HO3.out ad176 x35_2.toNat _ _ _ rfl (by omega) hx176_0
          have hz_ : wrap64 (x35_2 + 1) = x35_2 + 1 := by have hm_ := (Kd.S_reads' HSA.out).2.2.2.1; exact G.w64 (by omega) (by omega)
          have HZ := Aside0.mk hz_
          have HP0 := Aside0.mk p176
          clear hz_
          replace hx176_0 := cell_kept hx176_0 HKW.out (fun h_ => h_ (by
           have e_ : (Value.slice (some ad176) t173.length co16).ownBlock = some (ad176.add x35_2.toNat).block := by rw [add_block]; simp [Value.ownBlock]
           exact ⟨Kd.S_base HSA.out _ e_, Kd.S_lt HSA.out _ e_⟩))
          have HL176_0 := Aside0.mk (show (Kd.int .i64).R 3 _ b15_ (own_ x35_2.toNat) (.slice A176_0 (rd_L1 t173 x35_2).length c176_0) (rd_L1 t173 x35_2) from Kd.R_kept hR_ HKW.out (fun k_ hk_ h_ => h_ (HO2.out _ _ hk_)))
          have HR176_0 := Aside0.mk (Kd.R_reads' HL176_0.out).2.2
          have HC176_0 := Aside0.mk hl176_0
          clear hi176_0 hl176_0 hR_
          replace p176 := eq_true p176
          replace q176 := eq_true q176
          go_wp2_with (first | ((with_reducible refine gate_callee (f := 84) rfl ?_); refine goesL_ (some 40) rfl rfl Try.func84 (by kernel_rfl) rfl #[.slice A176_0 (rd_L1 t173 x35_2).length c176_0] rfl G.ar ?_; (with_reducible refine (impl_IsLyndon.calls k2 _ _ (rd_L1 t173 x35_2) false _ ?side1 ?side2 A20.out).mono ?_); (case side1 => repeat (first | exact (by repeat (first | (with_reducible exact HR176_0.out) | (with_reducible refine Kd.C_alloc ?_ _) | (with_reducible refine Kd.C_drewN ?_ _) | (with_reducible refine Kd.C_drew ?_) | exact HR176_0.out)) | (with_reducible refine Kd.C_alloc ?_ _) | (with_reducible refine Kd.C_drewN ?_ _) | (with_reducible refine Kd.C_drew ?_))); (case side2 => exact HC176_0.out); rintro e w25 ⟨rfl, hb⟩; refine ⟨_, rfl, ?_⟩; have n0_ := Aside0.mk (Kd.S_below (G.kS HO_6.out) hb); have n1_ := Aside0.mk (Kept.below (S := (fun k_ => ¬ (b15_ ≤ k_ ∧ k_ < w15.heap.size))) (by repeat (first | (with_reducible first | exact HKW.out | apply Kept.alloc | apply Kept.drewN | apply Kept.drew) | exact HKW.out)) hb); have n2_ := Aside0.mk (Kd.R_below (G.kR HL176_0.out) hb); have n3_ := Aside0.mk (Kd.C_below (by repeat (first | (with_reducible exact HR176_0.out) | (with_reducible refine Kd.C_alloc ?_ _) | (with_reducible refine Kd.C_drewN ?_ _) | (with_reducible refine Kd.C_drew ?_) | exact HR176_0.out)) hb); have n4_ := Aside0.mk (below_step G.bel hb); clear HO_6; clear HKW; clear HL176_0; clear HR176_0; clear HB; have HO_6 := n0_; have HKW := n1_; have HL176_0 := n2_; have HR176_0 := n3_; have HB := n4_; clear n0_ n1_ n2_ n3_ n4_; (try clear hb); (try clear hb2); (try clear hk); (try clear hi)))
          go_roundg k2
          case measure => have := HJ2.out; have := HK2.out; omega
          case rel => exact ⟨(x6_2), (wrap64 (x35_2 + 1)), G.tr, H', ⟨by have := HJ2.out; have := HK2.out; omega⟩, ⟨by rw [HZ.out]; exact Kd.S_mono (ok := fun k_ => G.Taken own_ b15_ w15.heap.size x35_2 k_) (G.kS HO_6.out) (fun k_ hk_ => G.taken_next hk_)⟩, HHD, ⟨(by repeat (first | (with_reducible first | exact HKW.out | apply Kept.alloc | apply Kept.drewN | apply Kept.drew) | exact HKW.out))⟩, ⟨G.bel⟩⟩
        ·rw [if_neg c19] at H
         exact absurd H (by simp)
       ·rw [if_neg c18] at H
        exact absurd H (by simp)
      ·rw [if_neg c17] at H
       have c17b0 : decide (x35_2 < (t173.length : Int)) = false := decide_eq_false c17
       clear c17
       simp only [Option.some.injEq, Prod.mk.injEq] at H
       obtain ⟨rfl, rfl⟩ := H
       go_wp2
       go_ret2
       exact ⟨_, G.er, by (with_reducible repeat (first | apply Kd.S_alloc | apply Kd.S_drewN | apply Kd.S_drew)); exact Kd.S_mono HO_6.out (fun _ _ => trivial), G.bel⟩

/-! ### spec_l11Power: function 146 -/
def spec_l11Power.l0 : Nat → Int → Int → Int → Int → Option (Int)
 | 0, _, _, _, _ => none
 | k + 1, x0, x1, x5, x6 => if x6 < x1 then (spec_l11Power.l0 k x0 x1 (wrap64 (x5 * x0)) (wrap64 (x6 + 1))) else (some x5)
def spec_l11Power.f (k : Nat) (a0 : Int) (a1 : Int) : Option (Int) := spec_l11Power.l0 k a0 a1 1 0
theorem spec_l11Power.mono_l : ∀ k, (∀ y0 y1 y2 y3, LeO (spec_l11Power.l0 k y0 y1 y2 y3) (spec_l11Power.l0 (k + 1) y0 y1 y2 y3))
 | 0 => fun _ _ _ _ r h => by simp [spec_l11Power.l0] at h
 | k + 1 => by
  have ih0 := spec_l11Power.mono_l k
  ·intro y0 y1 y2 y3
   unfold spec_l11Power.l0
   repeat' first
   | (with_reducible exact ih0 _ _ _ _)
   | (with_reducible exact LeO.refl _)
   | (with_reducible exact LeO.none _)
   | (with_reducible refine LeO.ite ?_ ?_)
   | (with_reducible refine LeO.bind ?_ (fun _ => ?_))
   | exact ih0 _ _ _ _
   | exact LeO.none _
   | refine LeO.ite ?_ ?_
   | refine LeO.bind ?_ (fun _ => ?_)
theorem spec_l11Power.mono : ∀ a0 a1 k, LeO (spec_l11Power.f k a0 a1) (spec_l11Power.f (k + 1) a0 a1) := by
 intro a0 a1 k
 have ih0 := spec_l11Power.mono_l k
 unfold spec_l11Power.f
 repeat' first
   | (with_reducible exact ih0 _ _ _ _)
   | (with_reducible exact LeO.refl _)
   | (with_reducible exact LeO.none _)
   | (with_reducible refine LeO.ite ?_ ?_)
   | (with_reducible refine LeO.bind ?_ (fun _ => ?_))
   | exact ih0 _ _ _ _
   | exact LeO.none _
   | refine LeO.ite ?_ ?_
   | refine LeO.bind ?_ (fun _ => ?_)
set_option maxHeartbeats 8000000 in
set_option maxRecDepth 100000 in
theorem spec_l11Power.calls (k : Nat) (a0 : Int) (a1 : Int) (r : Int) (w : World) (h : spec_l11Power.f k a0 a1 = some r) :
  Calls Try.prog 146 #[.int .i64 a0, .int .i64 a1] w fun e w' => e = .returned (.int .i64 r) ∧ Drawn0 w w' := by
 have H : (spec_l11Power.l0 k a0 a1 1 0) = some r := h
 clear h
 have H' := Aside0.mk H
 clear H
 go_enter Try.func146, Try.ntmps146
 go_wp2
 go_loopg [5, 6] k (fun kq v5 v6 w' => ∃ (x5_1 : Int) (x6_1 : Int), v5 = .int .i64 x5_1 ∧ v6 = .int .i64 x6_1 ∧ Aside0 (spec_l11Power.l0 kq a0 a1 x5_1 x6_1 = some r) ∧ Aside0 (kq ≤ k) ∧ Drawn0 w w')
 case atStart => exact ⟨(1), (0), G.tr, G.tr, H', ⟨Nat.le_refl _⟩, G.dn⟩
 case round =>
  clear H'
  try clear c1; try clear p2
  obtain ⟨x5_1, x6_1, rfl, rfl, HA, HK1, ⟨m1, rfl⟩⟩ := hrel
  cases gk with
  | zero => exact absurd HA.out (by simp [spec_l11Power.l0])
  | succ k1 =>
   have H := HA.out
   clear HA
   simp only [spec_l11Power.l0] at H
   by_cases c3 : x6_1 < a1
   ·rw [if_pos c3] at H
    have c3b0 : decide (x6_1 < a1) = true := decide_eq_true c3
    clear c3
    have H' := Aside0.mk H
    clear H
    go_wp2
    go_roundg k1
    case measure => have := HK1.out; omega
    case rel => exact ⟨(wrap64 (x5_1 * a0)), (wrap64 (x6_1 + 1)), G.tr, G.tr, H', ⟨by have := HK1.out; omega⟩, G.dn⟩
   ·rw [if_neg c3] at H
    have c3b0 : decide (x6_1 < a1) = false := decide_eq_false c3
    clear c3
    obtain rfl := Option.some.inj H
    go_wp2
    go_ret
    exact ⟨G.tr, G.dn⟩

/-! ### spec_l11Word: function 147 -/
def spec_l11Word.l0 : Nat → Int → Int → List Int → Int → Option (List Int)
 | 0, _, _, _, _ => none
 | k + 1, x0, x2, x7, x8 => if x8 ≥ 0 then (if x0 = 0 then (none) else (if 0 ≤ x8 then (if x8 < (x7.length : Int) then (spec_l11Word.l0 k x0 (wrap64 (Int.tdiv x2 x0)) (x7.set (x8 : Int).toNat (Int.tmod x2 x0)) (wrap64 (x8 - 1))) else (none)) else (none))) else (some x7)
def spec_l11Word.f (k : Nat) (a0 : Int) (a1 : Int) (a2 : Int) : Option (List Int) := if 0 ≤ a1 then (if (a1 : Int).toNat ≤ 35184372088832 then (spec_l11Word.l0 k a0 a2 (List.replicate (a1 : Int).toNat 0) (wrap64 (a1 - 1))) else (none)) else (none)
theorem spec_l11Word.mono_l : ∀ k, (∀ y0 y1 y2 y3, LeO (spec_l11Word.l0 k y0 y1 y2 y3) (spec_l11Word.l0 (k + 1) y0 y1 y2 y3))
 | 0 => fun _ _ _ _ r h => by simp [spec_l11Word.l0] at h
 | k + 1 => by
  have ih0 := spec_l11Word.mono_l k
  ·intro y0 y1 y2 y3
   unfold spec_l11Word.l0
   repeat' first
   | (with_reducible exact ih0 _ _ _ _)
   | (with_reducible exact LeO.refl _)
   | (with_reducible exact LeO.none _)
   | (with_reducible refine LeO.ite ?_ ?_)
   | (with_reducible refine LeO.bind ?_ (fun _ => ?_))
   | exact ih0 _ _ _ _
   | exact LeO.none _
   | refine LeO.ite ?_ ?_
   | refine LeO.bind ?_ (fun _ => ?_)
theorem spec_l11Word.mono : ∀ a0 a1 a2 k, LeO (spec_l11Word.f k a0 a1 a2) (spec_l11Word.f (k + 1) a0 a1 a2) := by
 intro a0 a1 a2 k
 have ih0 := spec_l11Word.mono_l k
 unfold spec_l11Word.f
 repeat' first
   | (with_reducible exact ih0 _ _ _ _)
   | (with_reducible exact LeO.refl _)
   | (with_reducible exact LeO.none _)
   | (with_reducible refine LeO.ite ?_ ?_)
   | (with_reducible refine LeO.bind ?_ (fun _ => ?_))
   | exact ih0 _ _ _ _
   | exact LeO.none _
   | refine LeO.ite ?_ ?_
   | refine LeO.bind ?_ (fun _ => ?_)
set_option maxHeartbeats 8000000 in
set_option maxRecDepth 100000 in
theorem spec_l11Word.calls (k : Nat) (a0 : Int) (a1 : Int) (a2 : Int) (r : List Int) (w : World) (h : spec_l11Word.f k a0 a1 a2 = some r) :
  Calls Try.prog 147 #[.int .i64 a0, .int .i64 a1, .int .i64 a2] w fun e w' => ∃ v0_ : Value, e = .returned (v0_) ∧ Kd.R (Kd.int .i64) 3 w' w.heap.size (fun _ => True) v0_ r ∧ Below w.heap.size w w' := by
 have HB := Aside0.mk (Below.refl w.heap.size w)
 have H : (if 0 ≤ a1 then (if (a1 : Int).toNat ≤ 35184372088832 then (spec_l11Word.l0 k a0 a2 (List.replicate (a1 : Int).toNat 0) (wrap64 (a1 - 1))) else (none)) else (none)) = some r := h
 clear h
 by_cases c4 : 0 ≤ a1
 ·rw [if_pos c4] at H
  have c4b0 := eq_true c4
  have c4b1 : decide (0 ≤ a1) = true := decide_eq_true c4
  clear c4
  by_cases c5 : (a1 : Int).toNat ≤ 35184372088832
  ·rw [if_pos c5] at H
   have c5b0 := eq_true c5
   have c5b1 : decide ((a1 : Int).toNat ≤ 35184372088832) = true := decide_eq_true c5
   clear c5
   obtain ⟨y722, hy722⟩ : ∃ y_ : List Int, y_ = (List.replicate (a1 : Int).toNat 0) := ⟨_, rfl⟩
   replace H : (spec_l11Word.l0 k a0 a2 y722 (wrap64 (a1 - 1))) = some r := by first | (rw [hy722]; with_reducible exact H) | (have H2_ := (Option.bind_some _ _).symm.trans H; rw [hy722]; with_reducible exact H2_) | (have H2_ := (Option.bind_some _ _).symm.trans H; with_reducible exact H2_) | with_reducible exact H | (rw [hy722]; exact H) | exact H
   have Ny722 := Aside0.mk hy722
   clear hy722
   have H' := Aside0.mk H
   clear H
   go_enter Try.func147, Try.ntmps147
   go_wp2_with (first | ((with_reducible refine gate_dst (N := 10) rfl ?_); refine Kd.R_make (Kd.int .i64) _ 3 rfl (N := 10) rfl 22 _ _ rfl a1 rfl rfl Try.underlying22 (.int .i64 0) 8 info3 rfl (by decide) (by omega) 0 (ok := fun _ => True) (okp := fun _ => True) rfl (fun _ hk => hk) trivial G.odt (Nat.le_trans (Nat.mul_le_mul_right _ (G.odt : a1.toNat ≤ 35184372088832)) (by omega)) (Below.refl _ _) (Nat.le_refl _) ?_; intro v723 w6 ho7 hb hg_ hnew_; clear hg_ hnew_; (first | rw [← Ny722.out] at ho7 | (simp only [Int.reduceToNat] at ho7; rw [← Ny722.out] at ho7)); have n0_ := Aside0.mk (Kd.R_lower ho7 (below_size G.bel)); have n1_ := Aside0.mk (below_step G.bel hb); clear HB; have HO724 := n0_; have HB := n1_; clear n0_ n1_; clear hb ho7))
   go_loopg [2, 8] k (fun kq v2 v8 w' => ∃ (x2_1 : Int) (x7_1 : List Int) (x8_1 : Int), v2 = .int .i64 x2_1 ∧ v8 = .int .i64 x8_1 ∧ Aside0 (spec_l11Word.l0 kq a0 x2_1 x7_1 x8_1 = some r) ∧ Aside0 (kq ≤ k) ∧ Aside0 (Kd.R (Kd.int .i64) 3 w' w.heap.size (fun _ => True) v723 x7_1) ∧ Aside0 (Below w.heap.size w w'))
   case atStart => exact ⟨(a2), (y722), (wrap64 (a1 - 1)), G.tr, G.tr, H', ⟨Nat.le_refl _⟩, ⟨G.kR HO724.out⟩, ⟨G.bel⟩⟩
   case round =>
    clear H'
    try clear c1; try clear p2; try clear c4; try clear c4b0; try clear c4b1; try clear c5; try clear c5b0; try clear c5b1; try clear p6
    obtain ⟨x2_1, x7_1, x8_1, rfl, rfl, HA, HK1, HO_7, HB⟩ := hrel
    cases gk with
    | zero => exact absurd HA.out (by simp [spec_l11Word.l0])
    | succ k1 =>
     have H := HA.out
     clear HA
     simp only [spec_l11Word.l0] at H
     by_cases c8 : x8_1 ≥ 0
     ·rw [if_pos c8] at H
      have c8b0 : decide (0 ≤ x8_1) = true := decide_eq_true c8
      clear c8
      by_cases c9 : a0 = 0
      ·rw [if_pos c9] at H
       exact absurd H (by simp)
      ·rw [if_neg c9] at H
       have c9b0 : (a0 == 0) = false := beq_eq_false_iff_ne.mpr c9
       have c9b1 : (a0 != 0) = true := bne_iff_ne.mpr c9
       by_cases c10 : 0 ≤ x8_1
       ·rw [if_pos c10] at H
        have c10b0 : decide (0 ≤ x8_1) = true := decide_eq_true c10
        clear c10
        by_cases c11 : x8_1 < (x7_1.length : Int)
        ·rw [if_pos c11] at H
         have c11b0 : decide (x8_1 < (x7_1.length : Int)) = true := decide_eq_true c11
         clear c11
         obtain ⟨y725, hy725⟩ : ∃ y_ : List Int, y_ = (x7_1.set (x8_1 : Int).toNat (Int.tmod x2_1 a0)) := ⟨_, rfl⟩
         replace H : (spec_l11Word.l0 k1 a0 (wrap64 (Int.tdiv x2_1 a0)) y725 (wrap64 (x8_1 - 1))) = some r := by first | (rw [hy725]; with_reducible exact H) | (have H2_ := (Option.bind_some _ _).symm.trans H; rw [hy725]; with_reducible exact H2_) | (have H2_ := (Option.bind_some _ _).symm.trans H; with_reducible exact H2_) | with_reducible exact H | (rw [hy725]; exact H) | exact H
         have Ny725 := Aside0.mk hy725
         clear hy725
         have H' := Aside0.mk H
         clear H
         have p12 : 0 ≤ (x8_1 : Int) := G.odt
         have q12 : (x8_1 : Int) < ((x7_1.length : Int) : Int) := G.odt
         obtain ⟨go12, co12, eo12, gb12, gl12, cl12, HG12⟩ := Kd.R_form HO_7.out (by omega)
         (first | cases eo12 | (injection eo12 with ea_ en_ ec_; (first | subst ea_ | (injection ea_ with ea_; subst ea_)); subst ec_; clear en_))
         have GB12 := Aside0.mk gb12
         have GG12 := Aside0.mk HG12
         clear gb12 gl12 HG12
         obtain ⟨hx12_0, hf12_0⟩ := Kd.R_celln 0 HO_7.out (x8_1 : Int) p12 q12
         replace p12 := eq_true p12
         replace q12 := eq_true q12
         have HP13 := Kd.R_putg HO_7.out (x8_1 : Int) (Int.tmod x2_1 a0)
         go_wp2_with (first | ((with_reducible refine gate_store (t := 3) (p := 22) rfl ?_); refine store_event (t := 3) (p := 22) (v := ?vo_w14) (w1 := (wr.setCell ⟨go12, (x8_1 : Int).toNat, none⟩ (.int .i64 (Int.tmod x2_1 a0)))) ?hg ?ho ?hn ?hr ?_; (case ho => rfl); (case hg => rfl); (case hn => rfl); (case hr => first | (go_simp; done) | (go_simp; rfl)); intro w14 hw; have hg : wr.grownBy w14 (some go12) := (by rw [hw]; exact HP13.2); have hp_ : Kd.R (Kd.int .i64) 3 w14 w.heap.size (fun _ => True) (.slice (some ⟨go12, 0, none⟩) x7_1.length co12) y725 := (by rw [hw, Ny725.out]; exact HP13.1); clear HP13; have n0_ := Aside0.mk (hp_); have n1_ := Aside0.mk ((by rw [hw]; exact below_set (HB.out) GB12.out : Below w.heap.size w w14)); clear HO_7; clear HB; have HO_7 := n0_; have HB := n1_; clear n0_ n1_; clear hg hw hp_))
         go_roundg k1
         case measure => have := HK1.out; omega
         case rel => exact ⟨(wrap64 (Int.tdiv x2_1 a0)), (y725), (wrap64 (x8_1 - 1)), G.tr, G.tr, H', ⟨by have := HK1.out; omega⟩, ⟨G.kR HO_7.out⟩, ⟨G.bel⟩⟩
        ·rw [if_neg c11] at H
         exact absurd H (by simp)
       ·rw [if_neg c10] at H
        exact absurd H (by simp)
     ·rw [if_neg c8] at H
      have c8b0 : decide (0 ≤ x8_1) = false := decide_eq_false c8
      clear c8
      obtain rfl := Option.some.inj H
      go_wp2
      go_ret
      exact ⟨_, G.er, G.kR HO_7.out, G.bel⟩
  ·rw [if_neg c5] at H
   exact absurd H (by simp)
 ·rw [if_neg c4] at H
  exact absurd H (by simp)

end Go.Proofs.Ytolikggioekalab.PFnLyndon
