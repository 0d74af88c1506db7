/- The Go functions that the law FnLyndon reaches (part 11): each as a Lean function, and that its code comes to these answers. No condition beyond those written. -/
import Derived.Test.YtolikggioekalabVGSlim
import Derived.Test.YtolikggioekalabVMFnLyndonx10
import Derived.Test.YtolikggioekalabVMFnLyndonx9
import Derived.Test.YtolikggioekalabVMFnLyndonx8
import Derived.Test.YtolikggioekalabVMFnLyndonx7
import Derived.Test.YtolikggioekalabVMFnLyndonx6
import Derived.Test.YtolikggioekalabVMFnLyndonx5
import Derived.Test.YtolikggioekalabVMFnLyndonx4
import Derived.Test.YtolikggioekalabVMFnLyndonx3
import Derived.Test.YtolikggioekalabVMFnLyndonx2
import Derived.Test.YtolikggioekalabVMFnLyndonx1
import Derived.Test.YtolikggioekalabVMFnLyndonx0
namespace Go.Proofs.Ytolikggioekalab.PFnLyndon
open Go.RowKit Go.Proofs.YtolikggioekalabW.PrintWords Go.Proofs.YtolikggioekalabW.PrintLast Go.Proofs.YtolikggioekalabW.PrintMore
attribute [local go_sem] max2_int min2_int max_two min_two max_three min_three max_four min_four   -- for this text's walks alone
set_option linter.unusedVariables false
set_option linter.unusedSimpArgs false

/-! ### impl_lyndon: function 142 -/
mutual
def impl_lyndon.l0 : Nat → List Int → List (List Int) → Int → Option ((List (List Int)))
 | 0, _, _, _ => none
 | k + 1, x0, x3, x4 => if x4 < (x0.length : Int) then (impl_lyndon.l1 k x0 x3 x4 x4 (wrap64 (x4 + 1))) else (some x3)
def impl_lyndon.l1 : Nat → List Int → List (List Int) → Int → Int → Int → Option ((List (List Int)))
 | 0, _, _, _, _, _ => none
 | k + 1, x0, x3, x4, x5, x6 => if x6 < (x0.length : Int) then (if 0 ≤ x5 then (if x5 < (x0.length : Int) then (if 0 ≤ x6 then (impl_lyndon.j2 k x0 x3 x4 x5 x6 (decide ((rd x0 x5) ≤ (rd x0 x6)))) else (none)) else (none)) else (none)) else (impl_lyndon.j2 k x0 x3 x4 x5 x6 false)
def impl_lyndon.j2 : Nat → List Int → List (List Int) → Int → Int → Int → Bool → Option ((List (List Int)))
 | 0, _, _, _, _, _, _ => none
 | k + 1, x0, x3, x4, x5, x6, x29 => if x29 = true then (if 0 ≤ x5 then (if x5 < (x0.length : Int) then (if 0 ≤ x6 then (if x6 < (x0.length : Int) then (if (rd x0 x5) < (rd x0 x6) then (impl_lyndon.l1 k x0 x3 x4 x4 (wrap64 (x6 + 1))) else (impl_lyndon.l1 k x0 x3 x4 (wrap64 (x5 + 1)) (wrap64 (x6 + 1)))) else (none)) else (none)) else (none)) else (none)) else (impl_lyndon.l2 k x0 x3 x4 x5 x6)
def impl_lyndon.l2 : Nat → List Int → List (List Int) → Int → Int → Int → Option ((List (List Int)))
 | 0, _, _, _, _, _ => none
 | k + 1, x0, x3, x4, x5, x6 => if x4 ≤ x5 then (if 0 ≤ x4 then (if x4 ≤ (wrap64 ((wrap64 (x4 + x6)) - x5)) then (if (wrap64 ((wrap64 (x4 + x6)) - x5)) ≤ (x0.length : Int) then (if x3.length < 5864062014805 then (impl_lyndon.l2 k x0 (x3 ++ [((x0.take ((wrap64 ((wrap64 (x4 + x6)) - x5)) : Int).toNat).drop (x4 : Int).toNat)]) (wrap64 (x4 + (wrap64 (x6 - x5)))) x5 x6) else (none)) else (none)) else (none)) else (none)) else (impl_lyndon.l0 k x0 x3 x4)
end
def impl_lyndon.f (k : Nat) (l0 : List Int) : Option ((List (List Int))) := impl_lyndon.l0 k l0 (([] : List (List Int))) 0
theorem impl_lyndon.mono_l : ∀ k, (∀ y0 y1 y2, LeO (impl_lyndon.l0 k y0 y1 y2) (impl_lyndon.l0 (k + 1) y0 y1 y2)) ∧ (∀ y0 y1 y2 y3 y4, LeO (impl_lyndon.l1 k y0 y1 y2 y3 y4) (impl_lyndon.l1 (k + 1) y0 y1 y2 y3 y4)) ∧ (∀ y0 y1 y2 y3 y4 y5, LeO (impl_lyndon.j2 k y0 y1 y2 y3 y4 y5) (impl_lyndon.j2 (k + 1) y0 y1 y2 y3 y4 y5)) ∧ (∀ y0 y1 y2 y3 y4, LeO (impl_lyndon.l2 k y0 y1 y2 y3 y4) (impl_lyndon.l2 (k + 1) y0 y1 y2 y3 y4))
 | 0 => ⟨fun _ _ _ r h => by simp [impl_lyndon.l0] at h, fun _ _ _ _ _ r h => by simp [impl_lyndon.l1] at h, fun _ _ _ _ _ _ r h => by simp [impl_lyndon.j2] at h, fun _ _ _ _ _ r h => by simp [impl_lyndon.l2] at h⟩
 | k + 1 => by
  obtain ⟨ih0, ih1, ih2, ih3⟩ := impl_lyndon.mono_l k
  refine ⟨?_, ?_, ?_, ?_⟩
  ·intro y0 y1 y2
   unfold impl_lyndon.l0
   repeat' first
   | (with_reducible exact ih0 _ _ _)
   | (with_reducible exact ih1 _ _ _ _ _)
   | (with_reducible exact ih2 _ _ _ _ _ _)
   | (with_reducible exact ih3 _ _ _ _ _)
   | (with_reducible exact LeO.refl _)
   | (with_reducible exact LeO.none _)
   | (with_reducible refine LeO.ite ?_ ?_)
   | (with_reducible refine LeO.bind ?_ (fun _ => ?_))
   | exact ih0 _ _ _
   | exact ih1 _ _ _ _ _
   | exact ih2 _ _ _ _ _ _
   | exact ih3 _ _ _ _ _
   | exact LeO.none _
   | refine LeO.ite ?_ ?_
   | refine LeO.bind ?_ (fun _ => ?_)
  ·intro y0 y1 y2 y3 y4
   unfold impl_lyndon.l1
   repeat' first
   | (with_reducible exact ih0 _ _ _)
   | (with_reducible exact ih1 _ _ _ _ _)
   | (with_reducible exact ih2 _ _ _ _ _ _)
   | (with_reducible exact ih3 _ _ _ _ _)
   | (with_reducible exact LeO.refl _)
   | (with_reducible exact LeO.none _)
   | (with_reducible refine LeO.ite ?_ ?_)
   | (with_reducible refine LeO.bind ?_ (fun _ => ?_))
   | exact ih0 _ _ _
   | exact ih1 _ _ _ _ _
   | exact ih2 _ _ _ _ _ _
   | exact ih3 _ _ _ _ _
   | exact LeO.none _
   | refine LeO.ite ?_ ?_
   | refine LeO.bind ?_ (fun _ => ?_)
  ·intro y0 y1 y2 y3 y4 y5
   unfold impl_lyndon.j2
   repeat' first
   | (with_reducible exact ih0 _ _ _)
   | (with_reducible exact ih1 _ _ _ _ _)
   | (with_reducible exact ih2 _ _ _ _ _ _)
   | (with_reducible exact ih3 _ _ _ _ _)
   | (with_reducible exact LeO.refl _)
   | (with_reducible exact LeO.none _)
   | (with_reducible refine LeO.ite ?_ ?_)
   | (with_reducible refine LeO.bind ?_ (fun _ => ?_))
   | exact ih0 _ _ _
   | exact ih1 _ _ _ _ _
   | exact ih2 _ _ _ _ _ _
   | exact ih3 _ _ _ _ _
   | exact LeO.none _
   | refine LeO.ite ?_ ?_
   | refine LeO.bind ?_ (fun _ => ?_)
  ·intro y0 y1 y2 y3 y4
   unfold impl_lyndon.l2
   repeat' first
   | (with_reducible exact ih0 _ _ _)
   | (with_reducible exact ih1 _ _ _ _ _)
   | (with_reducible exact ih2 _ _ _ _ _ _)
   | (with_reducible exact ih3 _ _ _ _ _)
   | (with_reducible exact LeO.refl _)
   | (with_reducible exact LeO.none _)
   | (with_reducible refine LeO.ite ?_ ?_)
   | (with_reducible refine LeO.bind ?_ (fun _ => ?_))
   | exact ih0 _ _ _
   | exact ih1 _ _ _ _ _
   | exact ih2 _ _ _ _ _ _
   | exact ih3 _ _ _ _ _
   | exact LeO.none _
   | refine LeO.ite ?_ ?_
   | refine LeO.bind ?_ (fun _ => ?_)
theorem impl_lyndon.mono : ∀ a0 k, LeO (impl_lyndon.f k a0) (impl_lyndon.f (k + 1) a0) := by
 intro a0 k
 obtain ⟨ih0, ih1, ih2, ih3⟩ := impl_lyndon.mono_l k
 unfold impl_lyndon.f
 repeat' first
   | (with_reducible exact ih0 _ _ _)
   | (with_reducible exact ih1 _ _ _ _ _)
   | (with_reducible exact ih2 _ _ _ _ _ _)
   | (with_reducible exact ih3 _ _ _ _ _)
   | (with_reducible exact LeO.refl _)
   | (with_reducible exact LeO.none _)
   | (with_reducible refine LeO.ite ?_ ?_)
   | (with_reducible refine LeO.bind ?_ (fun _ => ?_))
   | exact ih0 _ _ _
   | exact ih1 _ _ _ _ _
   | exact ih2 _ _ _ _ _ _
   | exact ih3 _ _ _ _ _
   | exact LeO.none _
   | refine LeO.ite ?_ ?_
   | refine LeO.bind ?_ (fun _ => ?_)
set_option maxHeartbeats 8000000 in
set_option maxRecDepth 100000 in
theorem impl_lyndon.calls (k : Nat) (P0_ : Nat → Prop) (A0 : Option Addr) (c0 : Nat) (l0 : List Int) (r : List (List Int)) (w : World) (hs0 : Kd.V (Kd.int .i64) 3 w w.heap.size (fun k_ => P0_ k_) (.slice A0 l0.length c0) l0) (h : impl_lyndon.f k l0 = some r) :
  Calls Try.prog 142 #[.slice A0 l0.length c0] w fun e w' => ∃ v0_ : Value, e = .returned (v0_) ∧ Kd.N (Kd.slice 3 (Kd.int .i64)) 22 w' w.heap.size (fun k_ => (P0_ k_ ∨ w.heap.size ≤ k_)) v0_ r ∧ Below w.heap.size w w' := by
 have HO0 := Aside0.mk (show Kd.V (Kd.int .i64) 3 w w.heap.size (fun k_ => (P0_ k_ ∨ w.heap.size ≤ k_)) (.slice A0 l0.length c0) l0 from Kd.V_mono hs0 (fun k_ hk => .inl hk))
 have HB := Aside0.mk (Below.refl w.heap.size w)
 have H : (impl_lyndon.l0 k l0 (([] : List (List Int))) 0) = some r := h
 clear h
 obtain ⟨y609, hy609⟩ : ∃ y_ : List (List Int), y_ = (([] : List (List Int))) := ⟨_, rfl⟩
 replace H : (impl_lyndon.l0 k l0 y609 0) = some r := by first | (rw [hy609]; with_reducible exact H) | (have H2_ := (Option.bind_some _ _).symm.trans H; rw [hy609]; with_reducible exact H2_) | (have H2_ := (Option.bind_some _ _).symm.trans H; with_reducible exact H2_) | with_reducible exact H | (rw [hy609]; exact H) | exact H
 have Ny609 := Aside0.mk hy609
 clear hy609
 have H' := Aside0.mk H
 clear H
 go_enter Try.func142, Try.ntmps142
 go_wp2_with (first | ((with_reducible refine gate_dst (N := 7) rfl ?_); refine Kd.N_lit (Kd.slice 3 (Kd.int .i64)) _ 22 ?hg (N' := 7) ?hd (xs := ([] : List (List Int))) (inner := []) (ok := (fun k_ => (P0_ k_ ∨ w.heap.size ≤ k_))) (okp := (fun k_ => (P0_ k_ ∨ w.heap.size ≤ k_))) ?hr ?hp (fun _ hk => hk) ((show ∀ k_, w.heap.size ≤ k_ → (fun k_ => (P0_ k_ ∨ w.heap.size ≤ k_)) k_ from fun k_ hk => (.inr (Nat.le_trans (below_size G.bel) hk))) _ (Nat.le_refl _)) (Below.refl _ _) (Nat.le_refl _) (by simp) ?_; (case hd => rfl); (case hg => rfl); (case hr => first | (go_simp; done) | (go_simp; rfl)); (case hp => exact (Reps.none _ _)); intro v610 w2 ho3 hb hg_ hnew_; clear hg_ hnew_; (first | rw [← Ny609.out] at ho3 | (simp only [Int.reduceToNat] at ho3; rw [← Ny609.out] at ho3)); have n0_ := Aside0.mk (Kd.V_elder' (G.kV HO0.out) (Kd.N_base ho3) hb); have n1_ := Aside0.mk (Kd.N_lower ho3 (below_size G.bel)); have n2_ := Aside0.mk (below_step G.bel hb); clear HO0; clear HB; have HO0 := n0_; have HO611 := n1_; have HB := n2_; clear n0_ n1_ n2_; clear hb ho3))
 repeat (go_quiet (first | ((with_reducible refine gate_dst (N := 7) rfl ?_); refine Kd.N_lit (Kd.slice 3 (Kd.int .i64)) _ 22 ?hg (N' := 7) ?hd (xs := ([] : List (List Int))) (inner := []) (ok := (fun k_ => (P0_ k_ ∨ w.heap.size ≤ k_))) (okp := (fun k_ => (P0_ k_ ∨ w.heap.size ≤ k_))) ?hr ?hp (fun _ hk => hk) ((show ∀ k_, w.heap.size ≤ k_ → (fun k_ => (P0_ k_ ∨ w.heap.size ≤ k_)) k_ from fun k_ hk => (.inr (Nat.le_trans (below_size G.bel) hk))) _ (Nat.le_refl _)) (Below.refl _ _) (Nat.le_refl _) (by simp) ?_; (case hd => rfl); (case hg => rfl); (case hr => first | (go_simp; done) | (go_simp; rfl)); (case hp => exact (Reps.none _ _)); intro v610 w2 ho3 hb hg_ hnew_; clear hg_ hnew_; (first | rw [← Ny609.out] at ho3 | (simp only [Int.reduceToNat] at ho3; rw [← Ny609.out] at ho3)); have n0_ := Aside0.mk (Kd.V_elder' (G.kV HO0.out) (Kd.N_base ho3) hb); have n1_ := Aside0.mk (Kd.N_lower ho3 (below_size G.bel)); have n2_ := Aside0.mk (below_step G.bel hb); clear HO0; clear HB; have HO0 := n0_; have HO611 := n1_; have HB := n2_; clear n0_ n1_ n2_; clear hb ho3)); try go_wp2_with (first | ((with_reducible refine gate_dst (N := 7) rfl ?_); refine Kd.N_lit (Kd.slice 3 (Kd.int .i64)) _ 22 ?hg (N' := 7) ?hd (xs := ([] : List (List Int))) (inner := []) (ok := (fun k_ => (P0_ k_ ∨ w.heap.size ≤ k_))) (okp := (fun k_ => (P0_ k_ ∨ w.heap.size ≤ k_))) ?hr ?hp (fun _ hk => hk) ((show ∀ k_, w.heap.size ≤ k_ → (fun k_ => (P0_ k_ ∨ w.heap.size ≤ k_)) k_ from fun k_ hk => (.inr (Nat.le_trans (below_size G.bel) hk))) _ (Nat.le_refl _)) (Below.refl _ _) (Nat.le_refl _) (by simp) ?_; (case hd => rfl); (case hg => rfl); (case hr => first | (go_simp; done) | (go_simp; rfl)); (case hp => exact (Reps.none _ _)); intro v610 w2 ho3 hb hg_ hnew_; clear hg_ hnew_; (first | rw [← Ny609.out] at ho3 | (simp only [Int.reduceToNat] at ho3; rw [← Ny609.out] at ho3)); have n0_ := Aside0.mk (Kd.V_elder' (G.kV HO0.out) (Kd.N_base ho3) hb); have n1_ := Aside0.mk (Kd.N_lower ho3 (below_size G.bel)); have n2_ := Aside0.mk (below_step G.bel hb); clear HO0; clear HB; have HO0 := n0_; have HO611 := n1_; have HB := n2_; clear n0_ n1_ n2_; clear hb ho3)))
 go_loopg [3, 4] k (fun kq v3 v4 w' => ∃ (x3_1 : List (List Int)) (x4_1 : Int), v4 = .int .i64 x4_1 ∧ Aside0 (impl_lyndon.l0 kq l0 x3_1 x4_1 = some r) ∧ Aside0 (kq ≤ k) ∧ Aside0 (Kd.V (Kd.int .i64) 3 w' w.heap.size (fun k_ => (P0_ k_ ∨ w.heap.size ≤ k_) ∧ some k_ ≠ (v3 : Value).ownBlock) (.slice A0 l0.length c0) l0) ∧ Aside0 (Kd.N (Kd.slice 3 (Kd.int .i64)) 22 w' w.heap.size (fun k_ => (P0_ k_ ∨ w.heap.size ≤ k_)) v3 x3_1) ∧ Aside0 (Below w.heap.size w w'))
 case atStart => exact ⟨(y609), (0), G.tr, H', ⟨Nat.le_refl _⟩, ⟨G.kV HO0.out⟩, ⟨G.kN HO611.out⟩, ⟨G.bel⟩⟩
 case round =>
  clear H'
  try clear c1; try clear p2
  obtain ⟨x3_1, x4_1, rfl, HA, HK1, HO_0, HO_3, HB⟩ := hrel
  cases gk with
  | zero => exact absurd HA.out (by simp [impl_lyndon.l0])
  | succ k1 =>
   have H := HA.out
   clear HA
   simp only [impl_lyndon.l0] at H
   by_cases c4 : x4_1 < (l0.length : Int)
   ·rw [if_pos c4] at H
    have c4b0 : decide (x4_1 < (l0.length : Int)) = true := decide_eq_true c4
    clear c4
    have H' := Aside0.mk H
    clear H
    go_wp2
    repeat (go_quiet (fail); try go_wp2)
    go_loopg [5, 6] k1 (fun kq v5 v6 w' => ∃ (x5_2 : Int) (x6_2 : Int), v5 = .int .i64 x5_2 ∧ v6 = .int .i64 x6_2 ∧ Aside0 (impl_lyndon.l1 kq l0 x3_1 x4_1 x5_2 x6_2 = some r) ∧ Aside0 (kq ≤ k1) ∧ Aside0 (Kd.V (Kd.int .i64) 3 w' w.heap.size (fun k_ => (P0_ k_ ∨ w.heap.size ≤ k_) ∧ some k_ ≠ (u3 : Value).ownBlock) (.slice A0 l0.length c0) l0) ∧ Aside0 (Kd.N (Kd.slice 3 (Kd.int .i64)) 22 w' w.heap.size (fun k_ => (P0_ k_ ∨ w.heap.size ≤ k_)) u3 x3_1) ∧ Aside0 (Below w.heap.size w w'))
    case atStart => exact ⟨(x4_1), (wrap64 (x4_1 + 1)), G.tr, G.tr, H', ⟨Nat.le_refl _⟩, ⟨G.kV HO_0.out⟩, ⟨G.kN HO_3.out⟩, ⟨G.bel⟩⟩
    case round =>
     clear H'
     try clear c1; try clear p2; try clear c4; try clear c4b0; try clear p2
     obtain ⟨x5_2, x6_2, rfl, rfl, HA, HK2, HO_0, HO_3, HB⟩ := hrel
     cases gk with
     | zero => exact absurd HA.out (by simp [impl_lyndon.l1])
     | succ k2 =>
      have H := HA.out
      clear HA
      simp only [impl_lyndon.l1] at H
      have HC5 := Aside0.mk H
      clear H
      go_upto_region 5 with (fail)
      repeat (go_quiet (fail); go_upto_region 5 with (fail))
      go_cut [29] (fun v29 wc => ∃ (kq : Nat) (x29_4 : Bool), v29 = .bool x29_4 ∧ Aside0 (impl_lyndon.j2 kq l0 x3_1 x4_1 x5_2 x6_2 x29_4 = some r) ∧ Aside0 (kq ≤ k2) ∧ Aside0 (Kd.V (Kd.int .i64) 3 wc w.heap.size (fun k_ => (P0_ k_ ∨ w.heap.size ≤ k_) ∧ some k_ ≠ (u3 : Value).ownBlock) (.slice A0 l0.length c0) l0) ∧ Aside0 (Kd.N (Kd.slice 3 (Kd.int .i64)) 22 wc w.heap.size (fun k_ => (P0_ k_ ∨ w.heap.size ≤ k_)) u3 x3_1) ∧ Aside0 (Below w.heap.size w wc))
      case first =>
       have H := HC5.out
       clear HC5
       by_cases c6 : x6_2 < (l0.length : Int)
       ·rw [if_pos c6] at H
        have c6b0 : decide (x6_2 < (l0.length : Int)) = true := decide_eq_true c6
        clear c6
        (first | rw [c6b0] | (simp only [i64_w, i32_w]; rw [c6b0]) | skip)
        by_cases c7 : 0 ≤ x5_2
        ·rw [if_pos c7] at H
         have c7b0 : decide (0 ≤ x5_2) = true := decide_eq_true c7
         clear c7
         by_cases c8 : x5_2 < (l0.length : Int)
         ·rw [if_pos c8] at H
          have c8b0 : decide (x5_2 < (l0.length : Int)) = true := decide_eq_true c8
          clear c8
          by_cases c9 : 0 ≤ x6_2
          ·rw [if_pos c9] at H
           have c9b0 : decide (0 ≤ x6_2) = true := decide_eq_true c9
           clear c9
           have H' := Aside0.mk H
           clear H
           have p612 : 0 ≤ (x5_2 : Int) := G.odt
           have q612 : x5_2 < (l0.length : Int) := G.odt
           obtain ⟨ad612, e612, hx612_0⟩ := Kd.at_int (Kd.V_reads' HO_0.out).2.2 x5_2 p612 q612
           cases e612
           replace p612 := eq_true p612
           replace q612 := eq_true q612
           have p613 : 0 ≤ (x6_2 : Int) := G.odt
           have q613 : x6_2 < (l0.length : Int) := G.odt
           obtain ⟨ad613, e613, hx613_0⟩ := Kd.at_int (Kd.V_reads' HO_0.out).2.2 x6_2 p613 q613
           obtain rfl : ad612 = ad613 := (by injection e613)
           replace p613 := eq_true p613
           replace q613 := eq_true q613
           go_wp2
           repeat (go_quiet (fail); try go_wp2)
           go_meet
           case rel => exact ⟨_, (decide ((rd l0 x5_2) ≤ (rd l0 x6_2))), G.tr, H', ⟨by have := HK1.out; have := HK2.out; first | omega | exact Nat.le_refl _⟩, ⟨G.kV HO_0.out⟩, ⟨G.kN HO_3.out⟩, ⟨G.bel⟩⟩
          ·rw [if_neg c9] at H
           exact absurd H (by simp)
         ·rw [if_neg c8] at H
          exact absurd H (by simp)
        ·rw [if_neg c7] at H
         exact absurd H (by simp)
       ·rw [if_neg c6] at H
        have c6b0 : decide (x6_2 < (l0.length : Int)) = false := decide_eq_false c6
        clear c6
        (first | rw [c6b0] | (simp only [i64_w, i32_w]; rw [c6b0]) | skip)
        have H' := Aside0.mk H
        clear H
        go_wp2
        repeat (go_quiet (fail); try go_wp2)
        go_meet
        case rel => exact ⟨_, (false), G.tr, H', ⟨by have := HK1.out; have := HK2.out; first | omega | exact Nat.le_refl _⟩, ⟨G.kV HO_0.out⟩, ⟨G.kN HO_3.out⟩, ⟨G.bel⟩⟩
      case rest =>
       clear HC5
       try clear c1; try clear p2; try clear c4; try clear c4b0; try clear c6; try clear c6b0; try clear p6; try clear q6; try clear hx6; try clear c7; try clear c7b0; try clear c8; try clear c8b0; try clear c9; try clear c9b0; try clear hx612_0; try clear hx613_0; try clear p2; try clear p612; try clear p613; try clear q612; try clear q613
       obtain ⟨kq, x29_4, rfl, HA, HJ4, HO_0, HO_3, HB⟩ := hcut
       cases kq with
       | zero => exact absurd HA.out (by simp [impl_lyndon.j2])
       | succ kj4 =>
        have H := HA.out
        clear HA
        simp only [impl_lyndon.j2] at H
        by_cases c10 : x29_4 = true
        ·subst c10
         rw [if_pos rfl] at H
         by_cases c11 : 0 ≤ x5_2
         ·rw [if_pos c11] at H
          have c11b0 : decide (0 ≤ x5_2) = true := decide_eq_true c11
          clear c11
          by_cases c12 : x5_2 < (l0.length : Int)
          ·rw [if_pos c12] at H
           have c12b0 : decide (x5_2 < (l0.length : Int)) = true := decide_eq_true c12
           clear c12
           by_cases c13 : 0 ≤ x6_2
           ·rw [if_pos c13] at H
            have c13b0 : decide (0 ≤ x6_2) = true := decide_eq_true c13
            clear c13
            by_cases c14 : x6_2 < (l0.length : Int)
            ·rw [if_pos c14] at H
             have c14b0 : decide (x6_2 < (l0.length : Int)) = true := decide_eq_true c14
             clear c14
             by_cases c15 : (rd l0 x5_2) < (rd l0 x6_2)
             ·rw [if_pos c15] at H
              have c15b0 : decide ((rd l0 x5_2) < (rd l0 x6_2)) = true := decide_eq_true c15
              clear c15
              have H' := Aside0.mk H
              clear H
              have p614 : 0 ≤ (x5_2 : Int) := G.odt
              have q614 : x5_2 < (l0.length : Int) := G.odt
              obtain ⟨ad614, e614, hx614_0⟩ := Kd.at_int (Kd.V_reads' HO_0.out).2.2 x5_2 p614 q614
              cases e614
              replace p614 := eq_true p614
              replace q614 := eq_true q614
              have p615 : 0 ≤ (x6_2 : Int) := G.odt
              have q615 : x6_2 < (l0.length : Int) := G.odt
              obtain ⟨ad615, e615, hx615_0⟩ := Kd.at_int (Kd.V_reads' HO_0.out).2.2 x6_2 p615 q615
              obtain rfl : ad614 = ad615 := (by injection e615)
              replace p615 := eq_true p615
              replace q615 := eq_true q615
              go_wp2
              repeat (go_quiet (fail); try go_wp2)
              go_roundg kj4
              case measure => have := HK1.out; have := HK2.out; have := HJ4.out; omega
              case rel => exact ⟨(x4_1), (wrap64 (x6_2 + 1)), G.tr, G.tr, H', ⟨by have := HK1.out; have := HK2.out; have := HJ4.out; omega⟩, ⟨G.kV HO_0.out⟩, ⟨G.kN HO_3.out⟩, ⟨G.bel⟩⟩
             ·rw [if_neg c15] at H
              have c15b0 : decide ((rd l0 x5_2) < (rd l0 x6_2)) = false := decide_eq_false c15
              clear c15
              have H' := Aside0.mk H
              clear H
              have p614 : 0 ≤ (x5_2 : Int) := G.odt
              have q614 : x5_2 < (l0.length : Int) := G.odt
              obtain ⟨ad614, e614, hx614_0⟩ := Kd.at_int (Kd.V_reads' HO_0.out).2.2 x5_2 p614 q614
              cases e614
              replace p614 := eq_true p614
              replace q614 := eq_true q614
              have p615 : 0 ≤ (x6_2 : Int) := G.odt
              have q615 : x6_2 < (l0.length : Int) := G.odt
              obtain ⟨ad615, e615, hx615_0⟩ := Kd.at_int (Kd.V_reads' HO_0.out).2.2 x6_2 p615 q615
              obtain rfl : ad614 = ad615 := (by injection e615)
              replace p615 := eq_true p615
              replace q615 := eq_true q615
              go_wp2
              repeat (go_quiet (fail); try go_wp2)
              go_roundg kj4
              case measure => have := HK1.out; have := HK2.out; have := HJ4.out; omega
              case rel => exact ⟨(wrap64 (x5_2 + 1)), (wrap64 (x6_2 + 1)), G.tr, G.tr, H', ⟨by have := HK1.out; have := HK2.out; have := HJ4.out; omega⟩, ⟨G.kV HO_0.out⟩, ⟨G.kN HO_3.out⟩, ⟨G.bel⟩⟩
            ·rw [if_neg c14] at H
             exact absurd H (by simp)
           ·rw [if_neg c13] at H
            exact absurd H (by simp)
          ·rw [if_neg c12] at H
           exact absurd H (by simp)
         ·rw [if_neg c11] at H
          exact absurd H (by simp)
        ·replace c10 := Bool.eq_false_iff.mpr c10
         subst c10
         rw [if_neg (show ¬ (false = true) by decide)] at H
         have H' := Aside0.mk H
         clear H
         go_wp2
         repeat (go_quiet (fail); try go_wp2)
         go_loopg [3, 4] kj4 (fun kq v3 v4 w' => ∃ (x3_4 : List (List Int)) (x4_4 : Int), v4 = .int .i64 x4_4 ∧ Aside0 (impl_lyndon.l2 kq l0 x3_4 x4_4 x5_2 x6_2 = some r) ∧ Aside0 (kq ≤ kj4) ∧ Aside0 (Kd.V (Kd.int .i64) 3 w' w.heap.size (fun k_ => (P0_ k_ ∨ w.heap.size ≤ k_) ∧ some k_ ≠ (v3 : Value).ownBlock) (.slice A0 l0.length c0) l0) ∧ Aside0 (Kd.N (Kd.slice 3 (Kd.int .i64)) 22 w' w.heap.size (fun k_ => (P0_ k_ ∨ w.heap.size ≤ k_)) v3 x3_4) ∧ Aside0 (Below w.heap.size w w'))
         case atStart => exact ⟨(x3_1), (x4_1), G.tr, H', ⟨Nat.le_refl _⟩, ⟨G.kV HO_0.out⟩, ⟨G.kN HO_3.out⟩, ⟨G.bel⟩⟩
         case round =>
          clear H'
          try clear c1; try clear p2; try clear c4; try clear c4b0; try clear c6; try clear c6b0; try clear p6; try clear q6; try clear hx6; try clear c7; try clear c7b0; try clear c8; try clear c8b0; try clear c9; try clear c9b0; try clear c10; try clear c11; try clear c11b0; try clear c12; try clear c12b0; try clear c13; try clear c13b0; try clear c14; try clear c14b0; try clear c15; try clear c15b0; try clear hx612_0; try clear hx613_0; try clear hx614_0; try clear hx615_0; try clear p2; try clear p6; try clear p612; try clear p613; try clear p614; try clear p615; try clear q6; try clear q612; try clear q613; try clear q614; try clear q615
          obtain ⟨x3_4, x4_4, rfl, HA, HK4, HO_0, HO_3, HB⟩ := hrel
          cases gk with
          | zero => exact absurd HA.out (by simp [impl_lyndon.l2])
          | succ k4 =>
           have H := HA.out
           clear HA
           simp only [impl_lyndon.l2] at H
           by_cases c16 : x4_4 ≤ x5_2
           ·rw [if_pos c16] at H
            have c16b0 : decide (x4_4 ≤ x5_2) = true := decide_eq_true c16
            clear c16
            by_cases c17 : 0 ≤ x4_4
            ·rw [if_pos c17] at H
             have c17b0 := eq_true c17
             have c17b1 : decide (0 ≤ x4_4) = true := decide_eq_true c17
             clear c17
             by_cases c18 : x4_4 ≤ (wrap64 ((wrap64 (x4_4 + x6_2)) - x5_2))
             ·rw [if_pos c18] at H
              have c18b0 := eq_true c18
              have c18b1 : decide (x4_4 ≤ (wrap64 ((wrap64 (x4_4 + x6_2)) - x5_2))) = true := decide_eq_true c18
              by_cases c19 : (wrap64 ((wrap64 (x4_4 + x6_2)) - x5_2)) ≤ (l0.length : Int)
              ·rw [if_pos c19] at H
               have c19b0 := eq_true c19
               have c19b1 : decide ((wrap64 ((wrap64 (x4_4 + x6_2)) - x5_2)) ≤ (l0.length : Int)) = true := decide_eq_true c19
               obtain ⟨y616, hy616⟩ : ∃ y_ : List Int, y_ = ((l0.take ((wrap64 ((wrap64 (x4_4 + x6_2)) - x5_2)) : Int).toNat).drop (x4_4 : Int).toNat) := ⟨_, rfl⟩
               replace H : (if x3_4.length < 5864062014805 then (impl_lyndon.l2 k4 l0 (x3_4 ++ [y616]) (wrap64 (x4_4 + (wrap64 (x6_2 - x5_2)))) x5_2 x6_2) else (none)) = some r := by first | (rw [hy616]; with_reducible exact H) | (have H2_ := (Option.bind_some _ _).symm.trans H; rw [hy616]; with_reducible exact H2_) | (have H2_ := (Option.bind_some _ _).symm.trans H; with_reducible exact H2_) | with_reducible exact H | (rw [hy616]; exact H) | exact H
               have Ny616 := Aside0.mk hy616
               clear hy616
               by_cases c20 : x3_4.length < 5864062014805
               ·rw [if_pos c20] at H
                have LMc20 := Aside0.mk c20
                clear c20
                obtain ⟨y621, hy621⟩ : ∃ y_ : List (List Int), y_ = (x3_4 ++ [y616]) := ⟨_, rfl⟩
                replace H : (impl_lyndon.l2 k4 l0 y621 (wrap64 (x4_4 + (wrap64 (x6_2 - x5_2)))) x5_2 x6_2) = some r := by first | (rw [hy621]; with_reducible exact H) | (have H2_ := (Option.bind_some _ _).symm.trans H; rw [hy621]; with_reducible exact H2_) | (have H2_ := (Option.bind_some _ _).symm.trans H; with_reducible exact H2_) | with_reducible exact H | (rw [hy621]; exact H) | exact H
                have Ny621 := Aside0.mk hy621
                clear hy621
                have H' := Aside0.mk H
                clear H
                have q21 : ((wrap64 ((wrap64 (x4_4 + x6_2)) - x5_2)) : Int) ≤ ((l0.length : Int) : Int) := G.odt
                obtain ⟨i021, hi021, _, hsz21, _⟩ := info_parts info3
                have hroom21 : l0.length ≤ c0 := (Kd.V_reads' HO_0.out).2.1
                have hC21 : Kd.F (Kd.int .i64) _ _ A0 l0.length l0 := (Kd.V_at (base := w.heap.size) HO_0.out).2.2
                have ql21 : (x4_4 : Int) ≤ ((wrap64 ((wrap64 (x4_4 + x6_2)) - x5_2)) : Int) := G.odt
                have q021 : (0 : Int) ≤ (x4_4 : Int) := G.odt
                have hcut21 := cut_mid (P := Try.prog) 22 3 .i64 .i64 Try.underlying22 hi021 1 hsz21 A0 l0.length c0 x4_4 (wrap64 ((wrap64 (x4_4 + x6_2)) - x5_2)) q021 ql21 q21 hroom21
                have hr21 := Kd.F_mid (lo := (x4_4 : Int).toNat) (hi := ((wrap64 ((wrap64 (x4_4 + x6_2)) - x5_2)) : Int).toNat) (c := c0) hC21 (by omega) (by omega) hroom21
                obtain ⟨A21, hA21⟩ : ∃ A1, A1 = (if c0 = (x4_4 : Int).toNat then A0 else (A0 : Option Addr).map (·.add ((x4_4 : Int).toNat * 1))) := ⟨_, rfl⟩
                obtain ⟨c21, hc21⟩ : ∃ c1, c1 = c0 - (x4_4 : Int).toNat := ⟨_, rfl⟩
                have hy21 : y616.length = ((wrap64 ((wrap64 (x4_4 + x6_2)) - x5_2)) : Int).toNat - (x4_4 : Int).toNat := (by rw [Ny616.out, List.length_drop, List.length_take] <;> omega)
                rw [show ((l0).take ((wrap64 ((wrap64 (x4_4 + x6_2)) - x5_2)) : Int).toNat).drop (x4_4 : Int).toNat = y616 from Ny616.out.symm] at hr21
                replace hr21 : Kd.F (Kd.int .i64) _ _ A21 y616.length y616 := (by rw [hA21]; exact hr21)
                rw [← hy21, ← hA21, ← hc21] at hcut21
                have HO620 := Aside0.mk (show Kd.V (Kd.int .i64) 3 _ w.heap.size _ (.slice A21 y616.length c21) y616 from Kd.V_mk (by rw [hy21, hc21]; exact Nat.sub_le_sub_right (Nat.le_trans (by omega) hroom21) _) hr21)
                have HC620 := Aside0.mk (show y616.length ≤ c21 from by rw [hy21, hc21]; exact Nat.sub_le_sub_right (Nat.le_trans (by omega) hroom21) _)
                clear hr21 hC21 hroom21 hi021 hsz21 hc21
                have KY21 := Aside0.mk hy21
                have KA21 := Aside0.mk hA21
                clear hy21 hA21
                replace q21 := eq_true q21
                go_wp2_with (first | ((with_reducible refine gate_builtin (b := .append) (xs := #[.tmp 47, .tmp 56]) rfl ?_); at_builtin; refine Kd.N_append (Kd.slice 3 (Kd.int .i64)) (w0 := w) w.heap.size rfl (.tmp 47) (.tmp 56) 23 22 (.slice none 0 0) 24 rfl Try.underlying23 info22 rfl (by decide) (by omega) u3 x3_4 y616 [.slice A21 y616.length c21] (fun k_ => (P0_ k_ ∨ w.heap.size ≤ k_)) (fun k_ => ((fun k_ => (P0_ k_ ∨ w.heap.size ≤ k_))) k_ ∧ some k_ ≠ (u3 : Value).ownBlock) rfl rfl ?aP (fun _ hk => hk) ?aF ?aO ?aB ?aS ?aL ?_; (case aP => have HLm_ := Kd.V_mono (ok' := (fun k_ => ((fun k_ => (P0_ k_ ∨ w.heap.size ≤ k_))) k_ ∧ some k_ ≠ (u3 : Value).ownBlock)) (HO620.out) (fun k_ hk => ⟨hk.1, hk.2⟩); exact (Kd.FK_slice_mk (Kd.V_reads' HLm_).2.1 (Kd.V_F (by (with_reducible repeat (first | apply Kd.V_alloc | apply Kd.V_drewN | apply Kd.V_drew)); exact HLm_)))); (case aB => exact G.bel); (case aF => exact (fun k_ hk => (.inr (Nat.le_trans (below_size G.bel) hk)))); (case aO => exact (G.kN HO_3.out)); (case aS => exact (below_size G.bel)); (case aL => have := LMc20.out; omega); intro v622 w22 ho hb hg hat; rw [← Ny621.out] at ho; have n0_ := Aside0.mk (Kd.V_afterv (ok := (fun k_ => (P0_ k_ ∨ w.heap.size ≤ k_))) (G.kV HO_0.out) hg hat); have n1_ := Aside0.mk (Kd.V_afterv (ok := (fun k_ => (P0_ k_ ∨ w.heap.size ≤ k_))) (G.kV HO620.out) hg hat); have n2_ := Aside0.mk (hb); have n3_ := Aside0.mk (ho); clear HO_0; clear HO620; clear HB; clear HO_3; have HO_0 := n0_; have HO620 := n1_; have HB := n2_; have HO623 := n3_; clear n0_ n1_ n2_ n3_; clear ho hb hg hat))
                repeat (go_quiet (first | ((with_reducible refine gate_builtin (b := .append) (xs := #[.tmp 47, .tmp 56]) rfl ?_); at_builtin; refine Kd.N_append (Kd.slice 3 (Kd.int .i64)) (w0 := w) w.heap.size rfl (.tmp 47) (.tmp 56) 23 22 (.slice none 0 0) 24 rfl Try.underlying23 info22 rfl (by decide) (by omega) u3 x3_4 y616 [.slice A21 y616.length c21] (fun k_ => (P0_ k_ ∨ w.heap.size ≤ k_)) (fun k_ => ((fun k_ => (P0_ k_ ∨ w.heap.size ≤ k_))) k_ ∧ some k_ ≠ (u3 : Value).ownBlock) rfl rfl ?aP (fun _ hk => hk) ?aF ?aO ?aB ?aS ?aL ?_; (case aP => have HLm_ := Kd.V_mono (ok' := (fun k_ => ((fun k_ => (P0_ k_ ∨ w.heap.size ≤ k_))) k_ ∧ some k_ ≠ (u3 : Value).ownBlock)) (HO620.out) (fun k_ hk => ⟨hk.1, hk.2⟩); exact (Kd.FK_slice_mk (Kd.V_reads' HLm_).2.1 (Kd.V_F (by (with_reducible repeat (first | apply Kd.V_alloc | apply Kd.V_drewN | apply Kd.V_drew)); exact HLm_)))); (case aB => exact G.bel); (case aF => exact (fun k_ hk => (.inr (Nat.le_trans (below_size G.bel) hk)))); (case aO => exact (G.kN HO_3.out)); (case aS => exact (below_size G.bel)); (case aL => have := LMc20.out; omega); intro v622 w22 ho hb hg hat; rw [← Ny621.out] at ho; have n0_ := Aside0.mk (Kd.V_afterv (ok := (fun k_ => (P0_ k_ ∨ w.heap.size ≤ k_))) (G.kV HO_0.out) hg hat); have n1_ := Aside0.mk (Kd.V_afterv (ok := (fun k_ => (P0_ k_ ∨ w.heap.size ≤ k_))) (G.kV HO620.out) hg hat); have n2_ := Aside0.mk (hb); have n3_ := Aside0.mk (ho); clear HO_0; clear HO620; clear HB; clear HO_3; have HO_0 := n0_; have HO620 := n1_; have HB := n2_; have HO623 := n3_; clear n0_ n1_ n2_ n3_; clear ho hb hg hat)); try go_wp2_with (first | ((with_reducible refine gate_builtin (b := .append) (xs := #[.tmp 47, .tmp 56]) rfl ?_); at_builtin; refine Kd.N_append (Kd.slice 3 (Kd.int .i64)) (w0 := w) w.heap.size rfl (.tmp 47) (.tmp 56) 23 22 (.slice none 0 0) 24 rfl Try.underlying23 info22 rfl (by decide) (by omega) u3 x3_4 y616 [.slice A21 y616.length c21] (fun k_ => (P0_ k_ ∨ w.heap.size ≤ k_)) (fun k_ => ((fun k_ => (P0_ k_ ∨ w.heap.size ≤ k_))) k_ ∧ some k_ ≠ (u3 : Value).ownBlock) rfl rfl ?aP (fun _ hk => hk) ?aF ?aO ?aB ?aS ?aL ?_; (case aP => have HLm_ := Kd.V_mono (ok' := (fun k_ => ((fun k_ => (P0_ k_ ∨ w.heap.size ≤ k_))) k_ ∧ some k_ ≠ (u3 : Value).ownBlock)) (HO620.out) (fun k_ hk => ⟨hk.1, hk.2⟩); exact (Kd.FK_slice_mk (Kd.V_reads' HLm_).2.1 (Kd.V_F (by (with_reducible repeat (first | apply Kd.V_alloc | apply Kd.V_drewN | apply Kd.V_drew)); exact HLm_)))); (case aB => exact G.bel); (case aF => exact (fun k_ hk => (.inr (Nat.le_trans (below_size G.bel) hk)))); (case aO => exact (G.kN HO_3.out)); (case aS => exact (below_size G.bel)); (case aL => have := LMc20.out; omega); intro v622 w22 ho hb hg hat; rw [← Ny621.out] at ho; have n0_ := Aside0.mk (Kd.V_afterv (ok := (fun k_ => (P0_ k_ ∨ w.heap.size ≤ k_))) (G.kV HO_0.out) hg hat); have n1_ := Aside0.mk (Kd.V_afterv (ok := (fun k_ => (P0_ k_ ∨ w.heap.size ≤ k_))) (G.kV HO620.out) hg hat); have n2_ := Aside0.mk (hb); have n3_ := Aside0.mk (ho); clear HO_0; clear HO620; clear HB; clear HO_3; have HO_0 := n0_; have HO620 := n1_; have HB := n2_; have HO623 := n3_; clear n0_ n1_ n2_ n3_; clear ho hb hg hat)))
                go_roundg k4
                case measure => have := HK1.out; have := HK2.out; have := HJ4.out; have := HK4.out; omega
                case rel => exact ⟨(y621), (wrap64 (x4_4 + (wrap64 (x6_2 - x5_2)))), G.tr, H', ⟨by have := HK1.out; have := HK2.out; have := HJ4.out; have := HK4.out; omega⟩, ⟨G.kV HO_0.out⟩, ⟨G.kN HO623.out⟩, ⟨G.bel⟩⟩
               ·rw [if_neg c20] at H
                exact absurd H (by simp)
              ·rw [if_neg c19] at H
               exact absurd H (by simp)
             ·rw [if_neg c18] at H
              exact absurd H (by simp)
            ·rw [if_neg c17] at H
             exact absurd H (by simp)
           ·rw [if_neg c16] at H
            have c16b0 : decide (x4_4 ≤ x5_2) = false := decide_eq_false c16
            clear c16
            have H' := Aside0.mk H
            clear H
            go_wp2
            repeat (go_quiet (fail); try go_wp2)
            go_roundg k4
            case measure => have := HK1.out; have := HK2.out; have := HJ4.out; have := HK4.out; omega
            case rel => exact ⟨(x3_4), (x4_4), G.tr, H', ⟨by have := HK1.out; have := HK2.out; have := HJ4.out; have := HK4.out; omega⟩, ⟨G.kV HO_0.out⟩, ⟨G.kN HO_3.out⟩, ⟨G.bel⟩⟩
   ·rw [if_neg c4] at H
    have c4b0 : decide (x4_1 < (l0.length : Int)) = false := decide_eq_false c4
    clear c4
    obtain rfl := Option.some.inj H
    go_wp2
    repeat (go_quiet (fail); try go_wp2)
    go_ret
    exact ⟨_, G.er, G.kN HO_3.out, G.bel⟩

/-! ### impl_LyndonFactors: function 82 -/
def impl_LyndonFactors.l0 : Nat → List (List Int) → List (List Int) → Int → Int → Option ((List (List Int)))
 | 0, _, _, _, _ => none
 | k + 1, x3, x8, x9, x10 => if x10 < x9 then (if 0 ≤ x10 then (if x10 < (x8.length : Int) then ((some (([] : List Int) : List Int)).bind fun y631 => (if y631.length + (rd_L1 x8 x10).length < 17592186044416 then (if x3.length < 5864062014805 then (impl_LyndonFactors.l0 k (x3 ++ [(y631 ++ (rd_L1 x8 x10))]) x8 x9 (wrap64 (x10 + 1))) else (none)) else (none))) else (none)) else (none)) else (some x3)
def impl_LyndonFactors.f (k : Nat) (l0 : List Int) : Option ((List (List Int))) := (impl_lyndon.f k l0).bind fun t627 => (impl_LyndonFactors.l0 k (([] : List (List Int))) t627 (t627.length : Int) 0)
set_option maxHeartbeats 8000000 in
set_option maxRecDepth 100000 in
theorem impl_LyndonFactors.calls (k : Nat) (P0_ : Nat → Prop) (A0 : Option Addr) (c0 : Nat) (l0 : List Int) (r : List (List Int)) (w : World) (hs0 : Kd.V (Kd.int .i64) 3 w w.heap.size (fun k_ => P0_ k_) (.slice A0 l0.length c0) l0) (h : impl_LyndonFactors.f k l0 = some r) :
  Calls Try.prog 82 #[.slice A0 l0.length c0] w fun e w' => ∃ v0_ : Value, e = .returned (v0_) ∧ Kd.N (Kd.slice 3 (Kd.int .i64)) 22 w' w.heap.size (fun k_ => (P0_ k_ ∨ w.heap.size ≤ k_)) v0_ r ∧ Below w.heap.size w w' := by
 have HO0 := Aside0.mk (show Kd.V (Kd.int .i64) 3 w w.heap.size (fun k_ => (P0_ k_ ∨ w.heap.size ≤ k_)) (.slice A0 l0.length c0) l0 from Kd.V_mono hs0 (fun k_ hk => .inl hk))
 have HB := Aside0.mk (Below.refl w.heap.size w)
 have H : ((impl_lyndon.f k l0).bind fun t627 => (impl_LyndonFactors.l0 k (([] : List (List Int))) t627 (t627.length : Int) 0)) = some r := h
 clear h
 obtain ⟨y624, hy624⟩ : ∃ y_ : List (List Int), y_ = (([] : List (List Int))) := ⟨_, rfl⟩
 replace H : ((impl_lyndon.f k l0).bind fun t627 => (impl_LyndonFactors.l0 k y624 t627 (t627.length : Int) 0)) = some r := by first | (rw [hy624]; with_reducible exact H) | (have H2_ := (Option.bind_some _ _).symm.trans H; rw [hy624]; with_reducible exact H2_) | (have H2_ := (Option.bind_some _ _).symm.trans H; with_reducible exact H2_) | with_reducible exact H | (rw [hy624]; exact H) | exact H
 have Ny624 := Aside0.mk hy624
 clear hy624
 obtain ⟨t627, A2, H⟩ := G.bx H
 have H' := Aside0.mk H
 clear H
 go_enter Try.func82, Try.ntmps82
 go_wp2_with (first | ((with_reducible refine gate_dst (N := 6) rfl ?_); refine Kd.N_lit (Kd.slice 3 (Kd.int .i64)) _ 22 ?hg (N' := 6) ?hd (xs := ([] : List (List Int))) (inner := []) (ok := (fun k_ => (P0_ k_ ∨ w.heap.size ≤ k_))) (okp := (fun k_ => (P0_ k_ ∨ w.heap.size ≤ k_))) ?hr ?hp (fun _ hk => hk) ((show ∀ k_, w.heap.size ≤ k_ → (fun k_ => (P0_ k_ ∨ w.heap.size ≤ k_)) k_ from fun k_ hk => (.inr (Nat.le_trans (below_size G.bel) hk))) _ (Nat.le_refl _)) (Below.refl _ _) (Nat.le_refl _) (by simp) ?_; (case hd => rfl); (case hg => rfl); (case hr => first | (go_simp; done) | (go_simp; rfl)); (case hp => exact (Reps.none _ _)); intro v625 w3 ho4 hb hg_ hnew_; clear hg_ hnew_; (first | rw [← Ny624.out] at ho4 | (simp only [Int.reduceToNat] at ho4; rw [← Ny624.out] at ho4)); have n0_ := Aside0.mk (Kd.V_elder' (G.kV HO0.out) (Kd.N_base ho4) hb); have n1_ := Aside0.mk (Kd.N_lower ho4 (below_size G.bel)); have n2_ := Aside0.mk (below_step G.bel hb); clear HO0; clear HB; have HO0 := n0_; have HO626 := n1_; have HB := n2_; clear n0_ n1_ n2_; clear hb ho4) | ((with_reducible refine gate_callee (f := 142) rfl ?_); refine goesL_ (some 8) rfl rfl Try.func142 (by kernel_rfl) rfl #[.slice A0 l0.length c0] rfl G.ar ?_; (with_reducible refine (impl_lyndon.calls k (fun k_ => ((P0_ k_ ∨ w.heap.size ≤ k_) ∧ some k_ ≠ (v625 : Value).ownBlock)) _ _ l0 t627 _ ?side1 A2.out).mono ?_); (case side1 => exact HO0.out); rintro e w5 ⟨v628, rfl, ho0, hb⟩; refine ⟨_, rfl, ?_⟩; have n0_ := Aside0.mk (Kd.V_elder' (G.kV HO0.out) (Kd.N_base ho0) hb); have n1_ := Aside0.mk (Kd.N_elder' (G.kN HO626.out) (Kd.N_base ho0) hb); have n2_ := Aside0.mk (Kd.N_lower (Kd.N_mono (ok' := fun k_ => (P0_ k_ ∨ w.heap.size ≤ k_) ∧ some k_ ≠ (v625 : Value).ownBlock) ho0 (fun k_ hk_ => ⟨Or.elim hk_ (fun hs_ => hs_.1) (fun hn_ => (.inr (Nat.le_trans (below_size G.bel) hn_))), Or.elim hk_ (fun hs_ => hs_.2) (fun hn_ => (Kd.fresh' (Kd.N_lt (G.kN HO626.out)) k_ hn_))⟩)) (below_size G.bel)); have n3_ := Aside0.mk (below_step G.bel hb); clear HO0; clear HO626; clear HB; have HO0 := n0_; have HO626 := n1_; have HO629 := n2_; have HB := n3_; clear n0_ n1_ n2_ n3_; (try clear hb); (try clear hb2); (try clear hk); (try clear hi); (try clear ho0); obtain ⟨Ao6, co6, eo6⟩ := Kd.N_slice HO629.out; subst eo6))
 go_loopg [3, 10] k (fun kq v3 v10 w' => ∃ (x3_1 : List (List Int)) (x10_1 : Int), v10 = .int .i64 x10_1 ∧ Aside0 (impl_LyndonFactors.l0 kq x3_1 t627 (t627.length : Int) x10_1 = some r) ∧ Aside0 (kq ≤ k) ∧ Aside0 (Kd.N (Kd.slice 3 (Kd.int .i64)) 22 w' w.heap.size (fun k_ => (P0_ k_ ∨ w.heap.size ≤ k_) ∧ some k_ ≠ ((.slice Ao6 t627.length co6) : Value).ownBlock) v3 x3_1) ∧ Aside0 (Kd.N (Kd.slice 3 (Kd.int .i64)) 22 w' w.heap.size (fun k_ => (P0_ k_ ∨ w.heap.size ≤ k_) ∧ some k_ ≠ (v3 : Value).ownBlock) (.slice Ao6 t627.length co6) t627) ∧ Aside0 (Below w.heap.size w w'))
 case atStart => exact ⟨(y624), (0), G.tr, H', ⟨Nat.le_refl _⟩, ⟨G.kN HO626.out⟩, ⟨G.kN HO629.out⟩, ⟨G.bel⟩⟩
 case round =>
  clear H'
  try clear c1; try clear p2
  obtain ⟨x3_1, x10_1, rfl, HA, HK1, HO_3, HO_8, HB⟩ := hrel
  cases gk with
  | zero => exact absurd HA.out (by simp [impl_LyndonFactors.l0])
  | succ k1 =>
   have H := HA.out
   clear HA
   simp only [impl_LyndonFactors.l0] at H
   by_cases c7 : x10_1 < (t627.length : Int)
   ·rw [if_pos c7] at H
    have c7b0 : decide (x10_1 < (t627.length : Int)) = true := decide_eq_true c7
    clear c7
    by_cases c8 : 0 ≤ x10_1
    ·rw [if_pos c8] at H
     have c8b0 : decide (0 ≤ x10_1) = true := decide_eq_true c8
     clear c8
     by_cases c9 : x10_1 < (t627.length : Int)
     ·rw [if_pos c9] at H
      have c9b0 : decide (x10_1 < (t627.length : Int)) = true := decide_eq_true c9
      clear c9
      obtain ⟨y631, hy631⟩ : ∃ y_ : List Int, y_ = (([] : List Int)) := ⟨_, rfl⟩
      replace H : (if y631.length + (rd_L1 t627 x10_1).length < 17592186044416 then (if x3_1.length < 5864062014805 then (impl_LyndonFactors.l0 k1 (x3_1 ++ [(y631 ++ (rd_L1 t627 x10_1))]) t627 (t627.length : Int) (wrap64 (x10_1 + 1))) else (none)) else (none)) = some r := by first | (rw [hy631]; with_reducible exact H) | (have H2_ := (Option.bind_some _ _).symm.trans H; rw [hy631]; with_reducible exact H2_) | (have H2_ := (Option.bind_some _ _).symm.trans H; with_reducible exact H2_) | with_reducible exact H | (rw [hy631]; exact H) | exact H
      have Ny631 := Aside0.mk hy631
      clear hy631
      by_cases c10 : y631.length + (rd_L1 t627 x10_1).length < 17592186044416
      ·rw [if_pos c10] at H
       have LMc10 := Aside0.mk c10
       clear c10
       obtain ⟨y634, hy634⟩ : ∃ y_ : List Int, y_ = (y631 ++ (rd_L1 t627 x10_1)) := ⟨_, rfl⟩
       replace H : (if x3_1.length < 5864062014805 then (impl_LyndonFactors.l0 k1 (x3_1 ++ [y634]) t627 (t627.length : Int) (wrap64 (x10_1 + 1))) else (none)) = some r := by first | (rw [hy634]; with_reducible exact H) | (have H2_ := (Option.bind_some _ _).symm.trans H; rw [hy634]; with_reducible exact H2_) | (have H2_ := (Option.bind_some _ _).symm.trans H; with_reducible exact H2_) | with_reducible exact H | (rw [hy634]; exact H) | exact H
       have Ny634 := Aside0.mk hy634
       clear hy634
       by_cases c11 : x3_1.length < 5864062014805
       ·rw [if_pos c11] at H
        have LMc11 := Aside0.mk c11
        clear c11
        obtain ⟨y637, hy637⟩ : ∃ y_ : List (List Int), y_ = (x3_1 ++ [y634]) := ⟨_, rfl⟩
        replace H : (impl_LyndonFactors.l0 k1 y637 t627 (t627.length : Int) (wrap64 (x10_1 + 1))) = some r := by first | (rw [hy637]; with_reducible exact H) | (have H2_ := (Option.bind_some _ _).symm.trans H; rw [hy637]; with_reducible exact H2_) | (have H2_ := (Option.bind_some _ _).symm.trans H; with_reducible exact H2_) | with_reducible exact H | (rw [hy637]; exact H) | exact H
        have Ny637 := Aside0.mk hy637
        clear hy637
        have H' := Aside0.mk H
        clear H
        have p630 : 0 ≤ (x10_1 : Int) := G.odt
        have q630 : x10_1 < (t627.length : Int) := G.odt
        obtain ⟨ad630, A630_0, c630_0, e630, hx630_0, hl630_0, hi630_0⟩ := at_L1 (Kd.N_reads' HO_8.out).2.2 x10_1 p630 q630
        cases e630
        obtain ⟨ce630, hce630, hMe630, hcc630⟩ := Kd.N_get HO_8.out [] x10_1 p630 (by first | exact q630 | exact G.odt | (have e_ := (Kd.N_reads' HO_8.out).1; omega))
        obtain ⟨ua630_0, uc630_0, rfl, ul630_0, ge630_0⟩ := Kd.FK_slice_open hMe630
        have hv630_0 := hcc630 0 _ rfl
        rw [Nat.add_zero, show ((Kd.slice 3 (Kd.int .i64))).sz = 1 from rfl, Nat.mul_one] at hv630_0
        replace hv630_0 := Option.some.inj (hv630_0.symm.trans hx630_0)
        injection hv630_0 with hva_ hvn_ hvc_
        rw [hva_] at ge630_0
        rw [hvc_] at ul630_0
        have HL630_0 := Aside0.mk (show Kd.V (Kd.int .i64) 3 _ w.heap.size _ _ (rd_L1 t627 x10_1) from Kd.V_mk ul630_0 ge630_0)
        clear hva_ hvn_ hvc_ ge630_0 ul630_0
        clear hcc630 hce630
        have HR630_0 := Aside0.mk hi630_0
        have HC630_0 := Aside0.mk hl630_0
        clear hi630_0 hl630_0
        replace p630 := eq_true p630
        replace q630 := eq_true q630
        go_wp2_with (first | ((with_reducible refine gate_dst (N := 15) rfl ?_); refine Kd.R_lit (Kd.int .i64) _ 3 ?hg (N := 15) ?hd (xs := ([] : List Int)) (inner := []) (ok := fun _ => True) (okp := fun _ => True) ?hr ?hp (fun _ hk => hk) trivial (Below.refl _ _) (Nat.le_refl _) (by simp) ?_; (case hd => rfl); (case hg => rfl); (case hr => first | (go_simp; done) | (go_simp; rfl)); (case hp => exact (Reps.none _ _)); intro v632 w12 ho13 hb hg_ hnew_; clear hg_ hnew_; (first | rw [← Ny631.out] at ho13 | (simp only [Int.reduceToNat] at ho13; rw [← Ny631.out] at ho13)); have n0_ := Aside0.mk (Kd.N_elder' (G.kN HO_3.out) (Kd.R_base ho13) hb); have n1_ := Aside0.mk (Kd.N_elder' (G.kN HO_8.out) (Kd.R_base ho13) hb); have n2_ := Aside0.mk (Kd.V_elder' (G.kV HL630_0.out) (Kd.R_base ho13) hb); have n3_ := Aside0.mk (Kd.R_lower (Kd.R_newM (M := fun k_ => (w.heap.size ≤ k_)) ho13 (below_size G.bel) (fun k_ h_ => h_)) (below_size G.bel)); have n4_ := Aside0.mk (Kd.C_below (by repeat (first | (with_reducible exact HR630_0.out) | (with_reducible refine Kd.C_alloc ?_ _) | (with_reducible refine Kd.C_drewN ?_ _) | (with_reducible refine Kd.C_drew ?_) | exact HR630_0.out)) hb); have n5_ := Aside0.mk (below_step G.bel hb); clear HO_3; clear HO_8; clear HL630_0; clear HR630_0; clear HB; have HO_3 := n0_; have HO_8 := n1_; have HL630_0 := n2_; have HO633 := n3_; have HR630_0 := n4_; have HB := n5_; clear n0_ n1_ n2_ n3_ n4_ n5_; clear hb ho13) | ((with_reducible refine gate_builtin (b := .append) (xs := #[.tmp 15, .tmp 16]) rfl ?_); at_builtin; refine Kd.R_append_rows (Kd.int .i64) (w0 := w) w.heap.size rfl (.tmp 15) (.tmp 16) 22 3 (.int .i64 0) 8 rfl Try.underlying22 info3 rfl (by decide) (by omega) v632 y631 (rd_L1 t627 x10_1) _ _ _ (fun k_ => (w.heap.size ≤ k_)) (fun _ => False) rfl rfl ?aO ?aR (fun _ _ h => h) (fun _ h => h.elim) ?aF ?aB ?aS ?aL ?_; (case aR => repeat (first | exact (by repeat (first | (with_reducible exact HR630_0.out) | (with_reducible refine Kd.C_alloc ?_ _) | (with_reducible refine Kd.C_drewN ?_ _) | (with_reducible refine Kd.C_drew ?_) | exact HR630_0.out)) | (with_reducible refine Kd.C_alloc ?_ _) | (with_reducible refine Kd.C_drewN ?_ _) | (with_reducible refine Kd.C_drew ?_))); (case aB => exact G.bel); (case aF => exact (fun k_ hk => (Nat.le_trans (below_size G.bel) hk))); (case aO => exact (by (with_reducible repeat (first | apply Kd.R_alloc | apply Kd.R_drewN | apply Kd.R_drew)); exact Kd.R_mono HO633.out (fun _ hk => hk.1))); (case aS => exact (below_size G.bel)); (case aL => have := LMc10.out; omega); intro v635 w14 ho hb hg hat; rw [← Ny634.out] at ho; have n0_ := Aside0.mk (Kd.N_afterv (ok := (fun k_ => (P0_ k_ ∨ w.heap.size ≤ k_) ∧ some k_ ≠ (.slice (some ad630) t627.length co6 : Value).ownBlock)) (G.kN HO_3.out) hg hat); have n1_ := Aside0.mk (Kd.N_afterv (ok := (fun k_ => (P0_ k_ ∨ w.heap.size ≤ k_) ∧ some k_ ≠ (u3 : Value).ownBlock)) (G.kN HO_8.out) hg hat); have n2_ := Aside0.mk (Kd.V_afterv (ok := (fun k_ => (P0_ k_ ∨ w.heap.size ≤ k_) ∧ some k_ ≠ (u3 : Value).ownBlock ∧ some k_ ≠ (.slice (some ad630) t627.length co6 : Value).ownBlock)) (by (with_reducible repeat (first | apply Kd.V_alloc | apply Kd.V_drewN | apply Kd.V_drew)); exact Kd.V_mono HL630_0.out (fun _ hk => ⟨⟨hk.1.1.1, ⟨hk.1.1.2, hk.1.2⟩⟩, hk.2⟩)) hg hat); have n3_ := Aside0.mk (hb); have n4_ := Aside0.mk (ho); clear HO_3; clear HO_8; clear HL630_0; clear HB; clear HO633; have HO_3 := n0_; have HO_8 := n1_; have HL630_0 := n2_; have HB := n3_; have HO636 := n4_; clear n0_ n1_ n2_ n3_ n4_; clear ho hb hg hat; obtain ⟨Ao16, co16, eo16⟩ := Kd.R_slice HO636.out; subst eo16) | ((with_reducible refine gate_builtin (b := .append) (xs := #[.tmp 14, .tmp 18]) rfl ?_); at_builtin; refine Kd.N_append (Kd.slice 3 (Kd.int .i64)) (w0 := w) w.heap.size rfl (.tmp 14) (.tmp 18) 23 22 (.slice none 0 0) 24 rfl Try.underlying23 info22 rfl (by decide) (by omega) u3 x3_1 y634 [.slice Ao16 y634.length co16] (fun k_ => (P0_ k_ ∨ w.heap.size ≤ k_) ∧ some k_ ≠ (.slice (some ad630) t627.length co6 : Value).ownBlock) (fun k_ => ((fun k_ => (P0_ k_ ∨ w.heap.size ≤ k_) ∧ some k_ ≠ (.slice (some ad630) t627.length co6 : Value).ownBlock)) k_ ∧ some k_ ≠ (u3 : Value).ownBlock) rfl rfl ?aP (fun _ hk => hk) ?aF ?aO ?aB ?aS ?aL ?_; (case aP => exact (Kd.FK_slice_mk (Kd.R_reads' (Kd.R_mono (ok' := (fun k_ => ((fun k_ => (P0_ k_ ∨ w.heap.size ≤ k_) ∧ some k_ ≠ (.slice (some ad630) t627.length co6 : Value).ownBlock)) k_ ∧ some k_ ≠ (u3 : Value).ownBlock)) (Kd.R_apart' (Kd.R_apart' (HO636.out) (Kd.N_typed HO_8.out) (by decide)) (Kd.N_typed HO_3.out) (by decide)) (fun k_ hk => ⟨⟨(.inr (hk.1.1)), hk.1.2⟩, hk.2⟩))).2.1 (Kd.R_F (Kd.R_mono (ok' := (fun k_ => ((fun k_ => (P0_ k_ ∨ w.heap.size ≤ k_) ∧ some k_ ≠ (.slice (some ad630) t627.length co6 : Value).ownBlock)) k_ ∧ some k_ ≠ (u3 : Value).ownBlock)) (Kd.R_apart' (Kd.R_apart' (HO636.out) (Kd.N_typed HO_8.out) (by decide)) (Kd.N_typed HO_3.out) (by decide)) (fun k_ hk => ⟨⟨(.inr (hk.1.1)), hk.1.2⟩, hk.2⟩))))); (case aB => exact G.bel); (case aF => exact (fun k_ hk => ⟨(.inr (Nat.le_trans (below_size G.bel) hk)), Kd.fresh' (Kd.N_lt (G.kN HO_8.out)) k_ hk⟩)); (case aO => exact (by (with_reducible repeat (first | apply Kd.N_alloc | apply Kd.N_drewN | apply Kd.N_drew)); exact Kd.N_mono HO_3.out (fun _ hk => ⟨hk.1.1, hk.1.2⟩))); (case aS => exact (below_size G.bel)); (case aL => have := LMc11.out; omega); intro v638 w15 ho hb hg hat; rw [← Ny637.out] at ho; have n0_ := Aside0.mk (Kd.N_afterv (ok := (fun k_ => (P0_ k_ ∨ w.heap.size ≤ k_) ∧ some k_ ≠ (.slice Ao16 y634.length co16 : Value).ownBlock)) (by (with_reducible repeat (first | apply Kd.N_alloc | apply Kd.N_drewN | apply Kd.N_drew)); exact Kd.N_mono HO_8.out (fun _ hk => ⟨⟨hk.1.1, hk.2⟩, hk.1.2⟩)) hg hat); have n1_ := Aside0.mk (Kd.V_afterv (ok := (fun k_ => (P0_ k_ ∨ w.heap.size ≤ k_) ∧ some k_ ≠ (.slice (some ad630) t627.length co6 : Value).ownBlock ∧ some k_ ≠ (.slice Ao16 y634.length co16 : Value).ownBlock)) (by (with_reducible repeat (first | apply Kd.V_alloc | apply Kd.V_drewN | apply Kd.V_drew)); exact Kd.V_mono HL630_0.out (fun _ hk => ⟨⟨hk.1.1, ⟨hk.1.2.2, hk.2⟩⟩, hk.1.2.1⟩)) hg hat); have n2_ := Aside0.mk (hb); have n3_ := Aside0.mk (ho); clear HO_8; clear HL630_0; clear HB; clear HO_3; clear HO636; have HO_8 := n0_; have HL630_0 := n1_; have HB := n2_; have HO639 := n3_; clear n0_ n1_ n2_ n3_; clear ho hb hg hat))
        go_roundg k1
        case measure => have := HK1.out; omega
        case rel => exact ⟨(y637), (wrap64 (x10_1 + 1)), G.tr, H', ⟨by have := HK1.out; omega⟩, ⟨G.kN HO639.out⟩, ⟨by (with_reducible repeat (first | apply Kd.N_alloc | apply Kd.N_drewN | apply Kd.N_drew)); exact Kd.N_mono HO_8.out (fun _ hk => ⟨hk.1.1, hk.2⟩)⟩, ⟨G.bel⟩⟩
       ·rw [if_neg c11] at H
        exact absurd H (by simp)
      ·rw [if_neg c10] at H
       exact absurd H (by simp)
     ·rw [if_neg c9] at H
      exact absurd H (by simp)
    ·rw [if_neg c8] at H
     exact absurd H (by simp)
   ·rw [if_neg c7] at H
    have c7b0 : decide (x10_1 < (t627.length : Int)) = false := decide_eq_false c7
    clear c7
    obtain rfl := Option.some.inj H
    go_wp2
    go_ret
    exact ⟨_, G.er, by (with_reducible repeat (first | apply Kd.N_alloc | apply Kd.N_drewN | apply Kd.N_drew)); exact Kd.N_mono HO_3.out (fun _ hk => hk.1), G.bel⟩

end Go.Proofs.Ytolikggioekalab.PFnLyndon
