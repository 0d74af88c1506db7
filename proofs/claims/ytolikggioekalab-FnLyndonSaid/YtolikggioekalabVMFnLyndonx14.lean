/- The Go functions that the law FnLyndon reaches (part 14): each as a Lean function, and that its code comes to these answers. No condition beyond those written. -/
import Derived.Test.YtolikggioekalabVGSlim
import Derived.Test.YtolikggioekalabVMFnLyndonx11
import Derived.Test.YtolikggioekalabVMFnLyndonx10
import Derived.Test.YtolikggioekalabVMFnLyndonx9
import Derived.Test.YtolikggioekalabVMFnLyndonx8
import Derived.Test.YtolikggioekalabVMFnLyndonx7
import Derived.Test.YtolikggioekalabVMFnLyndonx6
import Derived.Test.YtolikggioekalabVMFnLyndonx5
import Derived.Test.YtolikggioekalabVMFnLyndonx3
import Derived.Test.YtolikggioekalabVMFnLyndonx2
import Derived.Test.YtolikggioekalabVMFnLyndonx1
import Derived.Test.YtolikggioekalabVMFnLyndonx0
import Derived.Test.YtolikggioekalabVMFnLyndonx4
import Derived.Test.YtolikggioekalabVMFnLyndonx12
import Derived.Test.YtolikggioekalabVMFnLyndonx13
namespace Go.Proofs.Ytolikggioekalab.PFnLyndon
open Go.RowKit Go.Proofs.YtolikggioekalabW.PrintWords Go.Proofs.YtolikggioekalabW.PrintLast Go.Proofs.YtolikggioekalabW.PrintMore
attribute [local go_sem] max2_int min2_int max_two min_two max_three min_three max_four min_four   -- for this text's walks alone
set_option linter.unusedVariables false
set_option linter.unusedSimpArgs false

/-! ### spec_LyndonWords: function 90 -/
mutual
def spec_LyndonWords.j0 : Nat → Int → Int → List (List Int) → Bool → Option ((List (List Int)) × Bool)
 | 0, _, _, _, _ => none
 | k + 1, x0, x1, x6, x23 => if x23 = true then (some (x6, false)) else (spec_LyndonWords.l0 k x0 x1 x6 0)
def spec_LyndonWords.l0 : Nat → Int → Int → List (List Int) → Int → Option ((List (List Int)) × Bool)
 | 0, _, _, _, _ => none
 | k + 1, x0, x1, x6, x7 => (spec_l11Power.f k x0 x1).bind fun t732 => (if x7 < t732 then ((spec_l11Word.f k x0 x1 x7).bind fun t733 => ((spec_IsLyndon.f k t733).bind fun t736 => (if t736 = true then (if x6.length < 5864062014805 then (spec_LyndonWords.l0 k x0 x1 (x6 ++ [t733]) (wrap64 (x7 + 1))) else (none)) else (spec_LyndonWords.l0 k x0 x1 x6 (wrap64 (x7 + 1)))))) else (some (x6, true)))
end
def spec_LyndonWords.f (k : Nat) (a0 : Int) (a1 : Int) : Option ((List (List Int)) × Bool) := (some (([] : List (List Int)) : List (List Int))).bind fun y726 => ((spec_l1In.f a0 1 4).bind fun t729 => (if t729 = true then ((spec_l1In.f a1 1 8).bind fun t730 => (if t730 = true then ((spec_l11Power.f k a0 a1).bind fun t731 => (spec_LyndonWords.j0 k a0 a1 y726 (decide (t731 > 300)))) else (spec_LyndonWords.j0 k a0 a1 y726 true))) else (spec_LyndonWords.j0 k a0 a1 y726 true)))
theorem spec_LyndonWords.mono_l : ∀ k, (∀ y0 y1 y2 y3, LeO (spec_LyndonWords.j0 k y0 y1 y2 y3) (spec_LyndonWords.j0 (k + 1) y0 y1 y2 y3)) ∧ (∀ y0 y1 y2 y3, LeO (spec_LyndonWords.l0 k y0 y1 y2 y3) (spec_LyndonWords.l0 (k + 1) y0 y1 y2 y3))
 | 0 => ⟨fun _ _ _ _ r h => by simp [spec_LyndonWords.j0] at h, fun _ _ _ _ r h => by simp [spec_LyndonWords.l0] at h⟩
 | k + 1 => by
  obtain ⟨ih0, ih1⟩ := spec_LyndonWords.mono_l k
  refine ⟨?_, ?_⟩
  ·intro y0 y1 y2 y3
   unfold spec_LyndonWords.j0
   repeat' first
   | (with_reducible exact ih0 _ _ _ _)
   | (with_reducible exact ih1 _ _ _ _)
   | (with_reducible exact spec_IsLyndon.mono _ _)
   | (with_reducible exact spec_l11Power.mono _ _ _)
   | (with_reducible exact spec_l11Word.mono _ _ _ _)
   | (with_reducible exact LeO.refl _)
   | (with_reducible exact LeO.none _)
   | (with_reducible refine LeO.ite ?_ ?_)
   | (with_reducible refine LeO.bind ?_ (fun _ => ?_))
   | exact ih0 _ _ _ _
   | exact ih1 _ _ _ _
   | exact spec_IsLyndon.mono _ _
   | exact spec_l11Power.mono _ _ _
   | exact spec_l11Word.mono _ _ _ _
   | exact LeO.none _
   | refine LeO.ite ?_ ?_
   | refine LeO.bind ?_ (fun _ => ?_)
  ·intro y0 y1 y2 y3
   unfold spec_LyndonWords.l0
   repeat' first
   | (with_reducible exact ih0 _ _ _ _)
   | (with_reducible exact ih1 _ _ _ _)
   | (with_reducible exact spec_IsLyndon.mono _ _)
   | (with_reducible exact spec_l11Power.mono _ _ _)
   | (with_reducible exact spec_l11Word.mono _ _ _ _)
   | (with_reducible exact LeO.refl _)
   | (with_reducible exact LeO.none _)
   | (with_reducible refine LeO.ite ?_ ?_)
   | (with_reducible refine LeO.bind ?_ (fun _ => ?_))
   | exact ih0 _ _ _ _
   | exact ih1 _ _ _ _
   | exact spec_IsLyndon.mono _ _
   | exact spec_l11Power.mono _ _ _
   | exact spec_l11Word.mono _ _ _ _
   | exact LeO.none _
   | refine LeO.ite ?_ ?_
   | refine LeO.bind ?_ (fun _ => ?_)
theorem spec_LyndonWords.mono : ∀ a0 a1 k, LeO (spec_LyndonWords.f k a0 a1) (spec_LyndonWords.f (k + 1) a0 a1) := by
 intro a0 a1 k
 obtain ⟨ih0, ih1⟩ := spec_LyndonWords.mono_l k
 unfold spec_LyndonWords.f
 repeat' first
   | (with_reducible exact ih0 _ _ _ _)
   | (with_reducible exact ih1 _ _ _ _)
   | (with_reducible exact spec_IsLyndon.mono _ _)
   | (with_reducible exact spec_l11Power.mono _ _ _)
   | (with_reducible exact spec_l11Word.mono _ _ _ _)
   | (with_reducible exact LeO.refl _)
   | (with_reducible exact LeO.none _)
   | (with_reducible refine LeO.ite ?_ ?_)
   | (with_reducible refine LeO.bind ?_ (fun _ => ?_))
   | exact ih0 _ _ _ _
   | exact ih1 _ _ _ _
   | exact spec_IsLyndon.mono _ _
   | exact spec_l11Power.mono _ _ _
   | exact spec_l11Word.mono _ _ _ _
   | exact LeO.none _
   | refine LeO.ite ?_ ?_
   | refine LeO.bind ?_ (fun _ => ?_)
set_option maxHeartbeats 8000000 in
set_option maxRecDepth 100000 in
theorem spec_LyndonWords.calls (k : Nat) (a0 : Int) (a1 : Int) (r1 : List (List Int)) (r2 : Bool) (w : World) (h : spec_LyndonWords.f k a0 a1 = some (r1, r2)) :
  Calls Try.prog 90 #[.int .i64 a0, .int .i64 a1] w fun e w' => ∃ v0_ : Value, e = .returned (.tuple #[v0_, .bool r2]) ∧ Kd.S (Kd.slice 3 (Kd.int .i64)) 22 w' w.heap.size (fun _ => True) v0_ r1 ∧ Below w.heap.size w w' := by
 have HB := Aside0.mk (Below.refl w.heap.size w)
 have H : ((some (([] : List (List Int)) : List (List Int))).bind fun y726 => ((spec_l1In.f a0 1 4).bind fun t729 => (if t729 = true then ((spec_l1In.f a1 1 8).bind fun t730 => (if t730 = true then ((spec_l11Power.f k a0 a1).bind fun t731 => (spec_LyndonWords.j0 k a0 a1 y726 (decide (t731 > 300)))) else (spec_LyndonWords.j0 k a0 a1 y726 true))) else (spec_LyndonWords.j0 k a0 a1 y726 true)))) = some (r1, r2) := h
 clear h
 obtain ⟨y726, hy726⟩ : ∃ y_ : List (List Int), y_ = (([] : List (List Int))) := ⟨_, rfl⟩
 replace H : ((spec_l1In.f a0 1 4).bind fun t729 => (if t729 = true then ((spec_l1In.f a1 1 8).bind fun t730 => (if t730 = true then ((spec_l11Power.f k a0 a1).bind fun t731 => (spec_LyndonWords.j0 k a0 a1 y726 (decide (t731 > 300)))) else (spec_LyndonWords.j0 k a0 a1 y726 true))) else (spec_LyndonWords.j0 k a0 a1 y726 true))) = some (r1, r2) := by first | (rw [hy726]; with_reducible exact H) | (have H2_ := (Option.bind_some _ _).symm.trans H; rw [hy726]; with_reducible exact H2_) | (have H2_ := (Option.bind_some _ _).symm.trans H; with_reducible exact H2_) | with_reducible exact H | (rw [hy726]; exact H) | exact H
 have Ny726 := Aside0.mk hy726
 clear hy726
 have HC3 := Aside0.mk H
 clear H
 go_enter Try.func90, Try.ntmps90
 go_upto_region 2 with (first | ((with_reducible refine gate_dst (N := 9) rfl ?_); refine Kd.S_lit (Kd.slice 3 (Kd.int .i64)) _ 22 ?hg (N := 9) ?hd (xs := ([] : List (List Int))) (inner := []) (ok := fun _ => True) (okp := fun _ => True) ?hr ?hp (fun _ hk => hk) trivial (Below.refl _ _) (Nat.le_refl _) (by simp) ?_; (case hd => rfl); (case hg => rfl); (case hr => first | (go_simp; done) | (go_simp; rfl)); (case hp => exact (Reps.none _ _)); intro v727 w4 ho5 hb hg_ hnew_; clear hg_ hnew_; (first | rw [← Ny726.out] at ho5 | (simp only [Int.reduceToNat] at ho5; rw [← Ny726.out] at ho5)); have n0_ := Aside0.mk (Kd.S_lower ho5 (below_size G.bel)); have n1_ := Aside0.mk (below_step G.bel hb); clear HB; have HO728 := n0_; have HB := n1_; clear n0_ n1_; clear hb ho5))
 (try simp only [Act.put, List.setIfInBounds_toArray, List.set_cons_zero, List.set_cons_succ])
 go_cut [23] (fun v23 wc => ∃ (kq : Nat) (x23_2 : Bool), v23 = .bool x23_2 ∧ Aside0 (spec_LyndonWords.j0 kq a0 a1 y726 x23_2 = some (r1, r2)) ∧ Aside0 (kq ≤ k) ∧ Aside0 (Kd.S (Kd.slice 3 (Kd.int .i64)) 22 wc w.heap.size (fun _ => True) v727 y726) ∧ Aside0 (Below w.heap.size w wc))
 case first =>
  have H := HC3.out
  clear HC3
  obtain ⟨t729, A6, H⟩ := G.bx H
  by_cases c7 : t729 = true
  ·subst c7
   rw [if_pos rfl] at H
   obtain ⟨t730, A8, H⟩ := G.bx H
   by_cases c9 : t730 = true
   ·subst c9
    rw [if_pos rfl] at H
    obtain ⟨t731, A10, H⟩ := G.bx H
    have H' := Aside0.mk H
    clear H
    go_wp2_with (first | ((with_reducible refine gate_callee (f := 111) rfl ?_); refine goesL_ (some 11) rfl rfl Try.func111 (by kernel_rfl) rfl #[.int .i64 a0, .int .i64 1, .int .i64 4] rfl G.ar ?_; (with_reducible refine (spec_l1In.calls a0 1 4 true _ A6.out).mono ?_); rintro e w' ⟨rfl, ⟨nd, rfl⟩⟩; refine ⟨_, rfl, ?_⟩) | (go_at_call 111; (with_reducible refine (spec_l1In.calls a1 1 8 true _ A8.out).mono ?_); rintro e w' ⟨rfl, ⟨nd, rfl⟩⟩) | (go_at_call 146; (with_reducible refine (spec_l11Power.calls k a0 a1 t731 _ A10.out).mono ?_); rintro e w' ⟨rfl, ⟨nd, rfl⟩⟩))
    go_meet
    case rel => exact ⟨_, (decide (t731 > 300)), G.tr, H', ⟨by first | omega | exact Nat.le_refl _⟩, ⟨G.kS HO728.out⟩, ⟨G.bel⟩⟩
   ·replace c9 := Bool.eq_false_iff.mpr c9
    subst c9
    rw [if_neg (show ¬ (false = true) by decide)] at H
    have H' := Aside0.mk H
    clear H
    go_wp2_with (first | ((with_reducible refine gate_callee (f := 111) rfl ?_); refine goesL_ (some 11) rfl rfl Try.func111 (by kernel_rfl) rfl #[.int .i64 a0, .int .i64 1, .int .i64 4] rfl G.ar ?_; (with_reducible refine (spec_l1In.calls a0 1 4 true _ A6.out).mono ?_); rintro e w' ⟨rfl, ⟨nd, rfl⟩⟩; refine ⟨_, rfl, ?_⟩) | (go_at_call 111; (with_reducible refine (spec_l1In.calls a1 1 8 false _ A8.out).mono ?_); rintro e w' ⟨rfl, ⟨nd, rfl⟩⟩))
    go_meet
    case rel => exact ⟨_, (true), G.tr, H', ⟨by first | omega | exact Nat.le_refl _⟩, ⟨G.kS HO728.out⟩, ⟨G.bel⟩⟩
  ·replace c7 := Bool.eq_false_iff.mpr c7
   subst c7
   rw [if_neg (show ¬ (false = true) by decide)] at H
   have H' := Aside0.mk H
   clear H
   go_wp2_with (first | ((with_reducible refine gate_callee (f := 111) rfl ?_); refine goesL_ (some 11) rfl rfl Try.func111 (by kernel_rfl) rfl #[.int .i64 a0, .int .i64 1, .int .i64 4] rfl G.ar ?_; (with_reducible refine (spec_l1In.calls a0 1 4 false _ A6.out).mono ?_); rintro e w' ⟨rfl, ⟨nd, rfl⟩⟩; refine ⟨_, rfl, ?_⟩))
   go_meet
   case rel => exact ⟨_, (true), G.tr, H', ⟨by first | omega | exact Nat.le_refl _⟩, ⟨G.kS HO728.out⟩, ⟨G.bel⟩⟩
 case rest =>
  clear HC3
  try clear c1; try clear p2; try clear c7; try clear c9
  obtain ⟨kq, x23_2, rfl, HA, HJ2, HO_6, HB⟩ := hcut
  cases kq with
  | zero => exact absurd HA.out (by simp [spec_LyndonWords.j0])
  | succ kj2 =>
   have H := HA.out
   clear HA
   simp only [spec_LyndonWords.j0] at H
   by_cases c11 : x23_2 = true
   ·subst c11
    rw [if_pos rfl] at H
    simp only [Option.some.injEq, Prod.mk.injEq] at H
    obtain ⟨rfl, rfl⟩ := H
    go_wp2
    go_ret2
    exact ⟨_, G.er, G.kS HO_6.out, G.bel⟩
   ·replace c11 := Bool.eq_false_iff.mpr c11
    subst c11
    rw [if_neg (show ¬ (false = true) by decide)] at H
    have H' := Aside0.mk H
    clear H
    go_wp2
    go_loopg [6, 7] kj2 (fun kq v6 v7 w' => ∃ (x6_2 : List (List Int)) (x7_2 : Int), v7 = .int .i64 x7_2 ∧ Aside0 (spec_LyndonWords.l0 kq a0 a1 x6_2 x7_2 = some (r1, r2)) ∧ Aside0 (kq ≤ kj2) ∧ Aside0 (Kd.S (Kd.slice 3 (Kd.int .i64)) 22 w' w.heap.size (fun _ => True) v6 x6_2) ∧ Aside0 (Below w.heap.size w w'))
    case atStart => exact ⟨(y726), (0), G.tr, H', ⟨Nat.le_refl _⟩, ⟨G.kS HO_6.out⟩, ⟨G.bel⟩⟩
    case round =>
     clear H'
     try clear c1; try clear p2; try clear c7; try clear c9; try clear c11; try clear p2
     obtain ⟨x6_2, x7_2, rfl, HA, HK2, HO_6, HB⟩ := hrel
     cases gk with
     | zero => exact absurd HA.out (by simp [spec_LyndonWords.l0])
     | succ k2 =>
      have H := HA.out
      clear HA
      simp only [spec_LyndonWords.l0] at H
      obtain ⟨t732, A12, H⟩ := G.bx H
      by_cases c13 : x7_2 < t732
      ·rw [if_pos c13] at H
       have c13b0 : decide (x7_2 < t732) = true := decide_eq_true c13
       clear c13
       obtain ⟨t733, A14, H⟩ := G.bx H
       obtain ⟨t736, A15, H⟩ := G.bx H
       by_cases c16 : t736 = true
       ·subst c16
        rw [if_pos rfl] at H
        by_cases c17 : x6_2.length < 5864062014805
        ·rw [if_pos c17] at H
         have LMc17 := Aside0.mk c17
         clear c17
         obtain ⟨y737, hy737⟩ : ∃ y_ : List (List Int), y_ = (x6_2 ++ [t733]) := ⟨_, rfl⟩
         replace H : (spec_LyndonWords.l0 k2 a0 a1 y737 (wrap64 (x7_2 + 1))) = some (r1, r2) := by first | (rw [hy737]; with_reducible exact H) | (have H2_ := (Option.bind_some _ _).symm.trans H; rw [hy737]; with_reducible exact H2_) | (have H2_ := (Option.bind_some _ _).symm.trans H; with_reducible exact H2_) | with_reducible exact H | (rw [hy737]; exact H) | exact H
         have Ny737 := Aside0.mk hy737
         clear hy737
         have H' := Aside0.mk H
         clear H
         go_wp2_with (first | ((with_reducible refine gate_callee (f := 146) rfl ?_); refine goesL_ (some 28) rfl rfl Try.func146 (by kernel_rfl) rfl #[.int .i64 a0, .int .i64 a1] rfl G.ar ?_; (with_reducible refine (spec_l11Power.calls k2 a0 a1 t732 _ A12.out).mono ?_); rintro e w' ⟨rfl, ⟨nd, rfl⟩⟩; refine ⟨_, rfl, ?_⟩) | ((with_reducible refine gate_callee (f := 147) rfl ?_); refine goesL_ (some 35) rfl rfl Try.func147 (by kernel_rfl) rfl #[.int .i64 a0, .int .i64 a1, .int .i64 x7_2] rfl G.ar ?_; (with_reducible refine (spec_l11Word.calls k2 a0 a1 x7_2 t733 _ A14.out).mono ?_); rintro e w18 ⟨v734, rfl, ho0, hb⟩; refine ⟨_, rfl, ?_⟩; have n0_ := Aside0.mk (Kd.S_elder' (G.kS HO_6.out) (Kd.R_base ho0) hb); have n1_ := Aside0.mk (Kd.R_lower ho0 (below_size G.bel)); have n2_ := Aside0.mk (below_step G.bel hb); clear HO_6; clear HB; have HO_6 := n0_; have HO735 := n1_; have HB := n2_; clear n0_ n1_ n2_; (try clear hb); (try clear hb2); (try clear hk); (try clear hi); (try clear ho0); obtain ⟨Ao19, co19, eo19⟩ := Kd.R_slice HO735.out; subst eo19) | ((with_reducible refine gate_callee (f := 85) rfl ?_); refine goesL_ (some 37) rfl rfl Try.func85 (by kernel_rfl) rfl #[.slice Ao19 t733.length co19] rfl G.ar ?_; (with_reducible refine (spec_IsLyndon.calls k2 _ _ t733 true _ ?side1 ?side2 A15.out).mono ?_); (case side1 => repeat (first | exact (Kd.R_reads' HO735.out).2.2 | (with_reducible refine Kd.C_alloc ?_ _) | (with_reducible refine Kd.C_drewN ?_ _) | (with_reducible refine Kd.C_drew ?_))); (case side2 => exact (Kd.R_reads' HO735.out).2.1); rintro e w' ⟨rfl, ⟨nd, rfl⟩⟩; refine ⟨_, rfl, ?_⟩) | ((with_reducible refine gate_builtin (b := .append) (xs := #[.tmp 38, .tmp 40]) rfl ?_); at_builtin; refine Kd.S_append (Kd.slice 3 (Kd.int .i64)) (w0 := w) w.heap.size rfl (.tmp 38) (.tmp 40) 23 22 (.slice none 0 0) 24 rfl Try.underlying23 info22 rfl (by decide) (by omega) u6 x6_2 t733 [.slice Ao19 t733.length co19] (fun _ => True) (fun k_ => some k_ = (.slice Ao19 t733.length co19 : Value).ownBlock) rfl rfl ?aP (fun k_ hk_ => ((Kd.R_mono (ok' := fun k_ => ((fun _ => True)) k_ ∧ some k_ ≠ (u6 : Value).ownBlock) (Kd.R_apart' (HO735.out) (Kd.S_typed HO_6.out) (by decide)) (fun k_ hk => ⟨trivial, hk.2⟩))).1 k_ hk_.symm) ?aF ?aO ?aB ?aS ?aL ?_; (case aP => exact Kd.M_row (Kd.R_mono (Kd.R_tight rfl (Kd.R_mono (ok' := fun k_ => ((fun _ => True)) k_ ∧ some k_ ≠ (u6 : Value).ownBlock) (Kd.R_apart' (HO735.out) (Kd.S_typed HO_6.out) (by decide)) (fun k_ hk => ⟨trivial, hk.2⟩))) (fun _ h_ => h_))); (case aB => exact G.bel); (case aF => exact (fun _ _ => trivial)); (case aO => exact (by (with_reducible repeat (first | apply Kd.S_alloc | apply Kd.S_drewN | apply Kd.S_drew)); exact Kd.S_mono HO_6.out (fun k_ hk => ⟨trivial, fun e_ => hk.2 e_⟩))); (case aS => exact (below_size G.bel)); (case aL => have := LMc17.out; omega); intro v738 w20 ho hb hg hat; rw [← Ny737.out] at ho; have n0_ := Aside0.mk (hb); have n1_ := Aside0.mk (ho); clear HB; clear HO_6; clear HO735; have HB := n0_; have HO739 := n1_; clear n0_ n1_; clear ho hb hg hat))
         go_roundg k2
         case measure => have := HJ2.out; have := HK2.out; omega
         case rel => exact ⟨(y737), (wrap64 (x7_2 + 1)), G.tr, H', ⟨by have := HJ2.out; have := HK2.out; omega⟩, ⟨G.kS HO739.out⟩, ⟨G.bel⟩⟩
        ·rw [if_neg c17] at H
         exact absurd H (by simp)
       ·replace c16 := Bool.eq_false_iff.mpr c16
        subst c16
        rw [if_neg (show ¬ (false = true) by decide)] at H
        have H' := Aside0.mk H
        clear H
        go_wp2_with (first | ((with_reducible refine gate_callee (f := 146) rfl ?_); refine goesL_ (some 28) rfl rfl Try.func146 (by kernel_rfl) rfl #[.int .i64 a0, .int .i64 a1] rfl G.ar ?_; (with_reducible refine (spec_l11Power.calls k2 a0 a1 t732 _ A12.out).mono ?_); rintro e w' ⟨rfl, ⟨nd, rfl⟩⟩; refine ⟨_, rfl, ?_⟩) | ((with_reducible refine gate_callee (f := 147) rfl ?_); refine goesL_ (some 35) rfl rfl Try.func147 (by kernel_rfl) rfl #[.int .i64 a0, .int .i64 a1, .int .i64 x7_2] rfl G.ar ?_; (with_reducible refine (spec_l11Word.calls k2 a0 a1 x7_2 t733 _ A14.out).mono ?_); rintro e w21 ⟨v734, rfl, ho0, hb⟩; refine ⟨_, rfl, ?_⟩; have n0_ := Aside0.mk (Kd.S_elder' (G.kS HO_6.out) (Kd.R_base ho0) hb); have n1_ := Aside0.mk (Kd.R_lower ho0 (below_size G.bel)); have n2_ := Aside0.mk (below_step G.bel hb); clear HO_6; clear HB; have HO_6 := n0_; have HO735 := n1_; have HB := n2_; clear n0_ n1_ n2_; (try clear hb); (try clear hb2); (try clear hk); (try clear hi); (try clear ho0); obtain ⟨Ao22, co22, eo22⟩ := Kd.R_slice HO735.out; subst eo22) | ((with_reducible refine gate_callee (f := 85) rfl ?_); refine goesL_ (some 37) rfl rfl Try.func85 (by kernel_rfl) rfl #[.slice Ao22 t733.length co22] rfl G.ar ?_; (with_reducible refine (spec_IsLyndon.calls k2 _ _ t733 false _ ?side1 ?side2 A15.out).mono ?_); (case side1 => repeat (first | exact (Kd.R_reads' HO735.out).2.2 | (with_reducible refine Kd.C_alloc ?_ _) | (with_reducible refine Kd.C_drewN ?_ _) | (with_reducible refine Kd.C_drew ?_))); (case side2 => exact (Kd.R_reads' HO735.out).2.1); rintro e w' ⟨rfl, ⟨nd, rfl⟩⟩; refine ⟨_, rfl, ?_⟩))
        go_roundg k2
        case measure => have := HJ2.out; have := HK2.out; omega
        case rel => exact ⟨(x6_2), (wrap64 (x7_2 + 1)), G.tr, H', ⟨by have := HJ2.out; have := HK2.out; omega⟩, ⟨by (with_reducible repeat (first | apply Kd.S_alloc | apply Kd.S_drewN | apply Kd.S_drew)); exact Kd.S_mono HO_6.out (fun _ hk => trivial)⟩, ⟨G.bel⟩⟩
      ·rw [if_neg c13] at H
       have c13b0 : decide (x7_2 < t732) = false := decide_eq_false c13
       clear c13
       simp only [Option.some.injEq, Prod.mk.injEq] at H
       obtain ⟨rfl, rfl⟩ := H
       go_wp2_with (first | ((with_reducible refine gate_callee (f := 146) rfl ?_); refine goesL_ (some 28) rfl rfl Try.func146 (by kernel_rfl) rfl #[.int .i64 a0, .int .i64 a1] rfl G.ar ?_; (with_reducible refine (spec_l11Power.calls k2 a0 a1 t732 _ A12.out).mono ?_); rintro e w' ⟨rfl, ⟨nd, rfl⟩⟩; refine ⟨_, rfl, ?_⟩))
       go_ret2
       exact ⟨_, G.er, G.kS HO_6.out, G.bel⟩

-- NOT PRINTED: function 148 (impl_divided)

/-! ### impl_moebius: function 149 -/
def impl_moebius.l0 : Nat → Int → Int → Int → Option (Int)
 | 0, _, _, _ => none
 | k + 1, x0, x3, x4 => if x4 ≤ x0 then (if x4 = 0 then (none) else (if (Int.tmod x0 x4) = 0 then (if (Int.tmod (wrap64 (Int.tdiv x0 x4)) x4) = 0 then (some 0) else (impl_moebius.l0 k (wrap64 (Int.tdiv x0 x4)) (wrap64 (-x3)) (wrap64 (x4 + 1)))) else (impl_moebius.l0 k x0 x3 (wrap64 (x4 + 1))))) else (some x3)
def impl_moebius.f (k : Nat) (a0 : Int) : Option (Int) := impl_moebius.l0 k a0 1 2
theorem impl_moebius.mono_l : ∀ k, (∀ y0 y1 y2, LeO (impl_moebius.l0 k y0 y1 y2) (impl_moebius.l0 (k + 1) y0 y1 y2))
 | 0 => fun _ _ _ r h => by simp [impl_moebius.l0] at h
 | k + 1 => by
  have ih0 := impl_moebius.mono_l k
  ·intro y0 y1 y2
   unfold impl_moebius.l0
   repeat' first
   | (with_reducible exact ih0 _ _ _)
   | (with_reducible exact LeO.refl _)
   | (with_reducible exact LeO.none _)
   | (with_reducible refine LeO.ite ?_ ?_)
   | (with_reducible refine LeO.bind ?_ (fun _ => ?_))
   | exact ih0 _ _ _
   | exact LeO.none _
   | refine LeO.ite ?_ ?_
   | refine LeO.bind ?_ (fun _ => ?_)
theorem impl_moebius.mono : ∀ a0 k, LeO (impl_moebius.f k a0) (impl_moebius.f (k + 1) a0) := by
 intro a0 k
 have ih0 := impl_moebius.mono_l k
 unfold impl_moebius.f
 repeat' first
   | (with_reducible exact ih0 _ _ _)
   | (with_reducible exact LeO.refl _)
   | (with_reducible exact LeO.none _)
   | (with_reducible refine LeO.ite ?_ ?_)
   | (with_reducible refine LeO.bind ?_ (fun _ => ?_))
   | exact ih0 _ _ _
   | exact LeO.none _
   | refine LeO.ite ?_ ?_
   | refine LeO.bind ?_ (fun _ => ?_)
set_option maxHeartbeats 8000000 in
set_option maxRecDepth 100000 in
theorem impl_moebius.calls (k : Nat) (a0 : Int) (r : Int) (w : World) (h : impl_moebius.f k a0 = some r) :
  Calls Try.prog 149 #[.int .i64 a0] w fun e w' => e = .returned (.int .i64 r) ∧ Drawn0 w w' := by
 have H : (impl_moebius.l0 k a0 1 2) = some r := h
 clear h
 have H' := Aside0.mk H
 clear H
 go_enter Try.func149, Try.ntmps149
 go_wp2
 go_loopg [0, 3, 4] k (fun kq v0 v3 v4 w' => ∃ (x0_1 : Int) (x3_1 : Int) (x4_1 : Int), v0 = .int .i64 x0_1 ∧ v3 = .int .i64 x3_1 ∧ v4 = .int .i64 x4_1 ∧ Aside0 (impl_moebius.l0 kq x0_1 x3_1 x4_1 = some r) ∧ Aside0 (kq ≤ k) ∧ Drawn0 w w')
 case atStart => exact ⟨(a0), (1), (2), G.tr, G.tr, G.tr, H', ⟨Nat.le_refl _⟩, G.dn⟩
 case round =>
  clear H'
  try clear c1
  obtain ⟨x0_1, x3_1, x4_1, rfl, rfl, rfl, HA, HK1, ⟨m1, rfl⟩⟩ := hrel
  cases gk with
  | zero => exact absurd HA.out (by simp [impl_moebius.l0])
  | succ k1 =>
   have H := HA.out
   clear HA
   simp only [impl_moebius.l0] at H
   by_cases c2 : x4_1 ≤ x0_1
   ·rw [if_pos c2] at H
    have c2b0 : decide (x4_1 ≤ x0_1) = true := decide_eq_true c2
    clear c2
    by_cases c3 : x4_1 = 0
    ·rw [if_pos c3] at H
     exact absurd H (by simp)
    ·rw [if_neg c3] at H
     have c3b0 : (x4_1 == 0) = false := beq_eq_false_iff_ne.mpr c3
     have c3b1 : (x4_1 != 0) = true := bne_iff_ne.mpr c3
     by_cases c4 : (Int.tmod x0_1 x4_1) = 0
     ·rw [if_pos c4] at H
      have c4b0 : ((Int.tmod x0_1 x4_1) == 0) = true := beq_iff_eq.mpr c4
      have c4b1 : ((Int.tmod x0_1 x4_1) != 0) = false := bne_eq_false_iff_eq.mpr c4
      clear c4
      by_cases c5 : (Int.tmod (wrap64 (Int.tdiv x0_1 x4_1)) x4_1) = 0
      ·rw [if_pos c5] at H
       have c5b0 : ((Int.tmod (wrap64 (Int.tdiv x0_1 x4_1)) x4_1) == 0) = true := beq_iff_eq.mpr c5
       have c5b1 : ((Int.tmod (wrap64 (Int.tdiv x0_1 x4_1)) x4_1) != 0) = false := bne_eq_false_iff_eq.mpr c5
       clear c5
       obtain rfl := Option.some.inj H
       go_wp2
       go_ret
       exact ⟨G.tr, G.dn⟩
      ·rw [if_neg c5] at H
       have c5b0 : ((Int.tmod (wrap64 (Int.tdiv x0_1 x4_1)) x4_1) == 0) = false := beq_eq_false_iff_ne.mpr c5
       have c5b1 : ((Int.tmod (wrap64 (Int.tdiv x0_1 x4_1)) x4_1) != 0) = true := bne_iff_ne.mpr c5
       have H' := Aside0.mk H
       clear H
       go_wp2
       go_roundg k1
       case measure => have := HK1.out; omega
       case rel => exact ⟨(wrap64 (Int.tdiv x0_1 x4_1)), (wrap64 (-x3_1)), (wrap64 (x4_1 + 1)), G.tr, G.tr, G.tr, H', ⟨by have := HK1.out; omega⟩, G.dn⟩
     ·rw [if_neg c4] at H
      have c4b0 : ((Int.tmod x0_1 x4_1) == 0) = false := beq_eq_false_iff_ne.mpr c4
      have c4b1 : ((Int.tmod x0_1 x4_1) != 0) = true := bne_iff_ne.mpr c4
      have H' := Aside0.mk H
      clear H
      go_wp2
      go_roundg k1
      case measure => have := HK1.out; omega
      case rel => exact ⟨(x0_1), (x3_1), (wrap64 (x4_1 + 1)), G.tr, G.tr, G.tr, H', ⟨by have := HK1.out; omega⟩, G.dn⟩
   ·rw [if_neg c2] at H
    have c2b0 : decide (x4_1 ≤ x0_1) = false := decide_eq_false c2
    clear c2
    obtain rfl := Option.some.inj H
    go_wp2
    go_ret
    exact ⟨G.tr, G.dn⟩

/-! ### spec_l11Mobius: function 150 -/
def spec_l11Mobius.l0 : Nat → Int → Int → Int → Option (Int)
 | 0, _, _, _ => none
 | k + 1, x0, x3, x4 => if x4 ≤ x0 then (if x4 = 0 then (none) else (if (Int.tmod x0 x4) = 0 then (if (Int.tmod (wrap64 (Int.tdiv x0 x4)) x4) = 0 then (some 0) else (spec_l11Mobius.l0 k (wrap64 (Int.tdiv x0 x4)) (wrap64 (-x3)) (wrap64 (x4 + 1)))) else (spec_l11Mobius.l0 k x0 x3 (wrap64 (x4 + 1))))) else (some x3)
def spec_l11Mobius.f (k : Nat) (a0 : Int) : Option (Int) := spec_l11Mobius.l0 k a0 1 2
theorem spec_l11Mobius.mono_l : ∀ k, (∀ y0 y1 y2, LeO (spec_l11Mobius.l0 k y0 y1 y2) (spec_l11Mobius.l0 (k + 1) y0 y1 y2))
 | 0 => fun _ _ _ r h => by simp [spec_l11Mobius.l0] at h
 | k + 1 => by
  have ih0 := spec_l11Mobius.mono_l k
  ·intro y0 y1 y2
   unfold spec_l11Mobius.l0
   repeat' first
   | (with_reducible exact ih0 _ _ _)
   | (with_reducible exact LeO.refl _)
   | (with_reducible exact LeO.none _)
   | (with_reducible refine LeO.ite ?_ ?_)
   | (with_reducible refine LeO.bind ?_ (fun _ => ?_))
   | exact ih0 _ _ _
   | exact LeO.none _
   | refine LeO.ite ?_ ?_
   | refine LeO.bind ?_ (fun _ => ?_)
theorem spec_l11Mobius.mono : ∀ a0 k, LeO (spec_l11Mobius.f k a0) (spec_l11Mobius.f (k + 1) a0) := by
 intro a0 k
 have ih0 := spec_l11Mobius.mono_l k
 unfold spec_l11Mobius.f
 repeat' first
   | (with_reducible exact ih0 _ _ _)
   | (with_reducible exact LeO.refl _)
   | (with_reducible exact LeO.none _)
   | (with_reducible refine LeO.ite ?_ ?_)
   | (with_reducible refine LeO.bind ?_ (fun _ => ?_))
   | exact ih0 _ _ _
   | exact LeO.none _
   | refine LeO.ite ?_ ?_
   | refine LeO.bind ?_ (fun _ => ?_)
set_option maxHeartbeats 8000000 in
set_option maxRecDepth 100000 in
theorem spec_l11Mobius.calls (k : Nat) (a0 : Int) (r : Int) (w : World) (h : spec_l11Mobius.f k a0 = some r) :
  Calls Try.prog 150 #[.int .i64 a0] w fun e w' => e = .returned (.int .i64 r) ∧ Drawn0 w w' := by
 have H : (spec_l11Mobius.l0 k a0 1 2) = some r := h
 clear h
 have H' := Aside0.mk H
 clear H
 go_enter Try.func150, Try.ntmps150
 go_wp2
 go_loopg [0, 3, 4] k (fun kq v0 v3 v4 w' => ∃ (x0_1 : Int) (x3_1 : Int) (x4_1 : Int), v0 = .int .i64 x0_1 ∧ v3 = .int .i64 x3_1 ∧ v4 = .int .i64 x4_1 ∧ Aside0 (spec_l11Mobius.l0 kq x0_1 x3_1 x4_1 = some r) ∧ Aside0 (kq ≤ k) ∧ Drawn0 w w')
 case atStart => exact ⟨(a0), (1), (2), G.tr, G.tr, G.tr, H', ⟨Nat.le_refl _⟩, G.dn⟩
 case round =>
  clear H'
  try clear c1
  obtain ⟨x0_1, x3_1, x4_1, rfl, rfl, rfl, HA, HK1, ⟨m1, rfl⟩⟩ := hrel
  cases gk with
  | zero => exact absurd HA.out (by simp [spec_l11Mobius.l0])
  | succ k1 =>
   have H := HA.out
   clear HA
   simp only [spec_l11Mobius.l0] at H
   by_cases c2 : x4_1 ≤ x0_1
   ·rw [if_pos c2] at H
    have c2b0 : decide (x4_1 ≤ x0_1) = true := decide_eq_true c2
    clear c2
    by_cases c3 : x4_1 = 0
    ·rw [if_pos c3] at H
     exact absurd H (by simp)
    ·rw [if_neg c3] at H
     have c3b0 : (x4_1 == 0) = false := beq_eq_false_iff_ne.mpr c3
     have c3b1 : (x4_1 != 0) = true := bne_iff_ne.mpr c3
     by_cases c4 : (Int.tmod x0_1 x4_1) = 0
     ·rw [if_pos c4] at H
      have c4b0 : ((Int.tmod x0_1 x4_1) == 0) = true := beq_iff_eq.mpr c4
      have c4b1 : ((Int.tmod x0_1 x4_1) != 0) = false := bne_eq_false_iff_eq.mpr c4
      clear c4
      by_cases c5 : (Int.tmod (wrap64 (Int.tdiv x0_1 x4_1)) x4_1) = 0
      ·rw [if_pos c5] at H
       have c5b0 : ((Int.tmod (wrap64 (Int.tdiv x0_1 x4_1)) x4_1) == 0) = true := beq_iff_eq.mpr c5
       have c5b1 : ((Int.tmod (wrap64 (Int.tdiv x0_1 x4_1)) x4_1) != 0) = false := bne_eq_false_iff_eq.mpr c5
       clear c5
       obtain rfl := Option.some.inj H
       go_wp2
       go_ret
       exact ⟨G.tr, G.dn⟩
      ·rw [if_neg c5] at H
       have c5b0 : ((Int.tmod (wrap64 (Int.tdiv x0_1 x4_1)) x4_1) == 0) = false := beq_eq_false_iff_ne.mpr c5
       have c5b1 : ((Int.tmod (wrap64 (Int.tdiv x0_1 x4_1)) x4_1) != 0) = true := bne_iff_ne.mpr c5
       have H' := Aside0.mk H
       clear H
       go_wp2
       go_roundg k1
       case measure => have := HK1.out; omega
       case rel => exact ⟨(wrap64 (Int.tdiv x0_1 x4_1)), (wrap64 (-x3_1)), (wrap64 (x4_1 + 1)), G.tr, G.tr, G.tr, H', ⟨by have := HK1.out; omega⟩, G.dn⟩
     ·rw [if_neg c4] at H
      have c4b0 : ((Int.tmod x0_1 x4_1) == 0) = false := beq_eq_false_iff_ne.mpr c4
      have c4b1 : ((Int.tmod x0_1 x4_1) != 0) = true := bne_iff_ne.mpr c4
      have H' := Aside0.mk H
      clear H
      go_wp2
      go_roundg k1
      case measure => have := HK1.out; omega
      case rel => exact ⟨(x0_1), (x3_1), (wrap64 (x4_1 + 1)), G.tr, G.tr, G.tr, H', ⟨by have := HK1.out; omega⟩, G.dn⟩
   ·rw [if_neg c2] at H
    have c2b0 : decide (x4_1 ≤ x0_1) = false := decide_eq_false c2
    clear c2
    obtain rfl := Option.some.inj H
    go_wp2
    go_ret
    exact ⟨G.tr, G.dn⟩

/-! ### impl_CountLyndon: the sum over the divisors, by its function moebius (own walk) -/
def impl_CountLyndon.l0 : Nat → Int → Int → Int → Int → Option (Int)
 | 0, _, _, _, _ => none
 | k + 1, x0, x1, x5, x6 => if x6 ≤ x1 then (if x6 = 0 then (none) else (if (Int.tmod x1 x6) = 0 then ((impl_moebius.f k x6).bind fun t103 => ((impl_power.f k x0 (wrap64 (Int.tdiv x1 x6))).bind fun t104 => (impl_CountLyndon.l0 k x0 x1 (wrap64 (x5 + (wrap64 (t103 * t104)))) (wrap64 (x6 + 1))))) else (impl_CountLyndon.l0 k x0 x1 x5 (wrap64 (x6 + 1))))) else (if x1 = 0 then (none) else (some (wrap64 (Int.tdiv x5 x1))))
def impl_CountLyndon.f (k : Nat) (a0 : Int) (a1 : Int) : Option (Int) := if a0 < 1 then (some (-1)) else (if a0 > 4 then (some (-1)) else (if a1 < 1 then (some (-1)) else (if a1 > 20 then (some (-1)) else (impl_CountLyndon.l0 k a0 a1 0 1))))

set_option maxHeartbeats 8000000 in
set_option maxRecDepth 100000 in
theorem impl_CountLyndon.inner (k : Nat) (a0 : Int) (a1 : Int) (r : Int) (w : World) (h : impl_CountLyndon.f k a0 a1 = some r) :
  Calls Try.prog 148 #[.int .i64 a0, .int .i64 a1, .func (.func 149) #[] #[]] w fun e w' => e = .returned (.int .i64 r) ∧ Drawn0 w w' := by
 have H : (if a0 < 1 then (some (-1)) else (if a0 > 4 then (some (-1)) else (if a1 < 1 then (some (-1)) else (if a1 > 20 then (some (-1)) else (impl_CountLyndon.l0 k a0 a1 0 1))))) = some r := h
 clear h
 by_cases c1 : a0 < 1
 ·rw [if_pos c1] at H
  have c1b : decide (a0 < 1) = true := decide_eq_true c1
  clear c1
  obtain rfl := Option.some.inj H
  go_enter Try.func148, Try.ntmps148
  go_wp2
  repeat (go_quiet (fail); try go_wp2)
  go_ret
  exact ⟨G.tr, G.dn⟩
 ·rw [if_neg c1] at H
  have c1b : decide (a0 < 1) = false := decide_eq_false c1
  clear c1
  by_cases c2 : a0 > 4
  ·rw [if_pos c2] at H
   have c2b : decide (4 < a0) = true := decide_eq_true c2
   clear c2
   obtain rfl := Option.some.inj H
   go_enter Try.func148, Try.ntmps148
   go_wp2
   repeat (go_quiet (fail); try go_wp2)
   go_ret
   exact ⟨G.tr, G.dn⟩
  ·rw [if_neg c2] at H
   have c2b : decide (4 < a0) = false := decide_eq_false c2
   clear c2
   by_cases c3 : a1 < 1
   ·rw [if_pos c3] at H
    have c3b : decide (a1 < 1) = true := decide_eq_true c3
    clear c3
    obtain rfl := Option.some.inj H
    go_enter Try.func148, Try.ntmps148
    go_wp2
    repeat (go_quiet (fail); try go_wp2)
    go_ret
    exact ⟨G.tr, G.dn⟩
   ·rw [if_neg c3] at H
    have c3b : decide (a1 < 1) = false := decide_eq_false c3
    clear c3
    by_cases c4 : a1 > 20
    ·rw [if_pos c4] at H
     have c4b : decide (20 < a1) = true := decide_eq_true c4
     clear c4
     obtain rfl := Option.some.inj H
     go_enter Try.func148, Try.ntmps148
     go_wp2
     repeat (go_quiet (fail); try go_wp2)
     go_ret
     exact ⟨G.tr, G.dn⟩
    ·rw [if_neg c4] at H
     have c4b : decide (20 < a1) = false := decide_eq_false c4
     clear c4
     have H' := Aside0.mk H
     clear H
     go_enter Try.func148, Try.ntmps148
     go_wp2
     repeat (go_quiet (fail); try go_wp2)
     go_loopg [7, 8] k (fun kq v5 v6 w' => ∃ (x5_2 : Int) (x6_2 : Int), v5 = .int .i64 x5_2 ∧ v6 = .int .i64 x6_2 ∧ Aside0 (impl_CountLyndon.l0 kq a0 a1 x5_2 x6_2 = some r) ∧ Aside0 (kq ≤ k) ∧ Drawn0 w w')
     case atStart => exact ⟨(0), (1), G.tr, G.tr, H', ⟨Nat.le_refl _⟩, G.dn⟩
     case round =>
      clear H'
      obtain ⟨x5_2, x6_2, rfl, rfl, HA, HK2, ⟨m2, rfl⟩⟩ := hrel
      cases gk with
      | zero => exact absurd HA.out (by simp [impl_CountLyndon.l0])
      | succ k2 =>
       have H := HA.out
       clear HA
       simp only [impl_CountLyndon.l0] at H
       by_cases c8 : x6_2 ≤ a1
       ·rw [if_pos c8] at H
        have c8b0 : decide (x6_2 ≤ a1) = true := decide_eq_true c8
        clear c8
        by_cases c9 : x6_2 = 0
        ·rw [if_pos c9] at H
         exact absurd H (by simp)
        ·rw [if_neg c9] at H
         have c9b0 : (x6_2 == 0) = false := beq_eq_false_iff_ne.mpr c9
         have c9b1 : (x6_2 != 0) = true := bne_iff_ne.mpr c9
         by_cases c10 : (Int.tmod a1 x6_2) = 0
         ·rw [if_pos c10] at H
          have c10b0 : ((Int.tmod a1 x6_2) == 0) = true := beq_iff_eq.mpr c10
          have c10b1 : ((Int.tmod a1 x6_2) != 0) = false := bne_eq_false_iff_eq.mpr c10
          clear c10
          replace H := Option.bind_eq_some_iff.mp H
          obtain ⟨t103, A110, H⟩ := H
          have A11 := Aside0.mk A110
          clear A110
          replace H := Option.bind_eq_some_iff.mp H
          obtain ⟨t104, A120, H⟩ := H
          have A12 := Aside0.mk A120
          clear A120
          have H' := Aside0.mk H
          clear H
          go_wp2_with (first | (go_at_call 149; (with_reducible refine (impl_moebius.calls k2 x6_2 t103 _ A11.out).mono ?_); rintro e w' ⟨rfl, ⟨nd, rfl⟩⟩; (try first | exact ⟨rfl, _, World.drewN_drewN _ _ _⟩ | exact ⟨rfl, _, Eq.trans (World.drewN_drewN _ _ _) (congrArg (World.drewN _) (Nat.add_assoc _ _ _))⟩)) | (go_at_call 144; (with_reducible refine (impl_power.calls k2 a0 (wrap64 (Int.tdiv a1 x6_2)) t104 _ A12.out).mono ?_); rintro e w' ⟨rfl, ⟨nd, rfl⟩⟩; (try first | exact ⟨rfl, _, World.drewN_drewN _ _ _⟩ | exact ⟨rfl, _, Eq.trans (World.drewN_drewN _ _ _) (congrArg (World.drewN _) (Nat.add_assoc _ _ _))⟩)))
          repeat (go_quiet (first | (go_at_call 149; (with_reducible refine (impl_moebius.calls k2 x6_2 t103 _ A11.out).mono ?_); rintro e w' ⟨rfl, ⟨nd, rfl⟩⟩; (try first | exact ⟨rfl, _, World.drewN_drewN _ _ _⟩ | exact ⟨rfl, _, Eq.trans (World.drewN_drewN _ _ _) (congrArg (World.drewN _) (Nat.add_assoc _ _ _))⟩)) | (go_at_call 144; (with_reducible refine (impl_power.calls k2 a0 (wrap64 (Int.tdiv a1 x6_2)) t104 _ A12.out).mono ?_); rintro e w' ⟨rfl, ⟨nd, rfl⟩⟩; (try first | exact ⟨rfl, _, World.drewN_drewN _ _ _⟩ | exact ⟨rfl, _, Eq.trans (World.drewN_drewN _ _ _) (congrArg (World.drewN _) (Nat.add_assoc _ _ _))⟩))); try go_wp2)
          go_roundg k2
          case measure => have := HK2.out; omega
          case rel => exact ⟨(wrap64 (x5_2 + (wrap64 (t103 * t104)))), (wrap64 (x6_2 + 1)), G.tr, G.tr, H', ⟨by have := HK2.out; omega⟩, G.dn⟩
         ·rw [if_neg c10] at H
          have c10b0 : ((Int.tmod a1 x6_2) == 0) = false := beq_eq_false_iff_ne.mpr c10
          have c10b1 : ((Int.tmod a1 x6_2) != 0) = true := bne_iff_ne.mpr c10
          have H' := Aside0.mk H
          clear H
          go_wp2
          repeat (go_quiet (fail); try go_wp2)
          go_roundg k2
          case measure => have := HK2.out; omega
          case rel => exact ⟨(x5_2), (wrap64 (x6_2 + 1)), G.tr, G.tr, H', ⟨by have := HK2.out; omega⟩, G.dn⟩
       ·rw [if_neg c8] at H
        have c8b0 : decide (x6_2 ≤ a1) = false := decide_eq_false c8
        clear c8
        by_cases c13 : a1 = 0
        ·rw [if_pos c13] at H
         exact absurd H (by simp)
        ·rw [if_neg c13] at H
         have c13b0 : (a1 == 0) = false := beq_eq_false_iff_ne.mpr c13
         have c13b1 : (a1 != 0) = true := bne_iff_ne.mpr c13
         obtain rfl := Option.some.inj H
         go_wp2
         repeat (go_quiet (fail); try go_wp2)
         go_ret
         exact ⟨G.tr, G.dn⟩

set_option maxHeartbeats 8000000 in
set_option maxRecDepth 100000 in
theorem impl_CountLyndon.calls (k : Nat) (a0 : Int) (a1 : Int) (r : Int) (w : World) (h : impl_CountLyndon.f k a0 a1 = some r) :
  Calls Try.prog 91 #[.int .i64 a0, .int .i64 a1] w fun e w' => e = .returned (.int .i64 r) ∧ Drawn0 w w' := by
 have H := Aside0.mk h
 clear h
 go_enter Try.func91, Try.ntmps91
 go_wp2_with (go_at_call 148; (with_reducible refine (impl_CountLyndon.inner k a0 a1 r _ H.out).mono ?_); rintro e w' ⟨rfl, ⟨nd, rfl⟩⟩)
 go_ret
 exact ⟨G.tr, G.dn⟩

end Go.Proofs.Ytolikggioekalab.PFnLyndon
