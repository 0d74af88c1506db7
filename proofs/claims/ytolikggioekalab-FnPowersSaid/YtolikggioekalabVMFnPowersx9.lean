/- The Go functions that the law FnPowers reaches (part 9): each as a Lean function, and that its code comes to these answers. No condition beyond those written. -/
import Derived.Test.YtolikggioekalabVGSlim
import Derived.Test.YtolikggioekalabVMFnPowersx7
import Derived.Test.YtolikggioekalabVMFnPowersx6
import Derived.Test.YtolikggioekalabVMFnPowersx5
import Derived.Test.YtolikggioekalabVMFnPowersx4
import Derived.Test.YtolikggioekalabVMFnPowersx3
import Derived.Test.YtolikggioekalabVMFnPowersx2
import Derived.Test.YtolikggioekalabVMFnPowersx1
import Derived.Test.YtolikggioekalabVMFnPowersx0
import Derived.Test.YtolikggioekalabVMFnPowersx8
namespace Go.Proofs.Ytolikggioekalab.PFnPowers
open Go.RowKit Go.Proofs.YtolikggioekalabW.PrintWords Go.Proofs.YtolikggioekalabW.PrintLast Go.Proofs.YtolikggioekalabW.PrintMore
attribute [local go_sem] max2_int min2_int max_two min_two max_three min_three max_four min_four   -- for this text's walks alone
set_option linter.unusedVariables false
set_option linter.unusedSimpArgs false

/-! ### slices_Compare_int_int: function 116 -/
def slices_Compare_int_int.l0 : Nat → List Int → List Int → List Int → Int → Int → Option (Int)
 | 0, _, _, _, _, _ => none
 | k + 1, x0, x1, x9, x10, x11 => if x11 < x10 then (if 0 ≤ x11 then (if x11 < (x9.length : Int) then (if x11 ≥ (x1.length : Int) then (some 1) else (if x11 < (x1.length : Int) then ((cmp_Compare_int.f (rd x9 x11) (rd x1 x11)).bind fun t473 => (if t473 = 0 then (slices_Compare_int_int.l0 k x0 x1 x9 x10 (wrap64 (x11 + 1))) else (some t473))) else (none))) else (none)) else (none)) else (if (x0.length : Int) < (x1.length : Int) then (some (-1)) else (some 0))
def slices_Compare_int_int.f (k : Nat) (l0 : List Int) (l1 : List Int) : Option (Int) := slices_Compare_int_int.l0 k l0 l1 l0 (l0.length : Int) 0
set_option maxHeartbeats 8000000 in
set_option maxRecDepth 100000 in
theorem slices_Compare_int_int.calls (k : Nat) (A0 : Option Addr) (c0 : Nat) (l0 : List Int) (A1 : Option Addr) (c1 : Nat) (l1 : List Int) (r : Int) (w : World) (hr0 : Kd.C (Kd.int .i64) w A0 l0.length l0) (hc0 : l0.length ≤ c0) (hr1 : Kd.C (Kd.int .i64) w A1 l1.length l1) (hc1 : l1.length ≤ c1) (h : slices_Compare_int_int.f k l0 l1 = some r) :
  Calls Try.prog 116 #[.slice A0 l0.length c0, .slice A1 l1.length c1] w fun e w' => e = .returned (.int .i64 r) ∧ Drawn0 w w' := by
 have HR0 := Aside0.mk hr0
 have HC0 := Aside0.mk hc0
 clear hr0 hc0
 have HR1 := Aside0.mk hr1
 have HC1 := Aside0.mk hc1
 clear hr1 hc1
 have H : (slices_Compare_int_int.l0 k l0 l1 l0 (l0.length : Int) 0) = some r := h
 clear h
 have H' := Aside0.mk H
 clear H
 go_enter Try.func116, Try.ntmps116
 go_wp2
 go_loopg [11] k (fun kq v11 w' => ∃ (x11_1 : Int), v11 = .int .i64 x11_1 ∧ Aside0 (slices_Compare_int_int.l0 kq l0 l1 l0 (l0.length : Int) x11_1 = some r) ∧ Aside0 (kq ≤ k) ∧ Drawn0 w w')
 case atStart => exact ⟨(0), (by first | rfl | (simp; done) | (simp [*]; done)), H', ⟨Nat.le_refl _⟩, by repeat (first | exact Drawn0.refl _ | apply Drawn0.step)⟩
 case round =>
  clear H'
  try clear c1; try clear p2
  obtain ⟨x11_1, rfl, HA, HK1, ⟨m1, rfl⟩⟩ := hrel
  cases gk with
  | zero => exact absurd HA.out (by simp [slices_Compare_int_int.l0])
  | succ k1 =>
   have H := HA.out
   clear HA
   simp only [slices_Compare_int_int.l0] at H
   by_cases c3 : x11_1 < (l0.length : Int)
   ·rw [if_pos c3] at H
    have c3b0 : decide (x11_1 < (l0.length : Int)) = true := decide_eq_true c3
    clear c3
    by_cases c4 : 0 ≤ x11_1
    ·rw [if_pos c4] at H
     have c4b0 : decide (0 ≤ x11_1) = true := decide_eq_true c4
     clear c4
     by_cases c5 : x11_1 < (l0.length : Int)
     ·rw [if_pos c5] at H
      have c5b0 : decide (x11_1 < (l0.length : Int)) = true := decide_eq_true c5
      clear c5
      by_cases c6 : x11_1 ≥ (l1.length : Int)
      ·rw [if_pos c6] at H
       have c6b0 : decide ((l1.length : Int) ≤ x11_1) = true := decide_eq_true c6
       clear c6
       obtain rfl := Option.some.inj H
       have p471 : 0 ≤ (x11_1 : Int) := G.odt
       have q471 : x11_1 < (l0.length : Int) := G.odt
       obtain ⟨ad471, e471, hx471_0⟩ := Kd.at_int HR0.out x11_1 p471 q471
       cases e471
       replace p471 := eq_true p471
       replace q471 := eq_true q471
       go_wp2
       go_ret
       exact ⟨by first | rfl | (simp; done) | (simp [*]; done), by repeat (first | exact Drawn0.refl _ | apply Drawn0.step)⟩
      ·rw [if_neg c6] at H
       have c6b0 : decide ((l1.length : Int) ≤ x11_1) = false := decide_eq_false c6
       clear c6
       by_cases c7 : x11_1 < (l1.length : Int)
       ·rw [if_pos c7] at H
        have c7b0 : decide (x11_1 < (l1.length : Int)) = true := decide_eq_true c7
        clear c7
        replace H := Option.bind_eq_some_iff.mp H
        obtain ⟨t473, A80, H⟩ := H
        replace H : (if t473 = 0 then (slices_Compare_int_int.l0 k1 l0 l1 l0 (l0.length : Int) (wrap64 (x11_1 + 1))) else (some t473)) = some r := H
        have A8 := Aside0.mk A80
        clear A80
        by_cases c9 : t473 = 0
        ·rw [if_pos c9] at H
         have c9b0 : (t473 == 0) = true := beq_iff_eq.mpr c9
         have c9b1 : (t473 != 0) = false := bne_eq_false_iff_eq.mpr c9
         clear c9
         have H' := Aside0.mk H
         clear H
         have p471 : 0 ≤ (x11_1 : Int) := G.odt
         have q471 : x11_1 < (l0.length : Int) := G.odt
         obtain ⟨ad471, e471, hx471_0⟩ := Kd.at_int HR0.out x11_1 p471 q471
         cases e471
         replace p471 := eq_true p471
         replace q471 := eq_true q471
         have p472 : 0 ≤ (x11_1 : Int) := G.odt
         have q472 : x11_1 < (l1.length : Int) := G.odt
         obtain ⟨ad472, e472, hx472_0⟩ := Kd.at_int HR1.out x11_1 p472 q472
         cases e472
         replace p472 := eq_true p472
         replace q472 := eq_true q472
         go_wp2_with (first | ((with_reducible refine gate_callee (f := 109) rfl ?_); refine goesL_ (some 26) rfl rfl Try.func109 (by kernel_rfl) rfl #[.int .i64 (rd l0 x11_1), .int .i64 (rd l1 x11_1)] rfl (by (try simp only [List.map_toArray, List.map_cons, List.map_nil]); first | done | rfl | (simp only [List.length_drop, List.length_take]; rfl)) ?_; (with_reducible refine (cmp_Compare_int.calls (rd l0 x11_1) (rd l1 x11_1) t473 _ A8.out).mono ?_); rintro e w' ⟨rfl, ⟨nd, rfl⟩⟩; refine ⟨_, rfl, ?_⟩))
         go_roundg k1
         case measure => have := HK1.out; omega
         case rel => exact ⟨(wrap64 (x11_1 + 1)), (by first | rfl | (simp; done) | (simp [*]; done)), H', ⟨by have := HK1.out; omega⟩, by repeat (first | exact Drawn0.refl _ | apply Drawn0.step)⟩
        ·rw [if_neg c9] at H
         have c9b0 : (t473 == 0) = false := beq_eq_false_iff_ne.mpr c9
         have c9b1 : (t473 != 0) = true := bne_iff_ne.mpr c9
         obtain rfl := Option.some.inj H
         have p471 : 0 ≤ (x11_1 : Int) := G.odt
         have q471 : x11_1 < (l0.length : Int) := G.odt
         obtain ⟨ad471, e471, hx471_0⟩ := Kd.at_int HR0.out x11_1 p471 q471
         cases e471
         replace p471 := eq_true p471
         replace q471 := eq_true q471
         have p472 : 0 ≤ (x11_1 : Int) := G.odt
         have q472 : x11_1 < (l1.length : Int) := G.odt
         obtain ⟨ad472, e472, hx472_0⟩ := Kd.at_int HR1.out x11_1 p472 q472
         cases e472
         replace p472 := eq_true p472
         replace q472 := eq_true q472
         go_wp2_with (first | ((with_reducible refine gate_callee (f := 109) rfl ?_); refine goesL_ (some 26) rfl rfl Try.func109 (by kernel_rfl) rfl #[.int .i64 (rd l0 x11_1), .int .i64 (rd l1 x11_1)] rfl (by (try simp only [List.map_toArray, List.map_cons, List.map_nil]); first | done | rfl | (simp only [List.length_drop, List.length_take]; rfl)) ?_; (with_reducible refine (cmp_Compare_int.calls (rd l0 x11_1) (rd l1 x11_1) t473 _ A8.out).mono ?_); rintro e w' ⟨rfl, ⟨nd, rfl⟩⟩; refine ⟨_, rfl, ?_⟩))
         go_ret
         exact ⟨by first | rfl | (simp; done) | (simp [*]; done), by repeat (first | exact Drawn0.refl _ | apply Drawn0.step)⟩
       ·rw [if_neg c7] at H
        exact absurd H (by simp)
     ·rw [if_neg c5] at H
      exact absurd H (by simp)
    ·rw [if_neg c4] at H
     exact absurd H (by simp)
   ·rw [if_neg c3] at H
    have c3b0 : decide (x11_1 < (l0.length : Int)) = false := decide_eq_false c3
    clear c3
    by_cases c10 : (l0.length : Int) < (l1.length : Int)
    ·rw [if_pos c10] at H
     have c10b0 : decide ((l0.length : Int) < (l1.length : Int)) = true := decide_eq_true c10
     have c10b1 : decide (l0.length < l1.length) = true := decide_eq_true (Int.ofNat_lt.mp c10)
     clear c10
     obtain rfl := Option.some.inj H
     go_wp2
     go_ret
     exact ⟨by first | rfl | (simp; done) | (simp [*]; done), by repeat (first | exact Drawn0.refl _ | apply Drawn0.step)⟩
    ·rw [if_neg c10] at H
     have c10b0 : decide ((l0.length : Int) < (l1.length : Int)) = false := decide_eq_false c10
     have c10b1 : decide (l0.length < l1.length) = false := decide_eq_false (fun h => c10 (Int.ofNat_lt.mpr h))
     clear c10
     obtain rfl := Option.some.inj H
     go_wp2
     go_ret
     exact ⟨by first | rfl | (simp; done) | (simp [*]; done), by repeat (first | exact Drawn0.refl _ | apply Drawn0.step)⟩

/-! ### impl_CompareWords: function 73 -/
def impl_CompareWords.f (k : Nat) (l0 : List Int) (l1 : List Int) : Option (Int) := (slices_Compare_int_int.f k l0 l1).bind fun t474 => (some t474)
set_option maxHeartbeats 8000000 in
set_option maxRecDepth 100000 in
theorem impl_CompareWords.calls (k : Nat) (A0 : Option Addr) (c0 : Nat) (l0 : List Int) (A1 : Option Addr) (c1 : Nat) (l1 : List Int) (r : Int) (w : World) (hr0 : Kd.C (Kd.int .i64) w A0 l0.length l0) (hc0 : l0.length ≤ c0) (hr1 : Kd.C (Kd.int .i64) w A1 l1.length l1) (hc1 : l1.length ≤ c1) (h : impl_CompareWords.f k l0 l1 = some r) :
  Calls Try.prog 73 #[.slice A0 l0.length c0, .slice A1 l1.length c1] w fun e w' => e = .returned (.int .i64 r) ∧ Drawn0 w w' := by
 have HR0 := Aside0.mk hr0
 have HC0 := Aside0.mk hc0
 clear hr0 hc0
 have HR1 := Aside0.mk hr1
 have HC1 := Aside0.mk hc1
 clear hr1 hc1
 have H : ((slices_Compare_int_int.f k l0 l1).bind fun t474 => (some t474)) = some r := h
 clear h
 replace H := Option.bind_eq_some_iff.mp H
 obtain ⟨t474, A30, H⟩ := H
 replace H : (some t474) = some r := H
 have A3 := Aside0.mk A30
 clear A30
 obtain rfl := Option.some.inj H
 go_enter Try.func73, Try.ntmps73
 go_wp2_with (first | ((with_reducible refine gate_callee (f := 116) rfl ?_); refine goesL_ (some 7) rfl rfl Try.func116 (by kernel_rfl) rfl #[.slice A0 l0.length c0, .slice A1 l1.length c1] rfl (by (try simp only [List.map_toArray, List.map_cons, List.map_nil]); first | done | rfl | (simp only [List.length_drop, List.length_take]; rfl)) ?_; (with_reducible refine (slices_Compare_int_int.calls k _ _ l0 _ _ l1 t474 _ ?side1 ?side2 ?side3 ?side4 A3.out).mono ?_); (case side1 => repeat (first | exact HR0.out | (with_reducible refine Kd.C_alloc ?_ _) | (with_reducible refine Kd.C_drewN ?_ _) | (with_reducible refine Kd.C_drew ?_))); (case side2 => exact HC0.out); (case side3 => repeat (first | exact HR1.out | (with_reducible refine Kd.C_alloc ?_ _) | (with_reducible refine Kd.C_drewN ?_ _) | (with_reducible refine Kd.C_drew ?_))); (case side4 => exact HC1.out); rintro e w' ⟨rfl, ⟨nd, rfl⟩⟩; refine ⟨_, rfl, ?_⟩))
 go_ret
 exact ⟨by first | rfl | (simp; done) | (simp [*]; done), by repeat (first | exact Drawn0.refl _ | apply Drawn0.step)⟩

/-! ### impl_SquaresOf: function 43 -/
mutual
def impl_SquaresOf.l0 : Nat → List Int → List (S55) → Int → Int → Option ((List (S55)))
 | 0, _, _, _, _ => none
 | k + 1, x0, x3, x12, x13 => if x13 < x12 then (impl_SquaresOf.l1 k x0 x3 x13 1 x12 x13) else (some x3)
def impl_SquaresOf.l1 : Nat → List Int → List (S55) → Int → Int → Int → Int → Option ((List (S55)))
 | 0, _, _, _, _, _, _ => none
 | k + 1, x0, x3, x4, x5, x12, x13 => if (wrap64 (x4 + (wrap64 (2 * x5)))) ≤ (x0.length : Int) then (if 0 ≤ x4 then (if x4 ≤ (wrap64 (x4 + x5)) then (if (wrap64 (x4 + x5)) ≤ (x0.length : Int) then (if 0 ≤ (wrap64 (x4 + x5)) then (if (wrap64 (x4 + x5)) ≤ (wrap64 (x4 + (wrap64 (2 * x5)))) then ((impl_CompareWords.f k ((x0.take ((wrap64 (x4 + x5)) : Int).toNat).drop (x4 : Int).toNat) ((x0.take ((wrap64 (x4 + (wrap64 (2 * x5)))) : Int).toNat).drop ((wrap64 (x4 + x5)) : Int).toNat)).bind fun t480 => (if t480 = 0 then (if x3.length < 5864062014805 then (impl_SquaresOf.l1 k x0 (x3 ++ [(⟨x4, x5, wrap64 (2 * x5)⟩ : S55)]) x4 (wrap64 (x5 + 1)) x12 x13) else (none)) else (impl_SquaresOf.l1 k x0 x3 x4 (wrap64 (x5 + 1)) x12 x13))) else (none)) else (none)) else (none)) else (none)) else (none)) else (impl_SquaresOf.l0 k x0 x3 x12 (wrap64 (x13 + 1)))
end
def impl_SquaresOf.f (k : Nat) (l0 : List Int) : Option ((List (S55))) := (some (([] : List (S55)) : List (S55))).bind fun y475 => (if (l0.length : Int) > 64 then (some y475) else (impl_SquaresOf.l0 k l0 y475 (l0.length : Int) 0))
set_option maxHeartbeats 8000000 in
set_option maxRecDepth 100000 in
theorem impl_SquaresOf.calls (k : Nat) (A0 : Option Addr) (c0 : Nat) (l0 : List Int) (r : List (S55)) (w : World) (hr0 : Kd.C (Kd.int .i64) w A0 l0.length l0) (hc0 : l0.length ≤ c0) (h : impl_SquaresOf.f k l0 = some r) :
  Calls Try.prog 43 #[.slice A0 l0.length c0] w fun e w' => ∃ v0_ : Value, e = .returned (v0_) ∧ Kd.R k55 55 w' w.heap.size (fun _ => True) v0_ r ∧ Below w.heap.size w w' := by
 have hu55 := Try.underlying55
 have HR0 := Aside0.mk hr0
 have HC0 := Aside0.mk hc0
 clear hr0 hc0
 have HB := Aside0.mk (Below.refl w.heap.size w)
 have H : ((some (([] : List (S55)) : List (S55))).bind fun y475 => (if (l0.length : Int) > 64 then (some y475) else (impl_SquaresOf.l0 k l0 y475 (l0.length : Int) 0))) = some r := h
 clear h
 obtain ⟨y475, hy475⟩ : ∃ y_ : List (S55), y_ = (([] : List (S55))) := ⟨_, rfl⟩
 replace H : (if (l0.length : Int) > 64 then (some y475) else (impl_SquaresOf.l0 k l0 y475 (l0.length : Int) 0)) = some r := by first | (rw [hy475]; with_reducible exact H) | (have H2_ := (Option.bind_some _ _).symm.trans H; rw [hy475]; with_reducible exact H2_) | (have H2_ := (Option.bind_some _ _).symm.trans H; with_reducible exact H2_) | with_reducible exact H | (rw [hy475]; exact H) | exact H
 have Ny475 := Aside0.mk hy475
 clear hy475
 by_cases c2 : (l0.length : Int) > 64
 ·rw [if_pos c2] at H
  have c2b0 : decide (64 < (l0.length : Int)) = true := decide_eq_true c2
  have c2b1 : decide (64 < l0.length) = true := decide_eq_true (by omega)
  clear c2
  obtain rfl := Option.some.inj H
  go_enter Try.func43, Try.ntmps43
  have hwr_ : ∀ n : Int, IntKind.i64.wrap n = wrap64 n := i64_w
  go_wp2_with (first | ((with_reducible refine gate_dst (N := 6) rfl ?_); refine Kd.R_lit k55 _ 55 ?hg (N := 6) ?hd (xs := ([] : List (S55))) (inner := []) (ok := fun _ => True) (okp := fun _ => True) ?hr ?hp (fun _ hk => hk) trivial (Below.refl _ _) (Nat.le_refl _) (by simp) ?_; (case hd => rfl); (case hg => rfl); (case hr => first | (go_simp; done) | (go_simp; rfl)); (case hp => exact (Reps.none _ _)); intro v476 w3 ho4 hb hg_ hnew_; clear hg_ hnew_; (first | rw [← Ny475.out] at ho4 | (simp only [Int.reduceToNat] at ho4; rw [← Ny475.out] at ho4)); have n0_ := Aside0.mk (Kd.R_lower ho4 (below_size G.bel)); have n1_ := Aside0.mk (below_step G.bel hb); clear HB; have HO477 := n0_; have HB := n1_; clear n0_ n1_; clear hb ho4))
  repeat (go_quiet (first | ((with_reducible refine gate_dst (N := 6) rfl ?_); refine Kd.R_lit k55 _ 55 ?hg (N := 6) ?hd (xs := ([] : List (S55))) (inner := []) (ok := fun _ => True) (okp := fun _ => True) ?hr ?hp (fun _ hk => hk) trivial (Below.refl _ _) (Nat.le_refl _) (by simp) ?_; (case hd => rfl); (case hg => rfl); (case hr => first | (go_simp; done) | (go_simp; rfl)); (case hp => exact (Reps.none _ _)); intro v476 w3 ho4 hb hg_ hnew_; clear hg_ hnew_; (first | rw [← Ny475.out] at ho4 | (simp only [Int.reduceToNat] at ho4; rw [← Ny475.out] at ho4)); have n0_ := Aside0.mk (Kd.R_lower ho4 (below_size G.bel)); have n1_ := Aside0.mk (below_step G.bel hb); clear HB; have HO477 := n0_; have HB := n1_; clear n0_ n1_; clear hb ho4)); try go_wp2_with (first | ((with_reducible refine gate_dst (N := 6) rfl ?_); refine Kd.R_lit k55 _ 55 ?hg (N := 6) ?hd (xs := ([] : List (S55))) (inner := []) (ok := fun _ => True) (okp := fun _ => True) ?hr ?hp (fun _ hk => hk) trivial (Below.refl _ _) (Nat.le_refl _) (by simp) ?_; (case hd => rfl); (case hg => rfl); (case hr => first | (go_simp; done) | (go_simp; rfl)); (case hp => exact (Reps.none _ _)); intro v476 w3 ho4 hb hg_ hnew_; clear hg_ hnew_; (first | rw [← Ny475.out] at ho4 | (simp only [Int.reduceToNat] at ho4; rw [← Ny475.out] at ho4)); have n0_ := Aside0.mk (Kd.R_lower ho4 (below_size G.bel)); have n1_ := Aside0.mk (below_step G.bel hb); clear HB; have HO477 := n0_; have HB := n1_; clear n0_ n1_; clear hb ho4)))
  go_ret
  exact ⟨_, by first | rfl | (simp [errW_none, errW_some] <;> rfl) | (simp [*, errW_none, errW_some] <;> rfl), by (with_reducible repeat (first | apply Kd.R_alloc | apply Kd.R_drewN | apply Kd.R_drew)); exact HO477.out, G.bel⟩
 ·rw [if_neg c2] at H
  have c2b0 : decide (64 < (l0.length : Int)) = false := decide_eq_false c2
  have c2b1 : decide (64 < l0.length) = false := decide_eq_false (by omega)
  clear c2
  have H' := Aside0.mk H
  clear H
  go_enter Try.func43, Try.ntmps43
  have hwr_ : ∀ n : Int, IntKind.i64.wrap n = wrap64 n := i64_w
  go_wp2_with (first | ((with_reducible refine gate_dst (N := 6) rfl ?_); refine Kd.R_lit k55 _ 55 ?hg (N := 6) ?hd (xs := ([] : List (S55))) (inner := []) (ok := fun _ => True) (okp := fun _ => True) ?hr ?hp (fun _ hk => hk) trivial (Below.refl _ _) (Nat.le_refl _) (by simp) ?_; (case hd => rfl); (case hg => rfl); (case hr => first | (go_simp; done) | (go_simp; rfl)); (case hp => exact (Reps.none _ _)); intro v476 w5 ho6 hb hg_ hnew_; clear hg_ hnew_; (first | rw [← Ny475.out] at ho6 | (simp only [Int.reduceToNat] at ho6; rw [← Ny475.out] at ho6)); have n0_ := Aside0.mk (Kd.R_lower ho6 (below_size G.bel)); have n1_ := Aside0.mk (below_step G.bel hb); clear HB; have HO477 := n0_; have HB := n1_; clear n0_ n1_; clear hb ho6))
  repeat (go_quiet (first | ((with_reducible refine gate_dst (N := 6) rfl ?_); refine Kd.R_lit k55 _ 55 ?hg (N := 6) ?hd (xs := ([] : List (S55))) (inner := []) (ok := fun _ => True) (okp := fun _ => True) ?hr ?hp (fun _ hk => hk) trivial (Below.refl _ _) (Nat.le_refl _) (by simp) ?_; (case hd => rfl); (case hg => rfl); (case hr => first | (go_simp; done) | (go_simp; rfl)); (case hp => exact (Reps.none _ _)); intro v476 w5 ho6 hb hg_ hnew_; clear hg_ hnew_; (first | rw [← Ny475.out] at ho6 | (simp only [Int.reduceToNat] at ho6; rw [← Ny475.out] at ho6)); have n0_ := Aside0.mk (Kd.R_lower ho6 (below_size G.bel)); have n1_ := Aside0.mk (below_step G.bel hb); clear HB; have HO477 := n0_; have HB := n1_; clear n0_ n1_; clear hb ho6)); try go_wp2_with (first | ((with_reducible refine gate_dst (N := 6) rfl ?_); refine Kd.R_lit k55 _ 55 ?hg (N := 6) ?hd (xs := ([] : List (S55))) (inner := []) (ok := fun _ => True) (okp := fun _ => True) ?hr ?hp (fun _ hk => hk) trivial (Below.refl _ _) (Nat.le_refl _) (by simp) ?_; (case hd => rfl); (case hg => rfl); (case hr => first | (go_simp; done) | (go_simp; rfl)); (case hp => exact (Reps.none _ _)); intro v476 w5 ho6 hb hg_ hnew_; clear hg_ hnew_; (first | rw [← Ny475.out] at ho6 | (simp only [Int.reduceToNat] at ho6; rw [← Ny475.out] at ho6)); have n0_ := Aside0.mk (Kd.R_lower ho6 (below_size G.bel)); have n1_ := Aside0.mk (below_step G.bel hb); clear HB; have HO477 := n0_; have HB := n1_; clear n0_ n1_; clear hb ho6)))
  go_loopg [3, 13] k (fun kq v3 v13 w' => ∃ (x3_1 : List (S55)) (x13_1 : Int), v13 = .int .i64 x13_1 ∧ Aside0 (impl_SquaresOf.l0 kq l0 x3_1 (l0.length : Int) x13_1 = some r) ∧ Aside0 (kq ≤ k) ∧ Aside0 (Kd.R k55 55 w' w.heap.size (fun _ => True) v3 x3_1) ∧ Aside0 (Below w.heap.size w w'))
  case atStart => exact ⟨(y475), (0), (by first | rfl | (simp; done) | (simp [*]; done)), H', ⟨Nat.le_refl _⟩, ⟨by (with_reducible repeat (first | apply Kd.R_alloc | apply Kd.R_drewN | apply Kd.R_drew)); exact HO477.out⟩, ⟨G.bel⟩⟩
  case round =>
   clear H'
   try clear c2; try clear c2b0; try clear c2b1; try clear p2; try clear c4
   obtain ⟨x3_1, x13_1, rfl, HA, HK1, HO_3, HB⟩ := hrel
   cases gk with
   | zero => exact absurd HA.out (by simp [impl_SquaresOf.l0])
   | succ k1 =>
    have H := HA.out
    clear HA
    simp only [impl_SquaresOf.l0] at H
    by_cases c7 : x13_1 < (l0.length : Int)
    ·rw [if_pos c7] at H
     have c7b0 : decide (x13_1 < (l0.length : Int)) = true := decide_eq_true c7
     clear c7
     have H' := Aside0.mk H
     clear H
     go_wp2
     repeat (go_quiet (fail); try go_wp2)
     go_loopg [3, 5] k1 (fun kq v3 v5 w' => ∃ (x3_2 : List (S55)) (x5_2 : Int), v5 = .int .i64 x5_2 ∧ Aside0 (impl_SquaresOf.l1 kq l0 x3_2 x13_1 x5_2 (l0.length : Int) x13_1 = some r) ∧ Aside0 (kq ≤ k1) ∧ Aside0 (Kd.R k55 55 w' w.heap.size (fun _ => True) v3 x3_2) ∧ Aside0 (Below w.heap.size w w'))
     case atStart => exact ⟨(x3_1), (1), (by first | rfl | (simp; done) | (simp [*]; done)), H', ⟨Nat.le_refl _⟩, ⟨by (with_reducible repeat (first | apply Kd.R_alloc | apply Kd.R_drewN | apply Kd.R_drew)); exact HO_3.out⟩, ⟨G.bel⟩⟩
     case round =>
      clear H'
      try clear c2; try clear c2b0; try clear c2b1; try clear p2; try clear c4; try clear c7; try clear c7b0; try clear p2
      obtain ⟨x3_2, x5_2, rfl, HA, HK2, HO_3, HB⟩ := hrel
      cases gk with
      | zero => exact absurd HA.out (by simp [impl_SquaresOf.l1])
      | succ k2 =>
       have H := HA.out
       clear HA
       simp only [impl_SquaresOf.l1] at H
       by_cases c8 : (wrap64 (x13_1 + (wrap64 (2 * x5_2)))) ≤ (l0.length : Int)
       ·rw [if_pos c8] at H
        have c8b0 : decide ((wrap64 (x13_1 + (wrap64 (2 * x5_2)))) ≤ (l0.length : Int)) = true := decide_eq_true c8
        clear c8
        by_cases c9 : 0 ≤ x13_1
        ·rw [if_pos c9] at H
         have c9b0 := eq_true c9
         have c9b1 : decide (0 ≤ x13_1) = true := decide_eq_true c9
         clear c9
         by_cases c10 : x13_1 ≤ (wrap64 (x13_1 + x5_2))
         ·rw [if_pos c10] at H
          have c10b0 := eq_true c10
          have c10b1 : decide (x13_1 ≤ (wrap64 (x13_1 + x5_2))) = true := decide_eq_true c10
          by_cases c11 : (wrap64 (x13_1 + x5_2)) ≤ (l0.length : Int)
          ·rw [if_pos c11] at H
           have c11b0 := eq_true c11
           have c11b1 : decide ((wrap64 (x13_1 + x5_2)) ≤ (l0.length : Int)) = true := decide_eq_true c11
           obtain ⟨ji12, hji12⟩ : ∃ j_ : Int, (wrap64 (x13_1 + x5_2)) = j_ := ⟨_, rfl⟩
           replace H : (if 0 ≤ (ji12) then (if (ji12) ≤ (wrap64 (x13_1 + (wrap64 (2 * x5_2)))) then ((impl_CompareWords.f k2 ((l0.take ((ji12) : Int).toNat).drop (x13_1 : Int).toNat) ((l0.take ((wrap64 (x13_1 + (wrap64 (2 * x5_2)))) : Int).toNat).drop ((ji12) : Int).toNat)).bind fun t480 => (if t480 = 0 then (if x3_2.length < 5864062014805 then (impl_SquaresOf.l1 k2 l0 (x3_2 ++ [(⟨x13_1, x5_2, wrap64 (2 * x5_2)⟩ : S55)]) x13_1 (wrap64 (x5_2 + 1)) (l0.length : Int) x13_1) else (none)) else (impl_SquaresOf.l1 k2 l0 x3_2 x13_1 (wrap64 (x5_2 + 1)) (l0.length : Int) x13_1))) else (none)) else (none)) = some r := by first | (rw [hji12] at H; exact H) | (simp only [hji12] at H ⊢; exact H)
           (try rw [hji12] at c10b0)
           (try rw [hji12] at c10b1)
           (try rw [hji12] at c10)
           (try rw [hji12] at c11b0)
           (try rw [hji12] at c11b1)
           (try rw [hji12] at c11)
           have hji12w : (IntKind.i64.wrap (x13_1 + x5_2)) = ji12 := (i64_w _).trans hji12
           by_cases c13 : 0 ≤ (ji12)
           ·rw [if_pos c13] at H
            have c13b0 := eq_true c13
            have c13b1 : decide (0 ≤ (ji12)) = true := decide_eq_true c13
            clear c13
            by_cases c14 : (ji12) ≤ (wrap64 (x13_1 + (wrap64 (2 * x5_2))))
            ·rw [if_pos c14] at H
             have c14b0 := eq_true c14
             have c14b1 : decide ((ji12) ≤ (wrap64 (x13_1 + (wrap64 (2 * x5_2))))) = true := decide_eq_true c14
             have c15b0 := eq_true (G.odt : (wrap64 (x13_1 + (wrap64 (2 * x5_2)))) ≤ (l0.length : Int))
             replace H := Option.bind_eq_some_iff.mp H
             obtain ⟨t480, A160, H⟩ := H
             replace H : (if t480 = 0 then (if x3_2.length < 5864062014805 then (impl_SquaresOf.l1 k2 l0 (x3_2 ++ [(⟨x13_1, x5_2, wrap64 (2 * x5_2)⟩ : S55)]) x13_1 (wrap64 (x5_2 + 1)) (l0.length : Int) x13_1) else (none)) else (impl_SquaresOf.l1 k2 l0 x3_2 x13_1 (wrap64 (x5_2 + 1)) (l0.length : Int) x13_1)) = some r := H
             have A16 := Aside0.mk A160
             clear A160
             by_cases c17 : t480 = 0
             ·rw [if_pos c17] at H
              have c17b0 : (t480 == 0) = true := beq_iff_eq.mpr c17
              have c17b1 : (t480 != 0) = false := bne_eq_false_iff_eq.mpr c17
              clear c17
              by_cases c18 : x3_2.length < 5864062014805
              ·rw [if_pos c18] at H
               have LMc18 := Aside0.mk c18
               clear c18
               obtain ⟨y481, hy481⟩ : ∃ y_ : List (S55), y_ = (x3_2 ++ [(⟨x13_1, x5_2, wrap64 (2 * x5_2)⟩ : S55)]) := ⟨_, rfl⟩
               replace H : (impl_SquaresOf.l1 k2 l0 y481 x13_1 (wrap64 (x5_2 + 1)) (l0.length : Int) x13_1) = some r := by first | (rw [hy481]; with_reducible exact H) | (have H2_ := (Option.bind_some _ _).symm.trans H; rw [hy481]; with_reducible exact H2_) | (have H2_ := (Option.bind_some _ _).symm.trans H; with_reducible exact H2_) | with_reducible exact H | (rw [hy481]; exact H) | exact H
               have Ny481 := Aside0.mk hy481
               clear hy481
               have H' := Aside0.mk H
               clear H
               obtain ⟨i019, hi019, _, hsz19, _⟩ := info_parts info3
               obtain ⟨A19, hcut19, hA19, hC19⟩ := print_mid_of (P := Try.prog) (Value.int .i64) 0 22 3 .i64 .i64 Try.underlying22 hi019 hsz19 A0 c0 l0 x13_1 (ji12) G.odt (by first | omega | exact G.odt) G.odt HC0.out
               have HR478 := Aside0.mk (Kd.C_of_reads (h1 := fun _ => rfl) (hA19 _ (Kd.reads_of_C HR0.out)))
               have HC478 := Aside0.mk hC19
               clear hA19 hC19 hi019 hsz19
               obtain ⟨i020, hi020, _, hsz20, _⟩ := info_parts info3
               obtain ⟨A20, hcut20, hA20, hC20⟩ := print_mid_of (P := Try.prog) (Value.int .i64) 0 22 3 .i64 .i64 Try.underlying22 hi020 hsz20 A0 c0 l0 (ji12) (wrap64 (x13_1 + (wrap64 (2 * x5_2)))) G.odt (by first | omega | exact G.odt) G.odt HC0.out
               have HR479 := Aside0.mk (Kd.C_of_reads (h1 := fun _ => rfl) (hA20 _ (Kd.reads_of_C HR0.out)))
               have HC479 := Aside0.mk hC20
               clear hA20 hC20 hi020 hsz20
               have hwr_ : ∀ n : Int, IntKind.i64.wrap n = wrap64 n := i64_w
               go_wp2_with (first | (go_at_call 73; (try rw [show ((ji12) : Int).toNat - (x13_1 : Int).toNat = ((l0.take ((ji12) : Int).toNat).drop (x13_1 : Int).toNat).length from (by rw [List.length_drop, List.length_take]; have h_ : ((ji12) : Int) ≤ (l0.length : Int) := G.odt; omega), show ((wrap64 (x13_1 + (wrap64 (2 * x5_2)))) : Int).toNat - ((ji12) : Int).toNat = ((l0.take ((wrap64 (x13_1 + (wrap64 (2 * x5_2)))) : Int).toNat).drop ((ji12) : Int).toNat).length from (by rw [List.length_drop, List.length_take]; have h_ : ((wrap64 (x13_1 + (wrap64 (2 * x5_2)))) : Int) ≤ (l0.length : Int) := G.odt; omega)]); (with_reducible refine (impl_CompareWords.calls k2 _ _ ((l0.take ((ji12) : Int).toNat).drop (x13_1 : Int).toNat) _ _ ((l0.take ((wrap64 (x13_1 + (wrap64 (2 * x5_2)))) : Int).toNat).drop ((ji12) : Int).toNat) t480 _ ?side1 ?side2 ?side3 ?side4 A16.out).mono ?_); (case side1 => repeat (first | exact (Kd.C_below HR478.out HB.out) | (with_reducible refine Kd.C_alloc ?_ _) | (with_reducible refine Kd.C_drewN ?_ _) | (with_reducible refine Kd.C_drew ?_))); (case side2 => exact HC478.out); (case side3 => repeat (first | exact (Kd.C_below HR479.out HB.out) | (with_reducible refine Kd.C_alloc ?_ _) | (with_reducible refine Kd.C_drewN ?_ _) | (with_reducible refine Kd.C_drew ?_))); (case side4 => exact HC479.out); rintro e w' ⟨rfl, ⟨nd, rfl⟩⟩; (try first | exact ⟨rfl, _, World.drewN_drewN _ _ _⟩ | exact ⟨rfl, _, Eq.trans (World.drewN_drewN _ _ _) (congrArg (World.drewN _) (Nat.add_assoc _ _ _))⟩)) | ((with_reducible refine gate_builtin (b := .append) (xs := #[.tmp 42, .tmp 48]) rfl ?_); at_builtin; refine Kd.R_append k55 (w0 := w) w.heap.size rfl (.tmp 42) (.tmp 48) 51 55 (.agg #[(.int .i64 0), (.int .i64 0), (.int .i64 0)]) 24 rfl Try.underlying51 info55 rfl (by decide) (by omega) u3 x3_2 (⟨x13_1, x5_2, wrap64 (2 * x5_2)⟩ : S55) [.int .i64 x13_1, .int .i64 x5_2, .int .i64 (wrap64 (2 * x5_2))] (fun _ => True) (fun _ => False) rfl rfl ?aP (fun _ hk => hk.elim) ?aF ?aO ?aB ?aS ?aL ?_; (case aP => exact k55_mkM _ _ _ (⟨x13_1, x5_2, wrap64 (2 * x5_2)⟩ : S55)); (case aB => exact G.bel); (case aF => exact (fun _ _ => trivial)); (case aO => exact (by (with_reducible repeat (first | apply Kd.R_alloc | apply Kd.R_drewN | apply Kd.R_drew)); exact HO_3.out)); (case aS => exact (below_size G.bel)); (case aL => have := LMc18.out; omega); intro v482 w21 ho hb hg hat; rw [← Ny481.out] at ho; have n0_ := Aside0.mk (hb); have n1_ := Aside0.mk (ho); clear HB; clear HO_3; have HB := n0_; have HO483 := n1_; clear n0_ n1_; clear ho hb hg hat))
               repeat (go_quiet (first | (go_at_call 73; (try rw [show ((ji12) : Int).toNat - (x13_1 : Int).toNat = ((l0.take ((ji12) : Int).toNat).drop (x13_1 : Int).toNat).length from (by rw [List.length_drop, List.length_take]; have h_ : ((ji12) : Int) ≤ (l0.length : Int) := G.odt; omega), show ((wrap64 (x13_1 + (wrap64 (2 * x5_2)))) : Int).toNat - ((ji12) : Int).toNat = ((l0.take ((wrap64 (x13_1 + (wrap64 (2 * x5_2)))) : Int).toNat).drop ((ji12) : Int).toNat).length from (by rw [List.length_drop, List.length_take]; have h_ : ((wrap64 (x13_1 + (wrap64 (2 * x5_2)))) : Int) ≤ (l0.length : Int) := G.odt; omega)]); (with_reducible refine (impl_CompareWords.calls k2 _ _ ((l0.take ((ji12) : Int).toNat).drop (x13_1 : Int).toNat) _ _ ((l0.take ((wrap64 (x13_1 + (wrap64 (2 * x5_2)))) : Int).toNat).drop ((ji12) : Int).toNat) t480 _ ?side1 ?side2 ?side3 ?side4 A16.out).mono ?_); (case side1 => repeat (first | exact (Kd.C_below HR478.out HB.out) | (with_reducible refine Kd.C_alloc ?_ _) | (with_reducible refine Kd.C_drewN ?_ _) | (with_reducible refine Kd.C_drew ?_))); (case side2 => exact HC478.out); (case side3 => repeat (first | exact (Kd.C_below HR479.out HB.out) | (with_reducible refine Kd.C_alloc ?_ _) | (with_reducible refine Kd.C_drewN ?_ _) | (with_reducible refine Kd.C_drew ?_))); (case side4 => exact HC479.out); rintro e w' ⟨rfl, ⟨nd, rfl⟩⟩; (try first | exact ⟨rfl, _, World.drewN_drewN _ _ _⟩ | exact ⟨rfl, _, Eq.trans (World.drewN_drewN _ _ _) (congrArg (World.drewN _) (Nat.add_assoc _ _ _))⟩)) | ((with_reducible refine gate_builtin (b := .append) (xs := #[.tmp 42, .tmp 48]) rfl ?_); at_builtin; refine Kd.R_append k55 (w0 := w) w.heap.size rfl (.tmp 42) (.tmp 48) 51 55 (.agg #[(.int .i64 0), (.int .i64 0), (.int .i64 0)]) 24 rfl Try.underlying51 info55 rfl (by decide) (by omega) u3 x3_2 (⟨x13_1, x5_2, wrap64 (2 * x5_2)⟩ : S55) [.int .i64 x13_1, .int .i64 x5_2, .int .i64 (wrap64 (2 * x5_2))] (fun _ => True) (fun _ => False) rfl rfl ?aP (fun _ hk => hk.elim) ?aF ?aO ?aB ?aS ?aL ?_; (case aP => exact k55_mkM _ _ _ (⟨x13_1, x5_2, wrap64 (2 * x5_2)⟩ : S55)); (case aB => exact G.bel); (case aF => exact (fun _ _ => trivial)); (case aO => exact (by (with_reducible repeat (first | apply Kd.R_alloc | apply Kd.R_drewN | apply Kd.R_drew)); exact HO_3.out)); (case aS => exact (below_size G.bel)); (case aL => have := LMc18.out; omega); intro v482 w21 ho hb hg hat; rw [← Ny481.out] at ho; have n0_ := Aside0.mk (hb); have n1_ := Aside0.mk (ho); clear HB; clear HO_3; have HB := n0_; have HO483 := n1_; clear n0_ n1_; clear ho hb hg hat)); try go_wp2_with (first | (go_at_call 73; (try rw [show ((ji12) : Int).toNat - (x13_1 : Int).toNat = ((l0.take ((ji12) : Int).toNat).drop (x13_1 : Int).toNat).length from (by rw [List.length_drop, List.length_take]; have h_ : ((ji12) : Int) ≤ (l0.length : Int) := G.odt; omega), show ((wrap64 (x13_1 + (wrap64 (2 * x5_2)))) : Int).toNat - ((ji12) : Int).toNat = ((l0.take ((wrap64 (x13_1 + (wrap64 (2 * x5_2)))) : Int).toNat).drop ((ji12) : Int).toNat).length from (by rw [List.length_drop, List.length_take]; have h_ : ((wrap64 (x13_1 + (wrap64 (2 * x5_2)))) : Int) ≤ (l0.length : Int) := G.odt; omega)]); (with_reducible refine (impl_CompareWords.calls k2 _ _ ((l0.take ((ji12) : Int).toNat).drop (x13_1 : Int).toNat) _ _ ((l0.take ((wrap64 (x13_1 + (wrap64 (2 * x5_2)))) : Int).toNat).drop ((ji12) : Int).toNat) t480 _ ?side1 ?side2 ?side3 ?side4 A16.out).mono ?_); (case side1 => repeat (first | exact (Kd.C_below HR478.out HB.out) | (with_reducible refine Kd.C_alloc ?_ _) | (with_reducible refine Kd.C_drewN ?_ _) | (with_reducible refine Kd.C_drew ?_))); (case side2 => exact HC478.out); (case side3 => repeat (first | exact (Kd.C_below HR479.out HB.out) | (with_reducible refine Kd.C_alloc ?_ _) | (with_reducible refine Kd.C_drewN ?_ _) | (with_reducible refine Kd.C_drew ?_))); (case side4 => exact HC479.out); rintro e w' ⟨rfl, ⟨nd, rfl⟩⟩; (try first | exact ⟨rfl, _, World.drewN_drewN _ _ _⟩ | exact ⟨rfl, _, Eq.trans (World.drewN_drewN _ _ _) (congrArg (World.drewN _) (Nat.add_assoc _ _ _))⟩)) | ((with_reducible refine gate_builtin (b := .append) (xs := #[.tmp 42, .tmp 48]) rfl ?_); at_builtin; refine Kd.R_append k55 (w0 := w) w.heap.size rfl (.tmp 42) (.tmp 48) 51 55 (.agg #[(.int .i64 0), (.int .i64 0), (.int .i64 0)]) 24 rfl Try.underlying51 info55 rfl (by decide) (by omega) u3 x3_2 (⟨x13_1, x5_2, wrap64 (2 * x5_2)⟩ : S55) [.int .i64 x13_1, .int .i64 x5_2, .int .i64 (wrap64 (2 * x5_2))] (fun _ => True) (fun _ => False) rfl rfl ?aP (fun _ hk => hk.elim) ?aF ?aO ?aB ?aS ?aL ?_; (case aP => exact k55_mkM _ _ _ (⟨x13_1, x5_2, wrap64 (2 * x5_2)⟩ : S55)); (case aB => exact G.bel); (case aF => exact (fun _ _ => trivial)); (case aO => exact (by (with_reducible repeat (first | apply Kd.R_alloc | apply Kd.R_drewN | apply Kd.R_drew)); exact HO_3.out)); (case aS => exact (below_size G.bel)); (case aL => have := LMc18.out; omega); intro v482 w21 ho hb hg hat; rw [← Ny481.out] at ho; have n0_ := Aside0.mk (hb); have n1_ := Aside0.mk (ho); clear HB; clear HO_3; have HB := n0_; have HO483 := n1_; clear n0_ n1_; clear ho hb hg hat)))
               go_roundg k2
               case measure => have := HK1.out; have := HK2.out; omega
               case rel => exact ⟨(y481), (wrap64 (x5_2 + 1)), (by first | rfl | (simp; done) | (simp [*]; done)), H', ⟨by have := HK1.out; have := HK2.out; omega⟩, ⟨by (with_reducible repeat (first | apply Kd.R_alloc | apply Kd.R_drewN | apply Kd.R_drew)); exact HO483.out⟩, ⟨G.bel⟩⟩
              ·rw [if_neg c18] at H
               exact absurd H (by simp)
             ·rw [if_neg c17] at H
              have c17b0 : (t480 == 0) = false := beq_eq_false_iff_ne.mpr c17
              have c17b1 : (t480 != 0) = true := bne_iff_ne.mpr c17
              have H' := Aside0.mk H
              clear H
              obtain ⟨i022, hi022, _, hsz22, _⟩ := info_parts info3
              obtain ⟨A22, hcut22, hA22, hC22⟩ := print_mid_of (P := Try.prog) (Value.int .i64) 0 22 3 .i64 .i64 Try.underlying22 hi022 hsz22 A0 c0 l0 x13_1 (ji12) G.odt (by first | omega | exact G.odt) G.odt HC0.out
              have HR478 := Aside0.mk (Kd.C_of_reads (h1 := fun _ => rfl) (hA22 _ (Kd.reads_of_C HR0.out)))
              have HC478 := Aside0.mk hC22
              clear hA22 hC22 hi022 hsz22
              obtain ⟨i023, hi023, _, hsz23, _⟩ := info_parts info3
              obtain ⟨A23, hcut23, hA23, hC23⟩ := print_mid_of (P := Try.prog) (Value.int .i64) 0 22 3 .i64 .i64 Try.underlying22 hi023 hsz23 A0 c0 l0 (ji12) (wrap64 (x13_1 + (wrap64 (2 * x5_2)))) G.odt (by first | omega | exact G.odt) G.odt HC0.out
              have HR479 := Aside0.mk (Kd.C_of_reads (h1 := fun _ => rfl) (hA23 _ (Kd.reads_of_C HR0.out)))
              have HC479 := Aside0.mk hC23
              clear hA23 hC23 hi023 hsz23
              have hwr_ : ∀ n : Int, IntKind.i64.wrap n = wrap64 n := i64_w
              go_wp2_with (first | (go_at_call 73; (try rw [show ((ji12) : Int).toNat - (x13_1 : Int).toNat = ((l0.take ((ji12) : Int).toNat).drop (x13_1 : Int).toNat).length from (by rw [List.length_drop, List.length_take]; have h_ : ((ji12) : Int) ≤ (l0.length : Int) := G.odt; omega), show ((wrap64 (x13_1 + (wrap64 (2 * x5_2)))) : Int).toNat - ((ji12) : Int).toNat = ((l0.take ((wrap64 (x13_1 + (wrap64 (2 * x5_2)))) : Int).toNat).drop ((ji12) : Int).toNat).length from (by rw [List.length_drop, List.length_take]; have h_ : ((wrap64 (x13_1 + (wrap64 (2 * x5_2)))) : Int) ≤ (l0.length : Int) := G.odt; omega)]); (with_reducible refine (impl_CompareWords.calls k2 _ _ ((l0.take ((ji12) : Int).toNat).drop (x13_1 : Int).toNat) _ _ ((l0.take ((wrap64 (x13_1 + (wrap64 (2 * x5_2)))) : Int).toNat).drop ((ji12) : Int).toNat) t480 _ ?side1 ?side2 ?side3 ?side4 A16.out).mono ?_); (case side1 => repeat (first | exact (Kd.C_below HR478.out HB.out) | (with_reducible refine Kd.C_alloc ?_ _) | (with_reducible refine Kd.C_drewN ?_ _) | (with_reducible refine Kd.C_drew ?_))); (case side2 => exact HC478.out); (case side3 => repeat (first | exact (Kd.C_below HR479.out HB.out) | (with_reducible refine Kd.C_alloc ?_ _) | (with_reducible refine Kd.C_drewN ?_ _) | (with_reducible refine Kd.C_drew ?_))); (case side4 => exact HC479.out); rintro e w' ⟨rfl, ⟨nd, rfl⟩⟩; (try first | exact ⟨rfl, _, World.drewN_drewN _ _ _⟩ | exact ⟨rfl, _, Eq.trans (World.drewN_drewN _ _ _) (congrArg (World.drewN _) (Nat.add_assoc _ _ _))⟩)))
              repeat (go_quiet (first | (go_at_call 73; (try rw [show ((ji12) : Int).toNat - (x13_1 : Int).toNat = ((l0.take ((ji12) : Int).toNat).drop (x13_1 : Int).toNat).length from (by rw [List.length_drop, List.length_take]; have h_ : ((ji12) : Int) ≤ (l0.length : Int) := G.odt; omega), show ((wrap64 (x13_1 + (wrap64 (2 * x5_2)))) : Int).toNat - ((ji12) : Int).toNat = ((l0.take ((wrap64 (x13_1 + (wrap64 (2 * x5_2)))) : Int).toNat).drop ((ji12) : Int).toNat).length from (by rw [List.length_drop, List.length_take]; have h_ : ((wrap64 (x13_1 + (wrap64 (2 * x5_2)))) : Int) ≤ (l0.length : Int) := G.odt; omega)]); (with_reducible refine (impl_CompareWords.calls k2 _ _ ((l0.take ((ji12) : Int).toNat).drop (x13_1 : Int).toNat) _ _ ((l0.take ((wrap64 (x13_1 + (wrap64 (2 * x5_2)))) : Int).toNat).drop ((ji12) : Int).toNat) t480 _ ?side1 ?side2 ?side3 ?side4 A16.out).mono ?_); (case side1 => repeat (first | exact (Kd.C_below HR478.out HB.out) | (with_reducible refine Kd.C_alloc ?_ _) | (with_reducible refine Kd.C_drewN ?_ _) | (with_reducible refine Kd.C_drew ?_))); (case side2 => exact HC478.out); (case side3 => repeat (first | exact (Kd.C_below HR479.out HB.out) | (with_reducible refine Kd.C_alloc ?_ _) | (with_reducible refine Kd.C_drewN ?_ _) | (with_reducible refine Kd.C_drew ?_))); (case side4 => exact HC479.out); rintro e w' ⟨rfl, ⟨nd, rfl⟩⟩; (try first | exact ⟨rfl, _, World.drewN_drewN _ _ _⟩ | exact ⟨rfl, _, Eq.trans (World.drewN_drewN _ _ _) (congrArg (World.drewN _) (Nat.add_assoc _ _ _))⟩))); try go_wp2_with (first | (go_at_call 73; (try rw [show ((ji12) : Int).toNat - (x13_1 : Int).toNat = ((l0.take ((ji12) : Int).toNat).drop (x13_1 : Int).toNat).length from (by rw [List.length_drop, List.length_take]; have h_ : ((ji12) : Int) ≤ (l0.length : Int) := G.odt; omega), show ((wrap64 (x13_1 + (wrap64 (2 * x5_2)))) : Int).toNat - ((ji12) : Int).toNat = ((l0.take ((wrap64 (x13_1 + (wrap64 (2 * x5_2)))) : Int).toNat).drop ((ji12) : Int).toNat).length from (by rw [List.length_drop, List.length_take]; have h_ : ((wrap64 (x13_1 + (wrap64 (2 * x5_2)))) : Int) ≤ (l0.length : Int) := G.odt; omega)]); (with_reducible refine (impl_CompareWords.calls k2 _ _ ((l0.take ((ji12) : Int).toNat).drop (x13_1 : Int).toNat) _ _ ((l0.take ((wrap64 (x13_1 + (wrap64 (2 * x5_2)))) : Int).toNat).drop ((ji12) : Int).toNat) t480 _ ?side1 ?side2 ?side3 ?side4 A16.out).mono ?_); (case side1 => repeat (first | exact (Kd.C_below HR478.out HB.out) | (with_reducible refine Kd.C_alloc ?_ _) | (with_reducible refine Kd.C_drewN ?_ _) | (with_reducible refine Kd.C_drew ?_))); (case side2 => exact HC478.out); (case side3 => repeat (first | exact (Kd.C_below HR479.out HB.out) | (with_reducible refine Kd.C_alloc ?_ _) | (with_reducible refine Kd.C_drewN ?_ _) | (with_reducible refine Kd.C_drew ?_))); (case side4 => exact HC479.out); rintro e w' ⟨rfl, ⟨nd, rfl⟩⟩; (try first | exact ⟨rfl, _, World.drewN_drewN _ _ _⟩ | exact ⟨rfl, _, Eq.trans (World.drewN_drewN _ _ _) (congrArg (World.drewN _) (Nat.add_assoc _ _ _))⟩))))
              go_roundg k2
              case measure => have := HK1.out; have := HK2.out; omega
              case rel => exact ⟨(x3_2), (wrap64 (x5_2 + 1)), (by first | rfl | (simp; done) | (simp [*]; done)), H', ⟨by have := HK1.out; have := HK2.out; omega⟩, ⟨by (with_reducible repeat (first | apply Kd.R_alloc | apply Kd.R_drewN | apply Kd.R_drew)); exact HO_3.out⟩, ⟨G.bel⟩⟩
            ·rw [if_neg c14] at H
             exact absurd H (by simp)
           ·rw [if_neg c13] at H
            exact absurd H (by simp)
          ·rw [if_neg c11] at H
           exact absurd H (by simp)
         ·rw [if_neg c10] at H
          exact absurd H (by simp)
        ·rw [if_neg c9] at H
         exact absurd H (by simp)
       ·rw [if_neg c8] at H
        have c8b0 : decide ((wrap64 (x13_1 + (wrap64 (2 * x5_2)))) ≤ (l0.length : Int)) = false := decide_eq_false c8
        clear c8
        have H' := Aside0.mk H
        clear H
        go_wp2
        repeat (go_quiet (fail); try go_wp2)
        go_roundg k2
        case measure => have := HK1.out; have := HK2.out; omega
        case rel => exact ⟨(x3_2), (wrap64 (x13_1 + 1)), (by first | rfl | (simp; done) | (simp [*]; done)), H', ⟨by have := HK1.out; have := HK2.out; omega⟩, ⟨by (with_reducible repeat (first | apply Kd.R_alloc | apply Kd.R_drewN | apply Kd.R_drew)); exact HO_3.out⟩, ⟨G.bel⟩⟩
    ·rw [if_neg c7] at H
     have c7b0 : decide (x13_1 < (l0.length : Int)) = false := decide_eq_false c7
     clear c7
     obtain rfl := Option.some.inj H
     go_wp2
     repeat (go_quiet (fail); try go_wp2)
     go_ret
     exact ⟨_, by first | rfl | (simp [errW_none, errW_some] <;> rfl) | (simp [*, errW_none, errW_some] <;> rfl), by (with_reducible repeat (first | apply Kd.R_alloc | apply Kd.R_drewN | apply Kd.R_drew)); exact HO_3.out, G.bel⟩

/-! ### spec_l10Match: function 123 -/
def spec_l10Match.l0 : Nat → List Int → Int → Int → Int → Option (Int)
 | 0, _, _, _, _ => none
 | k + 1, x0, x1, x2, x7 => if (wrap64 (x1 + x7)) < (x0.length : Int) then (if 0 ≤ (wrap64 (x1 + x7)) then (if 0 ≤ (wrap64 ((wrap64 (x1 + x7)) - x2)) then (if (wrap64 ((wrap64 (x1 + x7)) - x2)) < (x0.length : Int) then (if (rd x0 (wrap64 (x1 + x7))) = (rd x0 (wrap64 ((wrap64 (x1 + x7)) - x2))) then (spec_l10Match.l0 k x0 x1 x2 (wrap64 (x7 + 1))) else (some (mn x7 (wrap64 ((x0.length : Int) - x1))))) else (none)) else (none)) else (none)) else (some (mn x7 (wrap64 ((x0.length : Int) - x1))))
def spec_l10Match.f (k : Nat) (l0 : List Int) (a1 : Int) (a2 : Int) : Option (Int) := spec_l10Match.l0 k l0 a1 a2 a2
set_option maxHeartbeats 8000000 in
set_option maxRecDepth 100000 in
theorem spec_l10Match.calls (k : Nat) (A0 : Option Addr) (c0 : Nat) (l0 : List Int) (a1 : Int) (a2 : Int) (r : Int) (w : World) (hr0 : Kd.C (Kd.int .i64) w A0 l0.length l0) (hc0 : l0.length ≤ c0) (h : spec_l10Match.f k l0 a1 a2 = some r) :
  Calls Try.prog 123 #[.slice A0 l0.length c0, .int .i64 a1, .int .i64 a2] w fun e w' => e = .returned (.int .i64 r) ∧ Below w.heap.size w w' := by
 have HR0 := Aside0.mk hr0
 have HC0 := Aside0.mk hc0
 clear hr0 hc0
 have HB := Aside0.mk (Below.refl w.heap.size w)
 have H : (spec_l10Match.l0 k l0 a1 a2 a2) = some r := h
 clear h
 have H' := Aside0.mk H
 clear H
 go_enter Try.func123, Try.ntmps123
 go_wp2
 repeat (go_quiet (fail); try go_wp2)
 go_loopg [7] k (fun kq v7 w' => ∃ (x7_1 : Int), v7 = .int .i64 x7_1 ∧ Aside0 (spec_l10Match.l0 kq l0 a1 a2 x7_1 = some r) ∧ Aside0 (kq ≤ k) ∧ Aside0 (Below w.heap.size w w'))
 case atStart => exact ⟨(a2), (by first | rfl | (simp; done) | (simp [*]; done)), H', ⟨Nat.le_refl _⟩, ⟨G.bel⟩⟩
 case round =>
  clear H'
  try clear c1; try clear p2
  obtain ⟨x7_1, rfl, HA, HK1, HB⟩ := hrel
  cases gk with
  | zero => exact absurd HA.out (by simp [spec_l10Match.l0])
  | succ k1 =>
   have H := HA.out
   clear HA
   simp only [spec_l10Match.l0] at H
   by_cases c4 : (wrap64 (a1 + x7_1)) < (l0.length : Int)
   ·rw [if_pos c4] at H
    have c4b0 : decide ((wrap64 (a1 + x7_1)) < (l0.length : Int)) = true := decide_eq_true c4
    clear c4
    obtain ⟨ji5, hji5⟩ : ∃ j_ : Int, (wrap64 (a1 + x7_1)) = j_ := ⟨_, rfl⟩
    replace H : (if 0 ≤ (ji5) then (if 0 ≤ (wrap64 ((ji5) - a2)) then (if (wrap64 ((ji5) - a2)) < (l0.length : Int) then (if (rd l0 (ji5)) = (rd l0 (wrap64 ((ji5) - a2))) then (spec_l10Match.l0 k1 l0 a1 a2 (wrap64 (x7_1 + 1))) else (some (mn x7_1 (wrap64 ((l0.length : Int) - a1))))) else (none)) else (none)) else (none)) = some r := by first | (rw [hji5] at H; exact H) | (simp only [hji5] at H ⊢; exact H)
    (try rw [hji5] at c4b0)
    have hji5w : (IntKind.i64.wrap (a1 + x7_1)) = ji5 := (i64_w _).trans hji5
    by_cases c6 : 0 ≤ (ji5)
    ·rw [if_pos c6] at H
     have c6b0 : decide (0 ≤ (ji5)) = true := decide_eq_true c6
     clear c6
     obtain ⟨ji7, hji7⟩ : ∃ j_ : Int, (wrap64 ((ji5) - a2)) = j_ := ⟨_, rfl⟩
     replace H : (if 0 ≤ (ji7) then (if (ji7) < (l0.length : Int) then (if (rd l0 (ji5)) = (rd l0 (ji7)) then (spec_l10Match.l0 k1 l0 a1 a2 (wrap64 (x7_1 + 1))) else (some (mn x7_1 (wrap64 ((l0.length : Int) - a1))))) else (none)) else (none)) = some r := by first | (rw [hji7] at H; exact H) | (simp only [hji7] at H ⊢; exact H)
     have hji7w : (IntKind.i64.wrap ((ji5) - a2)) = ji7 := (i64_w _).trans hji7
     by_cases c8 : 0 ≤ (ji7)
     ·rw [if_pos c8] at H
      have c8b0 : decide (0 ≤ (ji7)) = true := decide_eq_true c8
      clear c8
      by_cases c9 : (ji7) < (l0.length : Int)
      ·rw [if_pos c9] at H
       have c9b0 : decide ((ji7) < (l0.length : Int)) = true := decide_eq_true c9
       clear c9
       by_cases c10 : (rd l0 (ji5)) = (rd l0 (ji7))
       ·rw [if_pos c10] at H
        have c10b0 : ((rd l0 (ji5)) == (rd l0 (ji7))) = true := beq_iff_eq.mpr c10
        have c10b1 : ((rd l0 (ji5)) != (rd l0 (ji7))) = false := bne_eq_false_iff_eq.mpr c10
        clear c10
        have H' := Aside0.mk H
        clear H
        have p484 : 0 ≤ ((ji5) : Int) := G.odt
        have q484 : (ji5) < (l0.length : Int) := G.odt
        obtain ⟨ad484, e484, hx484_0⟩ := Kd.at_int HR0.out (ji5) p484 q484
        cases e484
        replace hx484_0 := (HB.out.cell (World.block_lt_of_cell? w _ hx484_0)).trans hx484_0
        replace p484 := eq_true p484
        replace q484 := eq_true q484
        have p485 : 0 ≤ ((ji7) : Int) := G.odt
        have q485 : (ji7) < (l0.length : Int) := G.odt
        obtain ⟨ad485, e485, hx485_0⟩ := Kd.at_int HR0.out (ji7) p485 q485
        obtain rfl : ad484 = ad485 := (by injection e485)
        replace hx485_0 := (HB.out.cell (World.block_lt_of_cell? w _ hx485_0)).trans hx485_0
        replace p485 := eq_true p485
        replace q485 := eq_true q485
        go_wp2
        repeat (go_quiet (fail); try go_wp2)
        go_roundg k1
        case measure => have := HK1.out; omega
        case rel => exact ⟨(wrap64 (x7_1 + 1)), (by first | rfl | (simp; done) | (simp [*]; done)), H', ⟨by have := HK1.out; omega⟩, ⟨G.bel⟩⟩
       ·rw [if_neg c10] at H
        have c10b0 : ((rd l0 (ji5)) == (rd l0 (ji7))) = false := beq_eq_false_iff_ne.mpr c10
        have c10b1 : ((rd l0 (ji5)) != (rd l0 (ji7))) = true := bne_iff_ne.mpr c10
        obtain ⟨ji11, hji11⟩ : ∃ j_ : Int, (mn x7_1 (wrap64 ((l0.length : Int) - a1))) = j_ := ⟨_, rfl⟩
        replace H : (some ji11) = some r := by first | (rw [hji11] at H; exact H) | (simp only [hji11] at H ⊢; exact H)
        have hji11_ : (if (wrap64 ((l0.length : Int) - a1)) < x7_1 then (wrap64 ((l0.length : Int) - a1)) else x7_1) = ji11 := hji11
        obtain rfl := Option.some.inj H
        have p484 : 0 ≤ ((ji5) : Int) := G.odt
        have q484 : (ji5) < (l0.length : Int) := G.odt
        obtain ⟨ad484, e484, hx484_0⟩ := Kd.at_int HR0.out (ji5) p484 q484
        cases e484
        replace hx484_0 := (HB.out.cell (World.block_lt_of_cell? w _ hx484_0)).trans hx484_0
        replace p484 := eq_true p484
        replace q484 := eq_true q484
        have p485 : 0 ≤ ((ji7) : Int) := G.odt
        have q485 : (ji7) < (l0.length : Int) := G.odt
        obtain ⟨ad485, e485, hx485_0⟩ := Kd.at_int HR0.out (ji7) p485 q485
        obtain rfl : ad484 = ad485 := (by injection e485)
        replace hx485_0 := (HB.out.cell (World.block_lt_of_cell? w _ hx485_0)).trans hx485_0
        replace p485 := eq_true p485
        replace q485 := eq_true q485
        go_wp2
        repeat (go_quiet (fail); try go_wp2)
        go_ret
        exact ⟨by first | rfl | (simp [errW_none, errW_some] <;> rfl) | (simp only [← hji5, ← hji7, ← hji11]; first | rfl | (simp [errW_none, errW_some] <;> rfl)) | (simp [*, errW_none, errW_some] <;> rfl), G.bel⟩
      ·rw [if_neg c9] at H
       exact absurd H (by simp)
     ·rw [if_neg c8] at H
      exact absurd H (by simp)
    ·rw [if_neg c6] at H
     exact absurd H (by simp)
   ·rw [if_neg c4] at H
    have c4b0 : decide ((wrap64 (a1 + x7_1)) < (l0.length : Int)) = false := decide_eq_false c4
    clear c4
    obtain ⟨ji12, hji12⟩ : ∃ j_ : Int, (mn x7_1 (wrap64 ((l0.length : Int) - a1))) = j_ := ⟨_, rfl⟩
    replace H : (some ji12) = some r := by first | (rw [hji12] at H; exact H) | (simp only [hji12] at H ⊢; exact H)
    have hji12_ : (if (wrap64 ((l0.length : Int) - a1)) < x7_1 then (wrap64 ((l0.length : Int) - a1)) else x7_1) = ji12 := hji12
    obtain rfl := Option.some.inj H
    go_wp2
    repeat (go_quiet (fail); try go_wp2)
    go_ret
    exact ⟨by first | rfl | (simp [errW_none, errW_some] <;> rfl) | (simp only [← hji12]; first | rfl | (simp [errW_none, errW_some] <;> rfl)) | (simp [*, errW_none, errW_some] <;> rfl), G.bel⟩

/-! ### spec_SquaresOf: function 44 -/
mutual
def spec_SquaresOf.l0 : Nat → List Int → List (S55) → Int → Option ((List (S55)))
 | 0, _, _, _ => none
 | k + 1, x0, x3, x4 => if x4 < (x0.length : Int) then (spec_SquaresOf.l1 k x0 x3 x4 1) else (some x3)
def spec_SquaresOf.l1 : Nat → List Int → List (S55) → Int → Int → Option ((List (S55)))
 | 0, _, _, _, _ => none
 | k + 1, x0, x3, x4, x5 => if (wrap64 (x4 + (wrap64 (2 * x5)))) ≤ (x0.length : Int) then ((spec_l10Match.f k x0 x4 x5).bind fun t489 => (if t489 ≥ (wrap64 (2 * x5)) then (if x3.length < 5864062014805 then (spec_SquaresOf.l1 k x0 (x3 ++ [(⟨x4, x5, wrap64 (2 * x5)⟩ : S55)]) x4 (wrap64 (x5 + 1))) else (none)) else (spec_SquaresOf.l1 k x0 x3 x4 (wrap64 (x5 + 1))))) else (spec_SquaresOf.l0 k x0 x3 (wrap64 (x4 + 1)))
end
def spec_SquaresOf.f (k : Nat) (l0 : List Int) : Option ((List (S55))) := (some (([] : List (S55)) : List (S55))).bind fun y486 => (if (l0.length : Int) > 64 then (some y486) else (spec_SquaresOf.l0 k l0 y486 0))
set_option maxHeartbeats 8000000 in
set_option maxRecDepth 100000 in
theorem spec_SquaresOf.calls (k : Nat) (A0 : Option Addr) (c0 : Nat) (l0 : List Int) (r : List (S55)) (w : World) (hr0 : Kd.C (Kd.int .i64) w A0 l0.length l0) (hc0 : l0.length ≤ c0) (h : spec_SquaresOf.f k l0 = some r) :
  Calls Try.prog 44 #[.slice A0 l0.length c0] w fun e w' => ∃ v0_ : Value, e = .returned (v0_) ∧ Kd.R k55 55 w' w.heap.size (fun _ => True) v0_ r ∧ Below w.heap.size w w' := by
 have hu55 := Try.underlying55
 have HR0 := Aside0.mk hr0
 have HC0 := Aside0.mk hc0
 clear hr0 hc0
 have HB := Aside0.mk (Below.refl w.heap.size w)
 have H : ((some (([] : List (S55)) : List (S55))).bind fun y486 => (if (l0.length : Int) > 64 then (some y486) else (spec_SquaresOf.l0 k l0 y486 0))) = some r := h
 clear h
 obtain ⟨y486, hy486⟩ : ∃ y_ : List (S55), y_ = (([] : List (S55))) := ⟨_, rfl⟩
 replace H : (if (l0.length : Int) > 64 then (some y486) else (spec_SquaresOf.l0 k l0 y486 0)) = some r := by first | (rw [hy486]; with_reducible exact H) | (have H2_ := (Option.bind_some _ _).symm.trans H; rw [hy486]; with_reducible exact H2_) | (have H2_ := (Option.bind_some _ _).symm.trans H; with_reducible exact H2_) | with_reducible exact H | (rw [hy486]; exact H) | exact H
 have Ny486 := Aside0.mk hy486
 clear hy486
 by_cases c2 : (l0.length : Int) > 64
 ·rw [if_pos c2] at H
  have c2b0 : decide (64 < (l0.length : Int)) = true := decide_eq_true c2
  have c2b1 : decide (64 < l0.length) = true := decide_eq_true (by omega)
  clear c2
  obtain rfl := Option.some.inj H
  go_enter Try.func44, Try.ntmps44
  go_wp2_with (first | ((with_reducible refine gate_dst (N := 6) rfl ?_); refine Kd.R_lit k55 _ 55 ?hg (N := 6) ?hd (xs := ([] : List (S55))) (inner := []) (ok := fun _ => True) (okp := fun _ => True) ?hr ?hp (fun _ hk => hk) trivial (Below.refl _ _) (Nat.le_refl _) (by simp) ?_; (case hd => rfl); (case hg => rfl); (case hr => first | (go_simp; done) | (go_simp; rfl)); (case hp => exact (Reps.none _ _)); intro v487 w3 ho4 hb hg_ hnew_; clear hg_ hnew_; (first | rw [← Ny486.out] at ho4 | (simp only [Int.reduceToNat] at ho4; rw [← Ny486.out] at ho4)); have n0_ := Aside0.mk (Kd.R_lower ho4 (below_size G.bel)); have n1_ := Aside0.mk (below_step G.bel hb); clear HB; have HO488 := n0_; have HB := n1_; clear n0_ n1_; clear hb ho4))
  go_ret
  exact ⟨_, by first | rfl | (simp [errW_none, errW_some] <;> rfl) | (simp [*, errW_none, errW_some] <;> rfl), by (with_reducible repeat (first | apply Kd.R_alloc | apply Kd.R_drewN | apply Kd.R_drew)); exact HO488.out, G.bel⟩
 ·rw [if_neg c2] at H
  have c2b0 : decide (64 < (l0.length : Int)) = false := decide_eq_false c2
  have c2b1 : decide (64 < l0.length) = false := decide_eq_false (by omega)
  clear c2
  have H' := Aside0.mk H
  clear H
  go_enter Try.func44, Try.ntmps44
  go_wp2_with (first | ((with_reducible refine gate_dst (N := 6) rfl ?_); refine Kd.R_lit k55 _ 55 ?hg (N := 6) ?hd (xs := ([] : List (S55))) (inner := []) (ok := fun _ => True) (okp := fun _ => True) ?hr ?hp (fun _ hk => hk) trivial (Below.refl _ _) (Nat.le_refl _) (by simp) ?_; (case hd => rfl); (case hg => rfl); (case hr => first | (go_simp; done) | (go_simp; rfl)); (case hp => exact (Reps.none _ _)); intro v487 w5 ho6 hb hg_ hnew_; clear hg_ hnew_; (first | rw [← Ny486.out] at ho6 | (simp only [Int.reduceToNat] at ho6; rw [← Ny486.out] at ho6)); have n0_ := Aside0.mk (Kd.R_lower ho6 (below_size G.bel)); have n1_ := Aside0.mk (below_step G.bel hb); clear HB; have HO488 := n0_; have HB := n1_; clear n0_ n1_; clear hb ho6))
  go_loopg [3, 4] k (fun kq v3 v4 w' => ∃ (x3_1 : List (S55)) (x4_1 : Int), v4 = .int .i64 x4_1 ∧ Aside0 (spec_SquaresOf.l0 kq l0 x3_1 x4_1 = some r) ∧ Aside0 (kq ≤ k) ∧ Aside0 (Kd.R k55 55 w' w.heap.size (fun _ => True) v3 x3_1) ∧ Aside0 (Below w.heap.size w w'))
  case atStart => exact ⟨(y486), (0), (by first | rfl | (simp; done) | (simp [*]; done)), H', ⟨Nat.le_refl _⟩, ⟨by (with_reducible repeat (first | apply Kd.R_alloc | apply Kd.R_drewN | apply Kd.R_drew)); exact HO488.out⟩, ⟨G.bel⟩⟩
  case round =>
   clear H'
   try clear c2; try clear c2b0; try clear c2b1; try clear p2; try clear c4
   obtain ⟨x3_1, x4_1, rfl, HA, HK1, HO_3, HB⟩ := hrel
   cases gk with
   | zero => exact absurd HA.out (by simp [spec_SquaresOf.l0])
   | succ k1 =>
    have H := HA.out
    clear HA
    simp only [spec_SquaresOf.l0] at H
    by_cases c7 : x4_1 < (l0.length : Int)
    ·rw [if_pos c7] at H
     have c7b0 : decide (x4_1 < (l0.length : Int)) = true := decide_eq_true c7
     clear c7
     have H' := Aside0.mk H
     clear H
     go_wp2
     go_loopg [3, 5] k1 (fun kq v3 v5 w' => ∃ (x3_2 : List (S55)) (x5_2 : Int), v5 = .int .i64 x5_2 ∧ Aside0 (spec_SquaresOf.l1 kq l0 x3_2 x4_1 x5_2 = some r) ∧ Aside0 (kq ≤ k1) ∧ Aside0 (Kd.R k55 55 w' w.heap.size (fun _ => True) v3 x3_2) ∧ Aside0 (Below w.heap.size w w'))
     case atStart => exact ⟨(x3_1), (1), (by first | rfl | (simp; done) | (simp [*]; done)), H', ⟨Nat.le_refl _⟩, ⟨by (with_reducible repeat (first | apply Kd.R_alloc | apply Kd.R_drewN | apply Kd.R_drew)); exact HO_3.out⟩, ⟨G.bel⟩⟩
     case round =>
      clear H'
      try clear c2; try clear c2b0; try clear c2b1; try clear p2; try clear c4; try clear c7; try clear c7b0; try clear p2
      obtain ⟨x3_2, x5_2, rfl, HA, HK2, HO_3, HB⟩ := hrel
      cases gk with
      | zero => exact absurd HA.out (by simp [spec_SquaresOf.l1])
      | succ k2 =>
       have H := HA.out
       clear HA
       simp only [spec_SquaresOf.l1] at H
       by_cases c8 : (wrap64 (x4_1 + (wrap64 (2 * x5_2)))) ≤ (l0.length : Int)
       ·rw [if_pos c8] at H
        have c8b0 : decide ((wrap64 (x4_1 + (wrap64 (2 * x5_2)))) ≤ (l0.length : Int)) = true := decide_eq_true c8
        clear c8
        replace H := Option.bind_eq_some_iff.mp H
        obtain ⟨t489, A90, H⟩ := H
        replace H : (if t489 ≥ (wrap64 (2 * x5_2)) then (if x3_2.length < 5864062014805 then (spec_SquaresOf.l1 k2 l0 (x3_2 ++ [(⟨x4_1, x5_2, wrap64 (2 * x5_2)⟩ : S55)]) x4_1 (wrap64 (x5_2 + 1))) else (none)) else (spec_SquaresOf.l1 k2 l0 x3_2 x4_1 (wrap64 (x5_2 + 1)))) = some r := H
        have A9 := Aside0.mk A90
        clear A90
        by_cases c10 : t489 ≥ (wrap64 (2 * x5_2))
        ·rw [if_pos c10] at H
         have c10b0 : decide ((wrap64 (2 * x5_2)) ≤ t489) = true := decide_eq_true c10
         clear c10
         by_cases c11 : x3_2.length < 5864062014805
         ·rw [if_pos c11] at H
          have LMc11 := Aside0.mk c11
          clear c11
          obtain ⟨y490, hy490⟩ : ∃ y_ : List (S55), y_ = (x3_2 ++ [(⟨x4_1, x5_2, wrap64 (2 * x5_2)⟩ : S55)]) := ⟨_, rfl⟩
          replace H : (spec_SquaresOf.l1 k2 l0 y490 x4_1 (wrap64 (x5_2 + 1))) = some r := by first | (rw [hy490]; with_reducible exact H) | (have H2_ := (Option.bind_some _ _).symm.trans H; rw [hy490]; with_reducible exact H2_) | (have H2_ := (Option.bind_some _ _).symm.trans H; with_reducible exact H2_) | with_reducible exact H | (rw [hy490]; exact H) | exact H
          have Ny490 := Aside0.mk hy490
          clear hy490
          have H' := Aside0.mk H
          clear H
          go_wp2_with (first | ((with_reducible refine gate_callee (f := 123) rfl ?_); refine goesL_ (some 29) rfl rfl Try.func123 (by kernel_rfl) rfl #[.slice A0 l0.length c0, .int .i64 x4_1, .int .i64 x5_2] rfl (by (try simp only [List.map_toArray, List.map_cons, List.map_nil]); first | done | rfl | (simp only [List.length_drop, List.length_take]; rfl)) ?_; (with_reducible refine (spec_l10Match.calls k2 _ _ l0 x4_1 x5_2 t489 _ ?side1 ?side2 A9.out).mono ?_); (case side1 => repeat (first | exact (Kd.C_below HR0.out HB.out) | (with_reducible refine Kd.C_alloc ?_ _) | (with_reducible refine Kd.C_drewN ?_ _) | (with_reducible refine Kd.C_drew ?_))); (case side2 => exact HC0.out); rintro e w12 ⟨rfl, hb⟩; refine ⟨_, rfl, ?_⟩; have n0_ := Aside0.mk (Kd.R_below (by (with_reducible repeat (first | apply Kd.R_alloc | apply Kd.R_drewN | apply Kd.R_drew)); exact HO_3.out) hb); have n1_ := Aside0.mk (below_step G.bel hb); clear HO_3; clear HB; have HO_3 := n0_; have HB := n1_; clear n0_ n1_; (try clear hb); (try clear hb2); (try clear hk); (try clear hi)) | ((with_reducible refine gate_builtin (b := .append) (xs := #[.tmp 33, .tmp 39]) rfl ?_); at_builtin; refine Kd.R_append k55 (w0 := w) w.heap.size rfl (.tmp 33) (.tmp 39) 51 55 (.agg #[(.int .i64 0), (.int .i64 0), (.int .i64 0)]) 24 rfl Try.underlying51 info55 rfl (by decide) (by omega) u3 x3_2 (⟨x4_1, x5_2, wrap64 (2 * x5_2)⟩ : S55) [.int .i64 x4_1, .int .i64 x5_2, .int .i64 (wrap64 (2 * x5_2))] (fun _ => True) (fun _ => False) rfl rfl ?aP (fun _ hk => hk.elim) ?aF ?aO ?aB ?aS ?aL ?_; (case aP => exact k55_mkM _ _ _ (⟨x4_1, x5_2, wrap64 (2 * x5_2)⟩ : S55)); (case aB => exact G.bel); (case aF => exact (fun _ _ => trivial)); (case aO => exact (by (with_reducible repeat (first | apply Kd.R_alloc | apply Kd.R_drewN | apply Kd.R_drew)); exact HO_3.out)); (case aS => exact (below_size G.bel)); (case aL => have := LMc11.out; omega); intro v491 w13 ho hb hg hat; rw [← Ny490.out] at ho; have n0_ := Aside0.mk (hb); have n1_ := Aside0.mk (ho); clear HB; clear HO_3; have HB := n0_; have HO492 := n1_; clear n0_ n1_; clear ho hb hg hat))
          go_roundg k2
          case measure => have := HK1.out; have := HK2.out; omega
          case rel => exact ⟨(y490), (wrap64 (x5_2 + 1)), (by first | rfl | (simp; done) | (simp [*]; done)), H', ⟨by have := HK1.out; have := HK2.out; omega⟩, ⟨by (with_reducible repeat (first | apply Kd.R_alloc | apply Kd.R_drewN | apply Kd.R_drew)); exact HO492.out⟩, ⟨G.bel⟩⟩
         ·rw [if_neg c11] at H
          exact absurd H (by simp)
        ·rw [if_neg c10] at H
         have c10b0 : decide ((wrap64 (2 * x5_2)) ≤ t489) = false := decide_eq_false c10
         clear c10
         have H' := Aside0.mk H
         clear H
         go_wp2_with (first | ((with_reducible refine gate_callee (f := 123) rfl ?_); refine goesL_ (some 29) rfl rfl Try.func123 (by kernel_rfl) rfl #[.slice A0 l0.length c0, .int .i64 x4_1, .int .i64 x5_2] rfl (by (try simp only [List.map_toArray, List.map_cons, List.map_nil]); first | done | rfl | (simp only [List.length_drop, List.length_take]; rfl)) ?_; (with_reducible refine (spec_l10Match.calls k2 _ _ l0 x4_1 x5_2 t489 _ ?side1 ?side2 A9.out).mono ?_); (case side1 => repeat (first | exact (Kd.C_below HR0.out HB.out) | (with_reducible refine Kd.C_alloc ?_ _) | (with_reducible refine Kd.C_drewN ?_ _) | (with_reducible refine Kd.C_drew ?_))); (case side2 => exact HC0.out); rintro e w14 ⟨rfl, hb⟩; refine ⟨_, rfl, ?_⟩; have n0_ := Aside0.mk (Kd.R_below (by (with_reducible repeat (first | apply Kd.R_alloc | apply Kd.R_drewN | apply Kd.R_drew)); exact HO_3.out) hb); have n1_ := Aside0.mk (below_step G.bel hb); clear HO_3; clear HB; have HO_3 := n0_; have HB := n1_; clear n0_ n1_; (try clear hb); (try clear hb2); (try clear hk); (try clear hi)))
         go_roundg k2
         case measure => have := HK1.out; have := HK2.out; omega
         case rel => exact ⟨(x3_2), (wrap64 (x5_2 + 1)), (by first | rfl | (simp; done) | (simp [*]; done)), H', ⟨by have := HK1.out; have := HK2.out; omega⟩, ⟨by (with_reducible repeat (first | apply Kd.R_alloc | apply Kd.R_drewN | apply Kd.R_drew)); exact HO_3.out⟩, ⟨G.bel⟩⟩
       ·rw [if_neg c8] at H
        have c8b0 : decide ((wrap64 (x4_1 + (wrap64 (2 * x5_2)))) ≤ (l0.length : Int)) = false := decide_eq_false c8
        clear c8
        have H' := Aside0.mk H
        clear H
        go_wp2
        go_roundg k2
        case measure => have := HK1.out; have := HK2.out; omega
        case rel => exact ⟨(x3_2), (wrap64 (x4_1 + 1)), (by first | rfl | (simp; done) | (simp [*]; done)), H', ⟨by have := HK1.out; have := HK2.out; omega⟩, ⟨by (with_reducible repeat (first | apply Kd.R_alloc | apply Kd.R_drewN | apply Kd.R_drew)); exact HO_3.out⟩, ⟨G.bel⟩⟩
    ·rw [if_neg c7] at H
     have c7b0 : decide (x4_1 < (l0.length : Int)) = false := decide_eq_false c7
     clear c7
     obtain rfl := Option.some.inj H
     go_wp2
     go_ret
     exact ⟨_, by first | rfl | (simp [errW_none, errW_some] <;> rfl) | (simp [*, errW_none, errW_some] <;> rfl), by (with_reducible repeat (first | apply Kd.R_alloc | apply Kd.R_drewN | apply Kd.R_drew)); exact HO_3.out, G.bel⟩

end Go.Proofs.Ytolikggioekalab.PFnPowers
