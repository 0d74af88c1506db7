/- The Go functions that the law FnExactRightSpecial reaches (part 5): each as a Lean function, and that its code comes to these answers. No condition beyond those written. -/
import Derived.Test.YtolikggioekalabGPile
import Derived.Test.YtolikggioekalabMFnExactRightSpecialx4
import Derived.Test.YtolikggioekalabMFnExactRightSpecialx3
import Derived.Test.YtolikggioekalabMFnExactRightSpecialx2
import Derived.Test.YtolikggioekalabMFnExactRightSpecialx0
import Derived.Test.YtolikggioekalabMFnExactRightSpecialx1
namespace Go.Proofs.Ytolikggioekalab.PFnExactRightSpecial
open Go.RowKit Go.Proofs.YtolikggioekalabW.PrintWords Go.Proofs.YtolikggioekalabW.PrintLast Go.Proofs.YtolikggioekalabW.PrintMore
attribute [local go_sem] max2_int min2_int max_two min_two max_three min_three max_four min_four   -- for this text's walks alone
set_option linter.unusedVariables false
set_option linter.unusedSimpArgs false

/-! ### cmp_isNaN_int: function 157 -/
def cmp_isNaN_int.f (a0 : Int) : Option (Bool) := some (a0 != a0)
set_option maxHeartbeats 8000000 in
set_option maxRecDepth 100000 in
theorem cmp_isNaN_int.calls (a0 : Int) (r : Bool) (w : World) (h : cmp_isNaN_int.f a0 = some r) :
    Calls Try.prog 157 #[.int .i64 a0] w fun e w' => e = .returned (.bool r) ∧ Drawn0 w w' := by
  have H : (some (a0 != a0)) = some r := h
  clear h
  obtain rfl := Option.some.inj H
  go_enter Try.func157, Try.ntmps157
  go_wp2
  go_ret
  exact ⟨by first | rfl | (simp; done) | (simp [*]; done), by repeat (first | exact Drawn0.refl _ | apply Drawn0.step)⟩

/-! ### cmp_Compare_int: function 109 -/
def cmp_Compare_int.f (a0 : Int) (a1 : Int) : Option (Int) := (cmp_isNaN_int.f a0).bind fun t218 => ((cmp_isNaN_int.f a1).bind fun t219 => (if t218 = true then (if t219 = true then (some 0) else (some (-1))) else (if t219 = true then (some 1) else (if a0 < a1 then (some (-1)) else (if a0 > a1 then (some 1) else (some 0))))))
set_option maxHeartbeats 8000000 in
set_option maxRecDepth 100000 in
theorem cmp_Compare_int.calls (a0 : Int) (a1 : Int) (r : Int) (w : World) (h : cmp_Compare_int.f a0 a1 = some r) :
    Calls Try.prog 109 #[.int .i64 a0, .int .i64 a1] w fun e w' => e = .returned (.int .i64 r) ∧ Drawn0 w w' := by
  have H : ((cmp_isNaN_int.f a0).bind fun t218 => ((cmp_isNaN_int.f a1).bind fun t219 => (if t218 = true then (if t219 = true then (some 0) else (some (-1))) else (if t219 = true then (some 1) else (if a0 < a1 then (some (-1)) else (if a0 > a1 then (some 1) else (some 0))))))) = some r := h
  clear h
  replace H := Option.bind_eq_some_iff.mp H
  obtain ⟨t218, A30, H⟩ := H
  replace H : ((cmp_isNaN_int.f a1).bind fun t219 => (if t218 = true then (if t219 = true then (some 0) else (some (-1))) else (if t219 = true then (some 1) else (if a0 < a1 then (some (-1)) else (if a0 > a1 then (some 1) else (some 0)))))) = some r := H
  have A3 := Aside0.mk A30
  clear A30
  replace H := Option.bind_eq_some_iff.mp H
  obtain ⟨t219, A40, H⟩ := H
  replace H : (if t218 = true then (if t219 = true then (some 0) else (some (-1))) else (if t219 = true then (some 1) else (if a0 < a1 then (some (-1)) else (if a0 > a1 then (some 1) else (some 0))))) = some r := H
  have A4 := Aside0.mk A40
  clear A40
  by_cases c5 : t218 = true
  · subst c5
    have H1 : (if t219 = true then (some 0) else (some (-1))) = some r := by rw [if_pos rfl] at H; exact H
    clear H
    have H := H1
    clear H1
    by_cases c6 : t219 = true
    · subst c6
      have H1 : (some 0) = some r := by rw [if_pos rfl] at H; exact H
      clear H
      have H := H1
      clear H1
      obtain rfl := Option.some.inj H
      go_enter Try.func109, Try.ntmps109
      go_wp2_with (first | ((with_reducible refine gate_callee (f := 157) rfl ?_); refine goesL_ (some 8) rfl rfl Try.func157 (by kernel_rfl) rfl #[.int .i64 a0] rfl (by (try simp only [List.map_toArray, List.map_cons, List.map_nil]); first | done | rfl | (simp only [List.length_drop, List.length_take]; rfl)) ?_; (with_reducible refine (cmp_isNaN_int.calls a0 true _ A3.out).mono ?_); rintro e w' ⟨rfl, ⟨nd, rfl⟩⟩; refine ⟨_, rfl, ?_⟩) | ((with_reducible refine gate_callee (f := 157) rfl ?_); refine goesL_ (some 10) rfl rfl Try.func157 (by kernel_rfl) rfl #[.int .i64 a1] rfl (by (try simp only [List.map_toArray, List.map_cons, List.map_nil]); first | done | rfl | (simp only [List.length_drop, List.length_take]; rfl)) ?_; (with_reducible refine (cmp_isNaN_int.calls a1 true _ A4.out).mono ?_); rintro e w' ⟨rfl, ⟨nd, rfl⟩⟩; refine ⟨_, rfl, ?_⟩))
      go_ret
      exact ⟨by first | rfl | (simp; done) | (simp [*]; done), by repeat (first | exact Drawn0.refl _ | apply Drawn0.step)⟩
    · replace c6 := Bool.eq_false_iff.mpr c6
      subst c6
      have H1 : (some (-1)) = some r := by rw [if_neg (show ¬ (false = true) by decide)] at H; exact H
      clear H
      have H := H1
      clear H1
      obtain rfl := Option.some.inj H
      go_enter Try.func109, Try.ntmps109
      go_wp2_with (first | ((with_reducible refine gate_callee (f := 157) rfl ?_); refine goesL_ (some 8) rfl rfl Try.func157 (by kernel_rfl) rfl #[.int .i64 a0] rfl (by (try simp only [List.map_toArray, List.map_cons, List.map_nil]); first | done | rfl | (simp only [List.length_drop, List.length_take]; rfl)) ?_; (with_reducible refine (cmp_isNaN_int.calls a0 true _ A3.out).mono ?_); rintro e w' ⟨rfl, ⟨nd, rfl⟩⟩; refine ⟨_, rfl, ?_⟩) | ((with_reducible refine gate_callee (f := 157) rfl ?_); refine goesL_ (some 10) rfl rfl Try.func157 (by kernel_rfl) rfl #[.int .i64 a1] rfl (by (try simp only [List.map_toArray, List.map_cons, List.map_nil]); first | done | rfl | (simp only [List.length_drop, List.length_take]; rfl)) ?_; (with_reducible refine (cmp_isNaN_int.calls a1 false _ A4.out).mono ?_); rintro e w' ⟨rfl, ⟨nd, rfl⟩⟩; refine ⟨_, rfl, ?_⟩))
      go_ret
      exact ⟨by first | rfl | (simp; done) | (simp [*]; done), by repeat (first | exact Drawn0.refl _ | apply Drawn0.step)⟩
  · replace c5 := Bool.eq_false_iff.mpr c5
    subst c5
    have H1 : (if t219 = true then (some 1) else (if a0 < a1 then (some (-1)) else (if a0 > a1 then (some 1) else (some 0)))) = some r := by rw [if_neg (show ¬ (false = true) by decide)] at H; exact H
    clear H
    have H := H1
    clear H1
    by_cases c7 : t219 = true
    · subst c7
      have H1 : (some 1) = some r := by rw [if_pos rfl] at H; exact H
      clear H
      have H := H1
      clear H1
      obtain rfl := Option.some.inj H
      go_enter Try.func109, Try.ntmps109
      go_wp2_with (first | ((with_reducible refine gate_callee (f := 157) rfl ?_); refine goesL_ (some 8) rfl rfl Try.func157 (by kernel_rfl) rfl #[.int .i64 a0] rfl (by (try simp only [List.map_toArray, List.map_cons, List.map_nil]); first | done | rfl | (simp only [List.length_drop, List.length_take]; rfl)) ?_; (with_reducible refine (cmp_isNaN_int.calls a0 false _ A3.out).mono ?_); rintro e w' ⟨rfl, ⟨nd, rfl⟩⟩; refine ⟨_, rfl, ?_⟩) | ((with_reducible refine gate_callee (f := 157) rfl ?_); refine goesL_ (some 10) rfl rfl Try.func157 (by kernel_rfl) rfl #[.int .i64 a1] rfl (by (try simp only [List.map_toArray, List.map_cons, List.map_nil]); first | done | rfl | (simp only [List.length_drop, List.length_take]; rfl)) ?_; (with_reducible refine (cmp_isNaN_int.calls a1 true _ A4.out).mono ?_); rintro e w' ⟨rfl, ⟨nd, rfl⟩⟩; refine ⟨_, rfl, ?_⟩))
      go_ret
      exact ⟨by first | rfl | (simp; done) | (simp [*]; done), by repeat (first | exact Drawn0.refl _ | apply Drawn0.step)⟩
    · replace c7 := Bool.eq_false_iff.mpr c7
      subst c7
      have H1 : (if a0 < a1 then (some (-1)) else (if a0 > a1 then (some 1) else (some 0))) = some r := by rw [if_neg (show ¬ (false = true) by decide)] at H; exact H
      clear H
      have H := H1
      clear H1
      by_cases c8 : a0 < a1
      · rw [if_pos c8] at H
        have c8b0 : decide (a0 < a1) = true := decide_eq_true c8
        clear c8
        obtain rfl := Option.some.inj H
        go_enter Try.func109, Try.ntmps109
        go_wp2_with (first | ((with_reducible refine gate_callee (f := 157) rfl ?_); refine goesL_ (some 8) rfl rfl Try.func157 (by kernel_rfl) rfl #[.int .i64 a0] rfl (by (try simp only [List.map_toArray, List.map_cons, List.map_nil]); first | done | rfl | (simp only [List.length_drop, List.length_take]; rfl)) ?_; (with_reducible refine (cmp_isNaN_int.calls a0 false _ A3.out).mono ?_); rintro e w' ⟨rfl, ⟨nd, rfl⟩⟩; refine ⟨_, rfl, ?_⟩) | ((with_reducible refine gate_callee (f := 157) rfl ?_); refine goesL_ (some 10) rfl rfl Try.func157 (by kernel_rfl) rfl #[.int .i64 a1] rfl (by (try simp only [List.map_toArray, List.map_cons, List.map_nil]); first | done | rfl | (simp only [List.length_drop, List.length_take]; rfl)) ?_; (with_reducible refine (cmp_isNaN_int.calls a1 false _ A4.out).mono ?_); rintro e w' ⟨rfl, ⟨nd, rfl⟩⟩; refine ⟨_, rfl, ?_⟩))
        go_ret
        exact ⟨by first | rfl | (simp; done) | (simp [*]; done), by repeat (first | exact Drawn0.refl _ | apply Drawn0.step)⟩
      · rw [if_neg c8] at H
        have c8b0 : decide (a0 < a1) = false := decide_eq_false c8
        clear c8
        by_cases c9 : a0 > a1
        · rw [if_pos c9] at H
          have c9b0 : decide (a1 < a0) = true := decide_eq_true c9
          clear c9
          obtain rfl := Option.some.inj H
          go_enter Try.func109, Try.ntmps109
          go_wp2_with (first | ((with_reducible refine gate_callee (f := 157) rfl ?_); refine goesL_ (some 8) rfl rfl Try.func157 (by kernel_rfl) rfl #[.int .i64 a0] rfl (by (try simp only [List.map_toArray, List.map_cons, List.map_nil]); first | done | rfl | (simp only [List.length_drop, List.length_take]; rfl)) ?_; (with_reducible refine (cmp_isNaN_int.calls a0 false _ A3.out).mono ?_); rintro e w' ⟨rfl, ⟨nd, rfl⟩⟩; refine ⟨_, rfl, ?_⟩) | ((with_reducible refine gate_callee (f := 157) rfl ?_); refine goesL_ (some 10) rfl rfl Try.func157 (by kernel_rfl) rfl #[.int .i64 a1] rfl (by (try simp only [List.map_toArray, List.map_cons, List.map_nil]); first | done | rfl | (simp only [List.length_drop, List.length_take]; rfl)) ?_; (with_reducible refine (cmp_isNaN_int.calls a1 false _ A4.out).mono ?_); rintro e w' ⟨rfl, ⟨nd, rfl⟩⟩; refine ⟨_, rfl, ?_⟩))
          go_ret
          exact ⟨by first | rfl | (simp; done) | (simp [*]; done), by repeat (first | exact Drawn0.refl _ | apply Drawn0.step)⟩
        · rw [if_neg c9] at H
          have c9b0 : decide (a1 < a0) = false := decide_eq_false c9
          clear c9
          obtain rfl := Option.some.inj H
          go_enter Try.func109, Try.ntmps109
          go_wp2_with (first | ((with_reducible refine gate_callee (f := 157) rfl ?_); refine goesL_ (some 8) rfl rfl Try.func157 (by kernel_rfl) rfl #[.int .i64 a0] rfl (by (try simp only [List.map_toArray, List.map_cons, List.map_nil]); first | done | rfl | (simp only [List.length_drop, List.length_take]; rfl)) ?_; (with_reducible refine (cmp_isNaN_int.calls a0 false _ A3.out).mono ?_); rintro e w' ⟨rfl, ⟨nd, rfl⟩⟩; refine ⟨_, rfl, ?_⟩) | ((with_reducible refine gate_callee (f := 157) rfl ?_); refine goesL_ (some 10) rfl rfl Try.func157 (by kernel_rfl) rfl #[.int .i64 a1] rfl (by (try simp only [List.map_toArray, List.map_cons, List.map_nil]); first | done | rfl | (simp only [List.length_drop, List.length_take]; rfl)) ?_; (with_reducible refine (cmp_isNaN_int.calls a1 false _ A4.out).mono ?_); rintro e w' ⟨rfl, ⟨nd, rfl⟩⟩; refine ⟨_, rfl, ?_⟩))
          go_ret
          exact ⟨by first | rfl | (simp; done) | (simp [*]; done), by repeat (first | exact Drawn0.refl _ | apply Drawn0.step)⟩

/-! ### slices_Compare_int_int: function 116 -/
def slices_Compare_int_int.l0 : Nat → List Int → List Int → List Int → Int → Int → Option (Int)
  | 0, _, _, _, _, _ => none
  | k + 1, x0, x1, x9, x10, x11 => if x11 < x10 then (if 0 ≤ x11 then (if x11 < (x9.length : Int) then (if x11 ≥ (x1.length : Int) then (some 1) else (if x11 < (x1.length : Int) then ((cmp_Compare_int.f (rd x9 x11) (rd x1 x11)).bind fun t222 => (if t222 = 0 then (slices_Compare_int_int.l0 k x0 x1 x9 x10 (wrap64 (x11 + 1))) else (some t222))) else (none))) else (none)) else (none)) else (if (x0.length : Int) < (x1.length : Int) then (some (-1)) else (some 0))
def slices_Compare_int_int.f (k : Nat) (l0 : List Int) (l1 : List Int) : Option (Int) := slices_Compare_int_int.l0 k l0 l1 l0 (l0.length : Int) 0
theorem slices_Compare_int_int.mono_l : ∀ k, (∀ y0 y1 y2 y3 y4, LeO (slices_Compare_int_int.l0 k y0 y1 y2 y3 y4) (slices_Compare_int_int.l0 (k + 1) y0 y1 y2 y3 y4))
  | 0 => fun _ _ _ _ _ r h => by simp [slices_Compare_int_int.l0] at h
  | k + 1 => by
    have ih0 := slices_Compare_int_int.mono_l k
    · intro y0 y1 y2 y3 y4
      unfold slices_Compare_int_int.l0
      repeat' first
      | (with_reducible exact ih0 _ _ _ _ _)
      | (with_reducible exact LeO.refl _)
      | (with_reducible exact LeO.none _)
      | (with_reducible refine LeO.ite ?_ ?_)
      | (with_reducible refine LeO.bind ?_ (fun _ => ?_))
      | exact ih0 _ _ _ _ _
      | exact LeO.none _
      | refine LeO.ite ?_ ?_
      | refine LeO.bind ?_ (fun _ => ?_)
theorem slices_Compare_int_int.mono : ∀ a0 a1 k, LeO (slices_Compare_int_int.f k a0 a1) (slices_Compare_int_int.f (k + 1) a0 a1) := by
  intro a0 a1 k
  have ih0 := slices_Compare_int_int.mono_l k
  unfold slices_Compare_int_int.f
  repeat' first
      | (with_reducible exact ih0 _ _ _ _ _)
      | (with_reducible exact LeO.refl _)
      | (with_reducible exact LeO.none _)
      | (with_reducible refine LeO.ite ?_ ?_)
      | (with_reducible refine LeO.bind ?_ (fun _ => ?_))
      | exact ih0 _ _ _ _ _
      | exact LeO.none _
      | refine LeO.ite ?_ ?_
      | refine LeO.bind ?_ (fun _ => ?_)
set_option maxHeartbeats 8000000 in
set_option maxRecDepth 100000 in
theorem slices_Compare_int_int.calls (k : Nat) (A0 : Option Addr) (c0 : Nat) (l0 : List Int) (A1 : Option Addr) (c1 : Nat) (l1 : List Int) (r : Int) (w : World) (hr0 : Kd.C (Kd.int .i64) w A0 l0.length l0) (hc0 : l0.length ≤ c0) (hr1 : Kd.C (Kd.int .i64) w A1 l1.length l1) (hc1 : l1.length ≤ c1) (h : slices_Compare_int_int.f k l0 l1 = some r) :
    Calls Try.prog 116 #[.slice A0 l0.length c0, .slice A1 l1.length c1] w fun e w' => e = .returned (.int .i64 r) ∧ Drawn0 w w' := by
  have HR0 := Aside0.mk hr0
  have HC0 := Aside0.mk hc0
  clear hr0 hc0
  have HR1 := Aside0.mk hr1
  have HC1 := Aside0.mk hc1
  clear hr1 hc1
  have H : (slices_Compare_int_int.l0 k l0 l1 l0 (l0.length : Int) 0) = some r := h
  clear h
  have H' := Aside0.mk H
  clear H
  go_enter Try.func116, Try.ntmps116
  go_wp2
  go_loopg [11] k (fun kq v11 w' => ∃ (x11_1 : Int), v11 = .int .i64 x11_1 ∧ Aside0 (slices_Compare_int_int.l0 kq l0 l1 l0 (l0.length : Int) x11_1 = some r) ∧ Aside0 (kq ≤ k) ∧ Drawn0 w w')
  case atStart => exact ⟨(0), (by first | rfl | (simp; done) | (simp [*]; done)), H', ⟨Nat.le_refl _⟩, by repeat (first | exact Drawn0.refl _ | apply Drawn0.step)⟩
  case round =>
    clear H'
    try clear c1
    try clear p2
    obtain ⟨x11_1, rfl, HA, HK1, ⟨m1, rfl⟩⟩ := hrel
    cases gk with
    | zero => exact absurd HA.out (by simp [slices_Compare_int_int.l0])
    | succ k1 =>
      have H := HA.out
      clear HA
      simp only [slices_Compare_int_int.l0] at H
      by_cases c3 : x11_1 < (l0.length : Int)
      · rw [if_pos c3] at H
        have c3b0 : decide (x11_1 < (l0.length : Int)) = true := decide_eq_true c3
        clear c3
        by_cases c4 : 0 ≤ x11_1
        · rw [if_pos c4] at H
          have c4b0 : decide (0 ≤ x11_1) = true := decide_eq_true c4
          clear c4
          by_cases c5 : x11_1 < (l0.length : Int)
          · rw [if_pos c5] at H
            have c5b0 : decide (x11_1 < (l0.length : Int)) = true := decide_eq_true c5
            clear c5
            by_cases c6 : x11_1 ≥ (l1.length : Int)
            · rw [if_pos c6] at H
              have c6b0 : decide ((l1.length : Int) ≤ x11_1) = true := decide_eq_true c6
              clear c6
              obtain rfl := Option.some.inj H
              have p220 : 0 ≤ (x11_1 : Int) := of_decide_eq_true (by first | (with_reducible assumption) | assumption)
              have q220 : x11_1 < (l0.length : Int) := of_decide_eq_true (by first | (with_reducible assumption) | assumption)
              obtain ⟨ad220, e220, hx220_0⟩ := Kd.at_int HR0.out x11_1 p220 q220
              cases e220
              replace p220 := eq_true p220
              replace q220 := eq_true q220
              go_wp2
              go_ret
              exact ⟨by first | rfl | (simp; done) | (simp [*]; done), by repeat (first | exact Drawn0.refl _ | apply Drawn0.step)⟩
            · rw [if_neg c6] at H
              have c6b0 : decide ((l1.length : Int) ≤ x11_1) = false := decide_eq_false c6
              clear c6
              by_cases c7 : x11_1 < (l1.length : Int)
              · rw [if_pos c7] at H
                have c7b0 : decide (x11_1 < (l1.length : Int)) = true := decide_eq_true c7
                clear c7
                replace H := Option.bind_eq_some_iff.mp H
                obtain ⟨t222, A80, H⟩ := H
                replace H : (if t222 = 0 then (slices_Compare_int_int.l0 k1 l0 l1 l0 (l0.length : Int) (wrap64 (x11_1 + 1))) else (some t222)) = some r := H
                have A8 := Aside0.mk A80
                clear A80
                by_cases c9 : t222 = 0
                · rw [if_pos c9] at H
                  have c9b0 : (t222 == 0) = true := beq_iff_eq.mpr c9
                  have c9b1 : (t222 != 0) = false := bne_eq_false_iff_eq.mpr c9
                  clear c9
                  have H' := Aside0.mk H
                  clear H
                  have p220 : 0 ≤ (x11_1 : Int) := of_decide_eq_true (by first | (with_reducible assumption) | assumption)
                  have q220 : x11_1 < (l0.length : Int) := of_decide_eq_true (by first | (with_reducible assumption) | assumption)
                  obtain ⟨ad220, e220, hx220_0⟩ := Kd.at_int HR0.out x11_1 p220 q220
                  cases e220
                  replace p220 := eq_true p220
                  replace q220 := eq_true q220
                  have p221 : 0 ≤ (x11_1 : Int) := of_decide_eq_true (by first | (with_reducible assumption) | assumption)
                  have q221 : x11_1 < (l1.length : Int) := of_decide_eq_true (by first | (with_reducible assumption) | assumption)
                  obtain ⟨ad221, e221, hx221_0⟩ := Kd.at_int HR1.out x11_1 p221 q221
                  cases e221
                  replace p221 := eq_true p221
                  replace q221 := eq_true q221
                  go_wp2_with (first | ((with_reducible refine gate_callee (f := 109) rfl ?_); refine goesL_ (some 26) rfl rfl Try.func109 (by kernel_rfl) rfl #[.int .i64 (rd l0 x11_1), .int .i64 (rd l1 x11_1)] rfl (by (try simp only [List.map_toArray, List.map_cons, List.map_nil]); first | done | rfl | (simp only [List.length_drop, List.length_take]; rfl)) ?_; (with_reducible refine (cmp_Compare_int.calls (rd l0 x11_1) (rd l1 x11_1) t222 _ A8.out).mono ?_); rintro e w' ⟨rfl, ⟨nd, rfl⟩⟩; refine ⟨_, rfl, ?_⟩))
                  go_roundg k1
                  case measure => have := HK1.out; omega
                  case rel => exact ⟨(wrap64 (x11_1 + 1)), (by first | rfl | (simp; done) | (simp [*]; done)), H', ⟨by have := HK1.out; omega⟩, by repeat (first | exact Drawn0.refl _ | apply Drawn0.step)⟩
                · rw [if_neg c9] at H
                  have c9b0 : (t222 == 0) = false := beq_eq_false_iff_ne.mpr c9
                  have c9b1 : (t222 != 0) = true := bne_iff_ne.mpr c9
                  obtain rfl := Option.some.inj H
                  have p220 : 0 ≤ (x11_1 : Int) := of_decide_eq_true (by first | (with_reducible assumption) | assumption)
                  have q220 : x11_1 < (l0.length : Int) := of_decide_eq_true (by first | (with_reducible assumption) | assumption)
                  obtain ⟨ad220, e220, hx220_0⟩ := Kd.at_int HR0.out x11_1 p220 q220
                  cases e220
                  replace p220 := eq_true p220
                  replace q220 := eq_true q220
                  have p221 : 0 ≤ (x11_1 : Int) := of_decide_eq_true (by first | (with_reducible assumption) | assumption)
                  have q221 : x11_1 < (l1.length : Int) := of_decide_eq_true (by first | (with_reducible assumption) | assumption)
                  obtain ⟨ad221, e221, hx221_0⟩ := Kd.at_int HR1.out x11_1 p221 q221
                  cases e221
                  replace p221 := eq_true p221
                  replace q221 := eq_true q221
                  go_wp2_with (first | ((with_reducible refine gate_callee (f := 109) rfl ?_); refine goesL_ (some 26) rfl rfl Try.func109 (by kernel_rfl) rfl #[.int .i64 (rd l0 x11_1), .int .i64 (rd l1 x11_1)] rfl (by (try simp only [List.map_toArray, List.map_cons, List.map_nil]); first | done | rfl | (simp only [List.length_drop, List.length_take]; rfl)) ?_; (with_reducible refine (cmp_Compare_int.calls (rd l0 x11_1) (rd l1 x11_1) t222 _ A8.out).mono ?_); rintro e w' ⟨rfl, ⟨nd, rfl⟩⟩; refine ⟨_, rfl, ?_⟩))
                  go_ret
                  exact ⟨by first | rfl | (simp; done) | (simp [*]; done), by repeat (first | exact Drawn0.refl _ | apply Drawn0.step)⟩
              · rw [if_neg c7] at H
                exact absurd H (by simp)
          · rw [if_neg c5] at H
            exact absurd H (by simp)
        · rw [if_neg c4] at H
          exact absurd H (by simp)
      · rw [if_neg c3] at H
        have c3b0 : decide (x11_1 < (l0.length : Int)) = false := decide_eq_false c3
        clear c3
        by_cases c10 : (l0.length : Int) < (l1.length : Int)
        · rw [if_pos c10] at H
          have c10b0 : decide ((l0.length : Int) < (l1.length : Int)) = true := decide_eq_true c10
          have c10b1 : decide (l0.length < l1.length) = true := decide_eq_true (Int.ofNat_lt.mp c10)
          clear c10
          obtain rfl := Option.some.inj H
          go_wp2
          go_ret
          exact ⟨by first | rfl | (simp; done) | (simp [*]; done), by repeat (first | exact Drawn0.refl _ | apply Drawn0.step)⟩
        · rw [if_neg c10] at H
          have c10b0 : decide ((l0.length : Int) < (l1.length : Int)) = false := decide_eq_false c10
          have c10b1 : decide (l0.length < l1.length) = false := decide_eq_false (fun h => c10 (Int.ofNat_lt.mpr h))
          clear c10
          obtain rfl := Option.some.inj H
          go_wp2
          go_ret
          exact ⟨by first | rfl | (simp; done) | (simp [*]; done), by repeat (first | exact Drawn0.refl _ | apply Drawn0.step)⟩

-- NOT PRINTED: function 117 (slices_CompactFunc_int_int)

/-! ### slices_Equal_int_int: function 118 -/
def slices_Equal_int_int.l0 : Nat → List Int → List Int → Int → Int → Option (Bool)
  | 0, _, _, _, _ => none
  | k + 1, x0, x1, x12, x13 => if x13 < x12 then (if 0 ≤ x13 then (if x13 < (x0.length : Int) then (if x13 < (x1.length : Int) then (if (rd x0 x13) = (rd x1 x13) then (slices_Equal_int_int.l0 k x0 x1 x12 (wrap64 (x13 + 1))) else (some false)) else (none)) else (none)) else (none)) else (some true)
def slices_Equal_int_int.f (k : Nat) (l0 : List Int) (l1 : List Int) : Option (Bool) := if (l0.length : Int) = (l1.length : Int) then (slices_Equal_int_int.l0 k l0 l1 (l0.length : Int) 0) else (some false)
theorem slices_Equal_int_int.mono_l : ∀ k, (∀ y0 y1 y2 y3, LeO (slices_Equal_int_int.l0 k y0 y1 y2 y3) (slices_Equal_int_int.l0 (k + 1) y0 y1 y2 y3))
  | 0 => fun _ _ _ _ r h => by simp [slices_Equal_int_int.l0] at h
  | k + 1 => by
    have ih0 := slices_Equal_int_int.mono_l k
    · intro y0 y1 y2 y3
      unfold slices_Equal_int_int.l0
      repeat' first
      | (with_reducible exact ih0 _ _ _ _)
      | (with_reducible exact LeO.refl _)
      | (with_reducible exact LeO.none _)
      | (with_reducible refine LeO.ite ?_ ?_)
      | (with_reducible refine LeO.bind ?_ (fun _ => ?_))
      | exact ih0 _ _ _ _
      | exact LeO.none _
      | refine LeO.ite ?_ ?_
      | refine LeO.bind ?_ (fun _ => ?_)
theorem slices_Equal_int_int.mono : ∀ a0 a1 k, LeO (slices_Equal_int_int.f k a0 a1) (slices_Equal_int_int.f (k + 1) a0 a1) := by
  intro a0 a1 k
  have ih0 := slices_Equal_int_int.mono_l k
  unfold slices_Equal_int_int.f
  repeat' first
      | (with_reducible exact ih0 _ _ _ _)
      | (with_reducible exact LeO.refl _)
      | (with_reducible exact LeO.none _)
      | (with_reducible refine LeO.ite ?_ ?_)
      | (with_reducible refine LeO.bind ?_ (fun _ => ?_))
      | exact ih0 _ _ _ _
      | exact LeO.none _
      | refine LeO.ite ?_ ?_
      | refine LeO.bind ?_ (fun _ => ?_)
set_option maxHeartbeats 8000000 in
set_option maxRecDepth 100000 in
theorem slices_Equal_int_int.calls (k : Nat) (A0 : Option Addr) (c0 : Nat) (l0 : List Int) (A1 : Option Addr) (c1 : Nat) (l1 : List Int) (r : Bool) (w : World) (hr0 : Kd.C (Kd.int .i64) w A0 l0.length l0) (hc0 : l0.length ≤ c0) (hr1 : Kd.C (Kd.int .i64) w A1 l1.length l1) (hc1 : l1.length ≤ c1) (h : slices_Equal_int_int.f k l0 l1 = some r) :
    Calls Try.prog 118 #[.slice A0 l0.length c0, .slice A1 l1.length c1] w fun e w' => e = .returned (.bool r) ∧ Drawn0 w w' := by
  have HR0 := Aside0.mk hr0
  have HC0 := Aside0.mk hc0
  clear hr0 hc0
  have HR1 := Aside0.mk hr1
  have HC1 := Aside0.mk hc1
  clear hr1 hc1
  have H : (if (l0.length : Int) = (l1.length : Int) then (slices_Equal_int_int.l0 k l0 l1 (l0.length : Int) 0) else (some false)) = some r := h
  clear h
  by_cases c3 : (l0.length : Int) = (l1.length : Int)
  · rw [if_pos c3] at H
    have c3b0 : ((l0.length : Int) == (l1.length : Int)) = true := beq_iff_eq.mpr c3
    have c3b1 : ((l0.length : Int) != (l1.length : Int)) = false := bne_eq_false_iff_eq.mpr c3
    have c3b2 : (l0.length == l1.length) = true := by first | simpa using c3 | (simp at c3 ⊢; omega)
    clear c3
    have H' := Aside0.mk H
    clear H
    go_enter Try.func118, Try.ntmps118
    go_wp2
    repeat (go_quiet (fail); try go_wp2)
    go_loopg [13] k (fun kq v13 w' => ∃ (x13_1 : Int), v13 = .int .i64 x13_1 ∧ Aside0 (slices_Equal_int_int.l0 kq l0 l1 (l0.length : Int) x13_1 = some r) ∧ Aside0 (kq ≤ k) ∧ Drawn0 w w')
    case atStart => exact ⟨(0), (by first | rfl | (simp; done) | (simp [*]; done)), H', ⟨Nat.le_refl _⟩, by repeat (first | exact Drawn0.refl _ | apply Drawn0.step)⟩
    case round =>
      clear H'
      try clear c1
      try clear p2
      try clear c3
      try clear c3b0
      try clear c3b1
      try clear c3b2
      obtain ⟨x13_1, rfl, HA, HK1, ⟨m1, rfl⟩⟩ := hrel
      cases gk with
      | zero => exact absurd HA.out (by simp [slices_Equal_int_int.l0])
      | succ k1 =>
        have H := HA.out
        clear HA
        simp only [slices_Equal_int_int.l0] at H
        by_cases c4 : x13_1 < (l0.length : Int)
        · rw [if_pos c4] at H
          have c4b0 : decide (x13_1 < (l0.length : Int)) = true := decide_eq_true c4
          clear c4
          by_cases c5 : 0 ≤ x13_1
          · rw [if_pos c5] at H
            have c5b0 : decide (0 ≤ x13_1) = true := decide_eq_true c5
            clear c5
            by_cases c6 : x13_1 < (l0.length : Int)
            · rw [if_pos c6] at H
              have c6b0 : decide (x13_1 < (l0.length : Int)) = true := decide_eq_true c6
              clear c6
              by_cases c7 : x13_1 < (l1.length : Int)
              · rw [if_pos c7] at H
                have c7b0 : decide (x13_1 < (l1.length : Int)) = true := decide_eq_true c7
                clear c7
                by_cases c8 : (rd l0 x13_1) = (rd l1 x13_1)
                · rw [if_pos c8] at H
                  have c8b0 : ((rd l0 x13_1) == (rd l1 x13_1)) = true := beq_iff_eq.mpr c8
                  have c8b1 : ((rd l0 x13_1) != (rd l1 x13_1)) = false := bne_eq_false_iff_eq.mpr c8
                  clear c8
                  have H' := Aside0.mk H
                  clear H
                  have p223 : 0 ≤ (x13_1 : Int) := of_decide_eq_true (by first | (with_reducible assumption) | assumption)
                  have q223 : x13_1 < (l0.length : Int) := of_decide_eq_true (by first | (with_reducible assumption) | assumption)
                  obtain ⟨ad223, e223, hx223_0⟩ := Kd.at_int HR0.out x13_1 p223 q223
                  cases e223
                  replace p223 := eq_true p223
                  replace q223 := eq_true q223
                  have p224 : 0 ≤ (x13_1 : Int) := of_decide_eq_true (by first | (with_reducible assumption) | assumption)
                  have q224 : x13_1 < (l1.length : Int) := of_decide_eq_true (by first | (with_reducible assumption) | assumption)
                  obtain ⟨ad224, e224, hx224_0⟩ := Kd.at_int HR1.out x13_1 p224 q224
                  cases e224
                  replace p224 := eq_true p224
                  replace q224 := eq_true q224
                  go_wp2
                  repeat (go_quiet (fail); try go_wp2)
                  go_roundg k1
                  case measure => have := HK1.out; omega
                  case rel => exact ⟨(wrap64 (x13_1 + 1)), (by first | rfl | (simp; done) | (simp [*]; done)), H', ⟨by have := HK1.out; omega⟩, by repeat (first | exact Drawn0.refl _ | apply Drawn0.step)⟩
                · rw [if_neg c8] at H
                  have c8b0 : ((rd l0 x13_1) == (rd l1 x13_1)) = false := beq_eq_false_iff_ne.mpr c8
                  have c8b1 : ((rd l0 x13_1) != (rd l1 x13_1)) = true := bne_iff_ne.mpr c8
                  obtain rfl := Option.some.inj H
                  have p223 : 0 ≤ (x13_1 : Int) := of_decide_eq_true (by first | (with_reducible assumption) | assumption)
                  have q223 : x13_1 < (l0.length : Int) := of_decide_eq_true (by first | (with_reducible assumption) | assumption)
                  obtain ⟨ad223, e223, hx223_0⟩ := Kd.at_int HR0.out x13_1 p223 q223
                  cases e223
                  replace p223 := eq_true p223
                  replace q223 := eq_true q223
                  have p224 : 0 ≤ (x13_1 : Int) := of_decide_eq_true (by first | (with_reducible assumption) | assumption)
                  have q224 : x13_1 < (l1.length : Int) := of_decide_eq_true (by first | (with_reducible assumption) | assumption)
                  obtain ⟨ad224, e224, hx224_0⟩ := Kd.at_int HR1.out x13_1 p224 q224
                  cases e224
                  replace p224 := eq_true p224
                  replace q224 := eq_true q224
                  go_wp2
                  repeat (go_quiet (fail); try go_wp2)
                  go_ret
                  exact ⟨by first | rfl | (simp; done) | (simp [*]; done), by repeat (first | exact Drawn0.refl _ | apply Drawn0.step)⟩
              · rw [if_neg c7] at H
                exact absurd H (by simp)
            · rw [if_neg c6] at H
              exact absurd H (by simp)
          · rw [if_neg c5] at H
            exact absurd H (by simp)
        · rw [if_neg c4] at H
          have c4b0 : decide (x13_1 < (l0.length : Int)) = false := decide_eq_false c4
          clear c4
          obtain rfl := Option.some.inj H
          go_wp2
          repeat (go_quiet (fail); try go_wp2)
          go_ret
          exact ⟨by first | rfl | (simp; done) | (simp [*]; done), by repeat (first | exact Drawn0.refl _ | apply Drawn0.step)⟩
  · rw [if_neg c3] at H
    have c3b0 : ((l0.length : Int) == (l1.length : Int)) = false := beq_eq_false_iff_ne.mpr c3
    have c3b1 : ((l0.length : Int) != (l1.length : Int)) = true := bne_iff_ne.mpr c3
    have c3b2 : (l0.length == l1.length) = false := by first | simpa using c3 | (simp at c3 ⊢; omega)
    obtain rfl := Option.some.inj H
    go_enter Try.func118, Try.ntmps118
    go_wp2
    repeat (go_quiet (fail); try go_wp2)
    go_ret
    exact ⟨by first | rfl | (simp; done) | (simp [*]; done), by repeat (first | exact Drawn0.refl _ | apply Drawn0.step)⟩

/-! ### impl_different: the rows sorted in place, what occurs twice left out (own walk over slices.SortFunc's contract) -/
-- lib: GPile
theorem diff_cmp1 (a b : Int) : cmp_Compare_int.f a b = some (if a < b then -1 else if b < a then 1 else 0) := by
  unfold cmp_Compare_int.f cmp_isNaN_int.f
  simp only [Option.bind_some, bne_self_eq_false, Bool.false_eq_true, if_false]
  split
  · rfl
  · split <;> rfl
theorem diff_succ {n m : Nat} (h : n < m) (hm : m ≤ 9223372036854775807) : wrap64 ((n : Int) + 1) = ((n + 1 : Nat) : Int) := by
  unfold wrap64; omega
theorem diff_cmp_loop (u v : List Int) (hu : u.length ≤ 9223372036854775807) (d : Nat) : ∀ n : Nat, n + d = u.length → n ≤ v.length →
    Ev (fun k => slices_Compare_int_int.l0 k u v u (u.length : Int) (n : Int)) (G.cmpW (u.drop n) (v.drop n)) := by
  induction d with
  | zero =>
    intro n h h2
    have hn : n = u.length := by omega
    subst hn
    refine G.Ev_succ ?_
    simp only [slices_Compare_int_int.l0]
    refine G.Ev_neg (by omega) ?_
    rw [List.drop_length, G.cmpW_nil_left]
    by_cases c : u.length < v.length
    · refine G.Ev_pos (by omega) (G.Ev_some ?_)
      rw [if_neg (by simp; omega)]
    · refine G.Ev_neg (by omega) (G.Ev_some ?_)
      rw [if_pos (by simp; omega)]
  | succ d ih =>
    intro n h h2
    refine G.Ev_succ ?_
    simp only [slices_Compare_int_int.l0]
    refine G.Ev_pos (by omega) (G.Ev_pos (by omega) (G.Ev_pos (by omega) ?_))
    by_cases c : n < v.length
    · refine G.Ev_neg (by omega) (G.Ev_pos (by omega) ?_)
      simp only [diff_cmp1, Option.bind_some]
      rw [G.rd_cast, G.rd_cast, G.drop_cons u n 0 (by omega), G.drop_cons v n 0 c, G.cmpW_cons, diff_succ (show n < u.length by omega) hu]
      by_cases g : u.getD n 0 < v.getD n 0
      · rw [if_pos g, if_pos g]
        exact G.Ev_neg (by omega) (Ev.now _)
      · rw [if_neg g, if_neg g]
        by_cases g2 : v.getD n 0 < u.getD n 0
        · rw [if_pos g2, if_pos g2]
          exact G.Ev_neg (by omega) (Ev.now _)
        · rw [if_neg g2, if_neg g2]
          exact G.Ev_pos rfl (ih (n + 1) (by omega) (by omega))
    · refine G.Ev_pos (by omega) (G.Ev_some ?_)
      rw [List.drop_eq_nil_of_le (show v.length ≤ n by omega), G.cmpW_nil_right, if_neg (by simp; omega)]
theorem diff_cmp_some (u v : List Int) (hu : u.length ≤ 9223372036854775807) : ∃ k, slices_Compare_int_int.f k u v = some (G.cmpW u v) := by
  refine Ev.rounds ?_
  unfold slices_Compare_int_int.f
  exact diff_cmp_loop u v hu _ 0 (Nat.zero_add _) (by omega)
theorem diff_eq_loop (a b : List Int) (hl : a.length = b.length) (hb : a.length ≤ 9223372036854775807) (d : Nat) : ∀ n : Nat, n ≤ a.length → a.length - n = d → a.take n = b.take n →
    Ev (fun k => slices_Equal_int_int.l0 k a b (a.length : Int) (n : Int)) (decide (a = b)) := by
  induction d with
  | zero =>
    intro n h1 h2 h3
    refine G.Ev_succ ?_
    simp only [slices_Equal_int_int.l0]
    refine G.Ev_neg (by omega) (G.Ev_some ?_)
    have : n = a.length := by omega
    subst this
    rw [List.take_length, hl, List.take_length] at h3
    simp [h3]
  | succ d ih =>
    intro n h1 h2 h3
    refine G.Ev_succ ?_
    simp only [slices_Equal_int_int.l0]
    refine G.Ev_pos (by omega) (G.Ev_pos (by omega) (G.Ev_pos (by omega) (G.Ev_pos (by omega) ?_)))
    rw [G.rd_cast, G.rd_cast, diff_succ (show n < a.length by omega) hb]
    refine G.Ev_ite (fun h => ?_) (fun h => G.Ev_some ?_)
    · refine ih (n + 1) (by omega) (by omega) ?_
      rw [G.take_succ_getD a n 0 (by omega), G.take_succ_getD b n 0 (by omega), h3, h]
    · symm
      rw [decide_eq_false_iff_not]
      intro e
      exact h (by rw [e])
theorem diff_eq_some (a b : List Int) (hb : a.length ≤ 9223372036854775807) : ∃ k, slices_Equal_int_int.f k a b = some (decide (a = b)) := by
  refine Ev.rounds ?_
  unfold slices_Equal_int_int.f
  refine G.Ev_ite (fun h => ?_) (fun h => G.Ev_some ?_)
  · exact diff_eq_loop a b (by omega) hb _ 0 (by omega) rfl (by simp)
  · symm
    rw [decide_eq_false_iff_not]
    intro e
    exact h (by rw [e])

/-- A row's header with what it holds, in whatever world in which w's blocks but g are as they were. -/
structure DRow (w : World) (g : Nat) where
  v : Value
  xs : List Int
  A : Option Addr
  c : Nat
  hv : v = .slice A xs.length c
  hc : xs.length ≤ c
  hm : xs.length ≤ 9223372036854775807
  hC : ∀ W : World, (∀ k, k < w.heap.size → k ≠ g → W.heap[k]? = w.heap[k]?) → Kd.C (Kd.int .i64) W A xs.length xs
instance (w : World) (g : Nat) : Inhabited (DRow w g) := ⟨⟨.slice none 0 0, [], none, 0, rfl, Nat.le_refl _, Nat.zero_le _, fun W _ => Kd.C_nil _ W⟩⟩
theorem DRow.one (w : World) (g : Nat) : OneCell (fun p : DRow w g => p.v) := fun p => by show p.v.oneCell' = true; rw [p.hv]; rfl
def dcmp {w : World} {g : Nat} (p q : DRow w g) : Int := G.cmpW p.xs q.xs
def deq {w : World} {g : Nat} (p q : DRow w g) : Bool := decide (p.xs = q.xs)
theorem dcmp_swo (w : World) (g : Nat) : Go.Sort.SWO (ltOf (dcmp (w := w) (g := g))) where
  irrefl x := by unfold ltOf dcmp; rw [G.cmpW_refl]; rfl
  trans x y z h1 h2 := by
    unfold ltOf dcmp at *
    simp only [decide_eq_true_eq] at *
    exact G.cmpW_trans _ _ _ h1 h2
  ntrans x y z h1 h2 := by
    unfold ltOf dcmp at *
    simp only [decide_eq_false_iff_not] at *
    intro h3
    -- x < z; y ≤ x and z ≤ y
    have a := G.cmpW_anti x.xs y.xs
    have b := G.cmpW_anti y.xs z.xs
    by_cases e : G.cmpW y.xs z.xs = 0
    · have e' := (G.cmpW_zero _ _).1 e
      rw [e'] at h1
      exact h1 h3
    · have h4 : G.cmpW z.xs y.xs < 0 := by omega
      exact h1 (G.cmpW_trans _ _ _ h3 h4)
theorem dcmp_calls {w : World} {g : Nat} (p q : DRow w g) (W : World) (hW : ∀ k, k < w.heap.size → k ≠ g → W.heap[k]? = w.heap[k]?) :
    Calls Try.prog 116 #[p.v, q.v] W fun e w' => e = .returned (.int .i64 (dcmp p q)) ∧ Drawn0 W w' := by
  obtain ⟨k, hk⟩ := diff_cmp_some p.xs q.xs p.hm
  rw [p.hv, q.hv]
  exact slices_Compare_int_int.calls k p.A p.c p.xs q.A q.c q.xs _ W (p.hC W hW) p.hc (q.hC W hW) q.hc hk
theorem deq_calls {w : World} {g : Nat} (p q : DRow w g) (W : World) (hW : ∀ k, k < w.heap.size → k ≠ g → W.heap[k]? = w.heap[k]?) :
    Calls Try.prog 118 #[p.v, q.v] W fun e w' => e = .returned (.bool (deq p q)) ∧ Drawn0 W w' := by
  obtain ⟨k, hk⟩ := diff_eq_some p.xs q.xs p.hm
  rw [p.hv, q.hv]
  exact slices_Equal_int_int.calls k p.A p.c p.xs q.A q.c q.xs _ W (p.hC W hW) p.hc (q.hC W hW) q.hc hk
def diff_sort_ren : Go.Shelf.Ren := ⟨fun | 6 => 114 | 15 => 156 | 14 => 159 | 28 => 175 | 29 => 176 | 20 => 177 | 21 => 178 | 22 => 179 | 23 => 180 | 24 => 181 | 25 => 182 | 26 => 183 | 27 => 184 | 46 => 197 | 47 => 193 | 48 => 194 | 49 => 198 | 50 => 199 | 57 => 207 | n => n, fun | 22 => 23 | 24 => 22 | 25 => 68 | 3 => 3 | 39 => 106 | 0 => 0 | 53 => 124 | 55 => 126 | 4 => 4 | 46 => 117 | 45 => 116 | 50 => 121 | 5 => 5 | 9 => 9 | 66 => 141 | 70 => 145 | 76 => 155 | 77 => 56 | n => n, fun | n => n⟩
theorem diff_sort : Go.Proofs.SlLaysF.n6 Try.prog diff_sort_ren :=
  { mixed := by kernel_rfl,
    f6 := ⟨Try.f114.name, by decide, Try.func114.trans (congrArg some (by kernel_rfl))⟩,
    f14 := ⟨Try.f159.name, by decide, Try.func159.trans (congrArg some (by kernel_rfl))⟩,
    f15 := Try.func156.trans (congrArg some (by kernel_rfl)),
    f20 := ⟨Try.f177.name, by decide, Try.func177.trans (congrArg some (by kernel_rfl))⟩,
    f21 := ⟨Try.f178.name, by decide, Try.func178.trans (congrArg some (by kernel_rfl))⟩,
    f22 := ⟨Try.f179.name, by decide, Try.func179.trans (congrArg some (by kernel_rfl))⟩,
    f23 := ⟨Try.f180.name, by decide, Try.func180.trans (congrArg some (by kernel_rfl))⟩,
    f24 := ⟨Try.f181.name, by decide, Try.func181.trans (congrArg some (by kernel_rfl))⟩,
    f25 := ⟨Try.f182.name, by decide, Try.func182.trans (congrArg some (by kernel_rfl))⟩,
    f26 := ⟨Try.f183.name, by decide, Try.func183.trans (congrArg some (by kernel_rfl))⟩,
    f27 := ⟨Try.f184.name, by decide, Try.func184.trans (congrArg some (by kernel_rfl))⟩,
    f28 := Try.func175.trans (congrArg some (by kernel_rfl)),
    f29 := Try.func176.trans (congrArg some (by kernel_rfl)),
    f46 := ⟨Try.f197.name, by decide, Try.func197.trans (congrArg some (by kernel_rfl))⟩,
    f47 := Try.func193.trans (congrArg some (by kernel_rfl)),
    f48 := Try.func194.trans (congrArg some (by kernel_rfl)),
    f49 := ⟨Try.f198.name, by decide, Try.func198.trans (congrArg some (by kernel_rfl))⟩,
    f50 := ⟨Try.f199.name, by decide, Try.func199.trans (congrArg some (by kernel_rfl))⟩,
    f57 := ⟨Try.f207.name, by decide, Try.func207.trans (congrArg some (by kernel_rfl))⟩,
    t0 := Try.underlying0,
    a0 := Try.isAgg0,
    z0 := Try.sizeOf0,
    v0 := Try.zeroValue0,
    t3 := Try.underlying3,
    a3 := Try.isAgg3,
    z3 := Try.sizeOf3,
    v3 := Try.zeroValue3,
    t4 := Try.underlying4,
    a4 := Try.isAgg4,
    z4 := Try.sizeOf4,
    v4 := Try.zeroValue4,
    t5 := Try.underlying5,
    a5 := Try.isAgg5,
    z5 := Try.sizeOf5,
    v5 := Try.zeroValue5,
    t9 := Try.underlying9,
    a9 := Try.isAgg9,
    z9 := Try.sizeOf9,
    v9 := Try.zeroValue9,
    t22 := Try.underlying23,
    a22 := Try.isAgg23,
    z22 := Try.sizeOf23,
    v22 := Try.zeroValue23,
    a24 := Try.isAgg22,
    z24 := Try.sizeOf22,
    t25 := Try.underlying68,
    a25 := Try.isAgg68,
    z25 := Try.sizeOf68,
    v25 := Try.zeroValue68,
    t39 := Try.underlying106,
    a39 := Try.isAgg106,
    z39 := Try.sizeOf106,
    v39 := Try.zeroValue106,
    t45 := Try.underlying116,
    a45 := Try.isAgg116,
    z45 := Try.sizeOf116,
    v45 := Try.zeroValue116,
    t46 := Try.underlying117,
    a46 := Try.isAgg117,
    z46 := Try.sizeOf117,
    v46 := Try.zeroValue117,
    t50 := Try.underlying121,
    a50 := Try.isAgg121,
    z50 := Try.sizeOf121,
    v50 := Try.zeroValue121,
    t53 := Try.underlying124,
    a53 := Try.isAgg124,
    z53 := Try.sizeOf124,
    v53 := Try.zeroValue124,
    t55 := Try.underlying126,
    a55 := Try.isAgg126,
    z55 := Try.sizeOf126,
    v55 := Try.zeroValue126,
    t66 := Try.underlying141,
    a66 := Try.isAgg141,
    z66 := Try.sizeOf141,
    v66 := Try.zeroValue141,
    t70 := Try.underlying145,
    a70 := Try.isAgg145,
    z70 := Try.sizeOf145,
    v70 := Try.zeroValue145,
    t76 := Try.underlying155,
    a76 := Try.isAgg155,
    z76 := Try.sizeOf155,
    v76 := Try.zeroValue155,
    t77 := Try.underlying56,
    a77 := Try.isAgg56,
    z77 := Try.sizeOf56,
    v77 := Try.zeroValue56 }
theorem diff_lays (w : World) (g size : Nat) : CmpLays1 Try.prog 116 #[] (fun p : DRow w g => p.v) dcmp g 0 size w := by
  intro m os dk hs x y
  refine (dcmp_calls x y _ (fun k hk hne => ?_)).mono fun e w' ⟨he, hd⟩ => ?_
  · have hsz : (Go.Sort.putRow (fun p : DRow w g => p.v) (Go.Sort.ahead w m) g 0 dk).heap.size = w.heap.size := by simp [Go.Sort.putRow, Go.Sort.mapBlock, Go.Sort.ahead]
    unfold sortWorld Go.Sort.grow
    simp only [Array.getElem?_append, hsz, hk, if_true]
    simp only [Go.Sort.putRow, Go.Sort.mapBlock, Array.getElem?_modify, if_neg (Ne.symm hne)]
    rfl
  · obtain ⟨q, hq⟩ := hd.out
    exact ⟨he, q, #[], by rw [hq, Go.Sort.grow_empty]⟩

theorem list_from {α β : Type} (F : α → β) : ∀ ps : List β, (∀ p ∈ ps, ∃ q, F q = p) → ∃ ds : List α, ds.map F = ps
  | [], _ => ⟨[], rfl⟩
  | p :: ps, h => by
    obtain ⟨q, hq⟩ := h p List.mem_cons_self
    obtain ⟨ds, hd⟩ := list_from F ps (fun x hx => h x (List.mem_cons_of_mem _ hx))
    exact ⟨q :: ds, by rw [List.map_cons, hq, hd]⟩
theorem diff_sorted (w : World) (g cap : Nat) (ds : List (DRow w g)) (t : G.Turned w w g cap 22 (ds.map (·.v))) (hsz : ds.length < 4611686018427387904) :
    Calls Try.prog 114 #[.slice (some ⟨g, 0, none⟩) ds.length cap, .func (.func 116) #[] #[]] w fun e w1 => e = .returned (.tuple #[]) ∧
      ∃ ds' : List (DRow w g), ds'.Perm ds ∧ (∀ i j, i < j → j < ds'.length → 0 ≤ G.cmpW (ds'.getD j default).xs (ds'.getD i default).xs) ∧ G.Turned w w1 g cap 22 (ds'.map (·.v)) := by
  have eg : ∀ args w, (callFunc 116 args).run Try.prog w = .ok (.enter 116 args) w := enters_of Try.func116 (by kernel_rfl) rfl
  obtain ⟨cur, hh, _, _⟩ := t.row
  have hH : Go.Sort.Holds (fun p : DRow w g => p.v) w g 0 ds.toArray := by
    intro j hj
    have hj' : j < ds.length := by simpa using hj
    have := t.cell j (default : DRow w g).v (by simpa using hj')
    rw [Nat.zero_add]
    refine ⟨this.1.trans ?_, this.2⟩
    congr 1
    rw [G.getD_eq (by simpa using hj'), getElem!_pos _ j hj]
    simp
  have hs := Any.slices_SortFunc diff_sort (fun p : DRow w g => p.v) (DRow.one w g) dcmp (dcmp_swo w g) 116 #[] g 0 cap ds.toArray w eg (diff_lays w g ds.toArray.size) hH (blk_lt hh) (by simpa using hsz)
  change Calls Try.prog 114 #[.slice (some ⟨g, 0, none⟩) ds.toArray.size cap, .func (.func 116) #[] #[]] w _ at hs
  rw [List.size_toArray] at hs
  refine hs.mono fun e w1 ⟨he, d', n, os, hp, hsrt, hw⟩ => ⟨he, d'.toList, ?_, ?_, ?_⟩
  · obtain ⟨h1, _, h3⟩ := hp
    have e1 : d'.extract 0 ds.length = d' := by
      rw [Array.extract_eq_self_of_le]
      simp at h1
      omega
    have e2 : ds.toArray.extract 0 ds.length = ds.toArray := by
      rw [Array.extract_eq_self_of_le]
      simp
    change (d'.extract 0 ds.length).toList.Perm (ds.toArray.extract 0 ds.length).toList at h3
    rw [e1, e2] at h3
    exact h3
  · intro i j hij hj
    have hj' : j < d'.size := by simpa using hj
    have hsz' : d'.size = ds.length := by simpa using hp.1
    have := hsrt i j (Nat.zero_le _) hij (by omega)
    unfold ltOf dcmp at this
    rw [decide_eq_false_iff_not, getElem!_pos _ j hj', getElem!_pos _ i (by omega)] at this
    rw [G.getD_eq hj, G.getD_eq (show i < d'.toList.length by simp; omega)]
    simp only [Array.getElem_toList]
    omega
  · rw [hw]
    exact t.sorted n d' os (by rw [List.length_map]; have := hp.1; simp at this; omega)
theorem getD_v {w : World} {g : Nat} (ds : List (DRow w g)) (k : Nat) : (ds.map (·.v)).getD k (default : DRow w g).v = (ds.getD k default).v := by
  rw [List.getD_eq_getElem?_getD, List.getD_eq_getElem?_getD, List.getElem?_map]
  cases ds[k]? <;> rfl
theorem Turned0 {w W : World} {g cap er : Nat} {hs : List Value} (h : G.Turned w W g cap er hs) (vs : List Value) (o : Nat) (ho : hs.length ≤ o) : G.Turned w (W.setCells g o vs) g cap er hs := G.Turned.setCells vs o h ho
theorem Cp0.mk' {α : Type} {eq : α → α → Bool} {z : α} {l : List α} {k : Nat} (hk : k < l.length) (hall : ∀ j, j < k → G.stays eq z l j = true) (hdup : G.stays eq z l k = false) :
    G.Cp eq z l (k + 1) l ∧ (G.stayed eq z l (k + 1)).length = k := G.Cp.start hk hall hdup
set_option maxHeartbeats 4000000 in
set_option maxRecDepth 1000000 in
theorem diff_compacted (w W : World) (g cap : Nat) (ds : List (DRow w g)) (t : G.Turned w W g cap 22 (ds.map (·.v))) (hsz : ds.length < 4611686018427387904) :
    Calls Try.prog 117 #[.slice (some ⟨g, 0, none⟩) ds.length cap, .func (.func 118) #[] #[]] W fun e W' =>
      e = .returned (.slice (some ⟨g, 0, none⟩) (G.stayed deq default ds ds.length).length cap) ∧ G.Turned w W' g cap 22 ((G.stayed deq default ds ds.length).map (·.v)) := by
  have hcap := t.len
  rw [List.length_map] at hcap
  have T0 := Aside0.mk t
  clear t
  by_cases h2 : ds.length < 2
  · go_enter Try.func117, Try.ntmps117
    go_wp2
    go_ret
    have e : G.stayed deq default ds ds.length = ds := by
      rw [G.stayed_take deq default ds _ (Nat.le_refl _) (fun j hj => (by have e0 : j = 0 := (by omega); rw [e0]; exact G.stays_first _ _ _)), List.take_length]
    rw [e]
    exact ⟨rfl, T0.out⟩
  · go_enter Try.func117, Try.ntmps117
    go_wp2
    go_loopg [5] ds.length (fun gk s3 wr => ∃ k : Nat, 1 ≤ k ∧ k ≤ ds.length ∧ ds.length - k ≤ gk ∧ s3 = .int .i64 k ∧ Aside0 (G.Turned w wr g cap 22 (ds.map (·.v))) ∧ Aside0 (∀ j, j < k → G.stays deq default ds j = true))
    case atStart => exact ⟨1, Nat.le_refl _, by omega, by omega, rfl, T0, ⟨fun j hj => (by have e0 : j = 0 := (by omega); rw [e0]; exact G.stays_first _ _ _)⟩⟩
    case round =>
      obtain ⟨k, hk1, hk, hg, rfl, HT, HA⟩ := hrel
      by_cases hlt : k < ds.length
      · obtain ⟨c1, f1⟩ := HT.out.cell k (default : DRow w g).v (by rw [List.length_map]; exact hlt)
        obtain ⟨c0, f0⟩ := HT.out.cell (k - 1) (default : DRow w g).v (by rw [List.length_map]; omega)
        rw [getD_v] at c1 c0
        clear f1 f0
        have HD : ∀ q, Calls Try.prog 118 #[(ds.getD k default).v, (ds.getD (k - 1) default).v] (wr.drewN q) fun e w' => e = .returned (.bool (deq (ds.getD k default) (ds.getD (k - 1) default))) ∧ ∃ m, w' = (wr.drewN q).drewN m := fun q => (deq_calls (ds.getD k default) (ds.getD (k - 1) default) (wr.drewN q) (fun j hj hne => HT.out.block j hj hne)).mono (fun _ _ h => ⟨h.1, h.2.out⟩)
        have HB : Aside0 (∀ b, deq (ds.getD k default) (ds.getD (k - 1) default) = b → b = true ∨ G.stays deq default ds k = true) := ⟨fun b hb => by cases b with
          | true => exact .inl rfl
          | false => exact .inr (G.stays_yes hb)⟩
        have HE : Aside0 (∀ b, deq (ds.getD k default) (ds.getD (k - 1) default) = b → b = false ∨ G.stays deq default ds k = false) := ⟨fun b hb => by cases b with
          | true => exact .inr (G.stays_no (by omega) hb)
          | false => exact .inl rfl⟩
        have hw1 : IntKind.i64.wrap ((k : Int) - 1) = (k : Int) - 1 := by unfold IntKind.wrap; simp [IntKind.bits, IntKind.signed]; omega
        have hw2 : 0 ≤ (k : Int) - 1 := by omega
        have hw3 : ((k : Int) - 1).toNat = k - 1 := by omega
        have hw4 : (k : Int) - 1 < (ds.length : Int) := by omega
        generalize hb : deq (ds.getD k default) (ds.getD (k - 1) default) = b at HD
        have HBb := HB.out b hb
        have HEb := HE.out b hb
        clear HB HE hb
        generalize (ds.getD k default).v = xv at c1 HD
        generalize (ds.getD (k - 1) default).v = yv at c0 HD
        have HBb' := Aside0.mk HBb
        have HEb' := Aside0.mk HEb
        clear HBb HEb
        cases b with
        | true =>
          go_wp2_with fail
          go_quiet ((go_at_call 118; exact Calls.quiet_of (HD _)))
          go_wp2
          have HN := HEb'.out.resolve_left (by simp)
          have HS := Cp0.mk' hlt HA.out HN
          have HS0 := Aside0.mk HS.1
          have HS1 := HS.2
          have HT2 := Aside0.mk (HT.out.drewN nq)
          clear c1 c0 HD HBb' HEb' HN HS HT HA hw1 hw2 hw3 hw4
          generalize hwq : wr.drewN nq = wq at HT2
          clear hwq
          go_loopg [5, 7] ds.length (fun gk s5 s7 w2 => ∃ (kk k2 : Nat) (cur : List (DRow w g)), s5 = .int .i64 kk ∧ s7 = .int .i64 k2 ∧ 1 ≤ k2 ∧ k + k2 ≤ ds.length ∧ ds.length - (k + k2) ≤ gk ∧ kk < k + k2 ∧ Aside0 (G.Turned w w2 g cap 22 (cur.map (·.v))) ∧ Aside0 (G.Cp deq default ds (k + k2) cur) ∧ Aside0 (kk = (G.stayed deq default ds (k + k2)).length))
          case atStart => exact ⟨k, 1, ds, rfl, rfl, Nat.le_refl _, by omega, by omega, by omega, HT2, HS0, ⟨HS1.symm⟩⟩
          case round =>
            obtain ⟨kk, k2, cur, rfl, rfl, h1, hle, hg2, hkk, HT3, HC, HK⟩ := hrel
            have hcs := HC.out.size hle
            by_cases hlt2 : k + k2 < ds.length
            · obtain ⟨cm, _⟩ := HT3.out.cell (k + k2) (default : DRow w g).v (by rw [List.length_map, hcs]; exact hlt2)
              obtain ⟨cp, _⟩ := HT3.out.cell (k + (k2 - 1)) (default : DRow w g).v (by rw [List.length_map, hcs]; omega)
              obtain ⟨ck, fk⟩ := HT3.out.cell kk (default : DRow w g).v (by rw [List.length_map, hcs]; omega)
              rw [getD_v, HC.out.high (k + k2) (by rw [← HK.out]; omega)] at cm
              rw [getD_v, HC.out.high (k + (k2 - 1)) (by rw [← HK.out]; omega)] at cp
              clear hcs
              have hkm : k + k2 - 1 = k + (k2 - 1) := by omega
              have HD : ∀ q, Calls Try.prog 118 #[(ds.getD (k + k2) default).v, (ds.getD (k + (k2 - 1)) default).v] (wr.drewN q) fun e w' => e = .returned (.bool (deq (ds.getD (k + k2) default) (ds.getD (k + (k2 - 1)) default))) ∧ ∃ m, w' = (wr.drewN q).drewN m := fun q => (deq_calls (ds.getD (k + k2) default) (ds.getD (k + (k2 - 1)) default) (wr.drewN q) (fun j hj hne => HT3.out.block j hj hne)).mono (fun _ _ h => ⟨h.1, h.2.out⟩)
              have HBE : Aside0 (∀ b, deq (ds.getD (k + k2) default) (ds.getD (k + (k2 - 1)) default) = b → G.stays deq default ds (k + k2) = !b) := ⟨fun b hb => by cases b with
                | true => exact G.stays_no (by omega) (by rw [hkm]; exact hb)
                | false => exact G.stays_yes (by rw [hkm]; exact hb)⟩
              have hw1 : IntKind.i64.wrap ((k2 : Int) - 1) = (k2 : Int) - 1 := by unfold IntKind.wrap; simp [IntKind.bits, IntKind.signed]; omega
              have hw2 : 0 ≤ (k2 : Int) - 1 := by omega
              have hw3 : ((k2 : Int) - 1).toNat = k2 - 1 := by omega
              have hw4 : (k2 : Int) - 1 < ((ds.length - k : Nat) : Int) := by omega
              have hw5 : (k2 : Int) < ((ds.length - k : Nat) : Int) := by omega
              have hw6 : k2 < ds.length - k := by omega
              have hw7 : k2 - 1 < ds.length - k := by omega
              clear hkm
              generalize hb : deq (ds.getD (k + k2) default) (ds.getD (k + (k2 - 1)) default) = b at HD
              have HN := Aside0.mk (HBE.out b hb)
              clear HBE hb
              obtain ⟨Ax, nx, cx, ex⟩ : ∃ A n c, (ds.getD (k + k2) default).v = .slice A n c := ⟨_, _, _, (ds.getD (k + k2) default).hv⟩
              obtain ⟨Ay, ny, cy, ey⟩ : ∃ A n c, (ds.getD (k + (k2 - 1)) default).v = .slice A n c := ⟨_, _, _, (ds.getD (k + (k2 - 1)) default).hv⟩
              rw [ex] at cm HD
              rw [ey] at cp HD
              have EX := Aside0.mk ex
              clear ex ey
              generalize (cur.map (·.v)).getD kk (default : DRow w g).v = old at ck
              cases b with
              | true =>
                clear ck fk
                go_wp2_with fail
                go_quiet ((go_at_call 118; exact Calls.quiet_of (HD _)))
                go_wp2
                have HS := HC.out.skip HN.out
                go_roundg (ds.length - (k + (k2 + 1)))
                case measure => omega
                case rel => exact ⟨kk, k2 + 1, cur, rfl, by go_num, by omega, by omega, Nat.le_refl _, by omega, ⟨HT3.out.drewN nq⟩, ⟨HS.1⟩, ⟨HK.out.trans HS.2.symm⟩⟩
              | false =>
                go_wp2_with fail
                go_quiet ((go_at_call 118; exact Calls.quiet_of (HD _)))
                go_wp2
                have HS := HC.out.keep hlt2 HN.out
                rw [← HK.out] at HS
                have HT4 := (HT3.out.drewN nq).setCell kk (.slice Ax nx cx)
                go_roundg (ds.length - (k + (k2 + 1)))
                case measure => omega
                case rel => exact ⟨kk + 1, k2 + 1, cur.set kk (ds.getD (k + k2) default), by go_num, by go_num, by omega, by omega, Nat.le_refl _, by omega, ⟨by rw [List.map_set, EX.out]; exact HT4⟩, ⟨HS.1⟩, ⟨HS.2.symm⟩⟩
            · have hend : k + k2 = ds.length := by omega
              have hcl : ∀ ty, (Builtin.clear_ #[23] ty #[.slice (some ⟨g, kk, none⟩) (ds.length - kk) (cap - kk)]).run Try.prog wr = .ok (.tuple #[]) (wr.setCells g kk (List.replicate (ds.length - kk) (.slice none 0 0))) :=
                fun ty => Lib.run_clear_slice wr _ _ ty _ Try.underlying23 Try.zeroValue22 rfl rfl g kk _ _ (by omega) (fun j hj => by rw [(HT3.out.cell (kk + j) (.slice none 0 0) (by rw [List.length_map, hcs]; omega)).1]; rfl) (fun j hj => (HT3.out.cell (kk + j) (.slice none 0 0) (by rw [List.length_map, hcs]; omega)).2)
              have HCS := Aside0.mk hcs
              clear hcs
              go_wp2
              go_ret
              have hK := HK.out
              rw [hend] at hK
              have hcur := HC.out.1
              rw [hend] at hcur
              refine ⟨by rw [← hK]; rfl, ?_⟩
              have e1 : (cur.map (·.v)).take kk = (G.stayed deq default ds ds.length).map (·.v) := by
                rw [← List.map_take]
                conv => lhs; rw [hcur, hK, List.take_left]
              have := Turned0 (HT3.out.take kk) (List.replicate (ds.length - kk) (.slice none 0 0)) kk (by rw [List.length_take]; omega)
              rwa [e1] at this
        | false =>
          go_wp2_with fail
          go_quiet ((go_at_call 118; exact Calls.quiet_of (HD _)))
          go_wp2
          go_roundg (ds.length - (k + 1))
          case measure => omega
          case rel =>
            have HN := HBb'.out.resolve_left (by simp)
            refine ⟨k + 1, by omega, by omega, Nat.le_refl _, by go_num, ⟨HT.out.drewN nq⟩, ⟨fun j hj => ?_⟩⟩
            by_cases e : j = k
            · rw [e]; exact HN
            · exact HA.out j (by omega)
      · have hke : k = ds.length := by omega
        subst hke
        go_wp2
        go_ret
        have e : G.stayed deq default ds ds.length = ds := by
          rw [G.stayed_take deq default ds _ (Nat.le_refl _) HA.out, List.take_length]
        rw [e]
        exact ⟨rfl, HT.out⟩
def impl_different.f (k : Nat) (l0 : List (List Int)) : Option (List (List Int)) := if l0.length < 4611686018427387904 then some (G.canon l0) else none
theorem impl_different.mono : ∀ a0 k, LeO (impl_different.f k a0) (impl_different.f (k + 1) a0) := fun _ _ _ h => h
theorem diff_short (W : World) (A : Option Addr) (cap : Nat) :
    Calls Try.prog 117 #[.slice A 0 cap, .func (.func 118) #[] #[]] W fun e W' => e = .returned (.slice A 0 cap) ∧ W' = W := by
  go_enter Try.func117, Try.ntmps117
  go_wp2
  go_ret
  exact ⟨rfl, rfl⟩
set_option maxHeartbeats 4000000 in
set_option maxRecDepth 100000 in
theorem impl_different.calls (k : Nat) (P0_ : Nat → Prop) (v : Value) (l0 : List (List Int)) (r : List (List Int)) (w0 w : World) (hB : Below w0.heap.size w0 w) (ho : Kd.S (Kd.slice 3 (Kd.int .i64)) 22 w w0.heap.size P0_ v l0) (h : impl_different.f k l0 = some r) :
    Calls Try.prog 100 #[v] w fun e w' => ∃ v', e = .returned v' ∧ Kd.S (Kd.slice 3 (Kd.int .i64)) 22 w' w0.heap.size P0_ v' r ∧ Below w0.heap.size w0 w' ∧ Kept w w' (fun k_ => P0_ k_) := by
  unfold impl_different.f at h
  by_cases hsz : l0.length < 4611686018427387904
  · rw [if_pos hsz] at h
    have hr := (Option.some.inj h).symm
    clear h
    rcases Nat.eq_zero_or_pos l0.length with hz | hpos
    · obtain rfl : l0 = [] := List.length_eq_zero_iff.1 hz
      obtain ⟨A, c, rfl⟩ := Kd.S_slice ho
      have hs := AnyF.slices_SortFunc_none { diff_sort with } A c (.func (.func 116) #[] #[]) w
      change Calls Try.prog 114 #[.slice A 0 c, .func (.func 116) #[] #[]] w _ at hs
      have hc := diff_short w A c
      have HO := Aside0.mk ho
      have HB := Aside0.mk hB
      have HR := Aside0.mk hr
      clear ho hB hr hz hsz
      show Calls Try.prog 100 #[.slice A 0 c] w _
      go_enter Try.func100, Try.ntmps100
      go_wp2_with (first | (go_at_call 114; refine hs.mono ?_; rintro e w' ⟨rfl, rfl⟩) | (go_at_call 117; refine hc.mono ?_; rintro e w' ⟨rfl, rfl⟩))
      go_ret
      refine ⟨_, rfl, ?_, HB.out, Kept.refl _ _⟩
      rw [HR.out]
      exact HO.out
    · obtain ⟨g, cap, rfl, hbase, hlt, _⟩ := Kd.S_form ho hpos
      obtain ⟨ps, hps, hP⟩ := G.Pile_of_S ho
      have hpl : ps.length = l0.length := by rw [← hps, List.length_map]
      have hds : ∃ ds : List (DRow w g), ds.map (fun q => (q.v, q.xs)) = ps := by
        refine list_from _ _ (fun p hp => ?_)
        have hR := hP.2.2.1 p hp
        have hC : ∀ W : World, (∀ k, k < w.heap.size → k ≠ g → W.heap[k]? = w.heap[k]?) → ∃ A c, p.1 = .slice A p.2.length c ∧ p.2.length ≤ c ∧ Kd.C (Kd.int .i64) W A p.2.length p.2 := fun W hW =>
          Kd.R_reads (Kd.R_step hR (fun k hk hkl => hW k hkl (fun e => hk.2 (by rw [e]; rfl))))
        obtain ⟨A, c, e, hc, hCw⟩ := hC w (fun _ _ _ => rfl)
        refine ⟨⟨p.1, p.2, A, c, e, hc, hCw.2.1, fun W hW => ?_⟩, rfl⟩
        obtain ⟨A', c', e', _, h'⟩ := hC W hW
        rw [e] at e'
        injection e' with ea _ _
        rw [ea]
        exact h'
      obtain ⟨ds, hds⟩ := hds
      have hv : ds.map (·.v) = ps.map (·.1) := by rw [← hds, List.map_map]; rfl
      have hx : ds.map (·.xs) = l0 := by rw [← hps, ← hds, List.map_map]; rfl
      have hdl : ds.length = l0.length := by rw [← hx, List.length_map]
      have hT : G.Turned w w g cap 22 (ds.map (·.v)) := by
        rw [hv]
        have := hP.2.1
        rw [hpl] at this
        exact G.Turned.start this
      have hs := diff_sorted w g cap ds hT (by omega)
      have hc := fun (ds' : List (DRow w g)) (W : World) (t : G.Turned w W g cap 22 (ds'.map (·.v))) (hl : ds'.length = l0.length) => (diff_compacted w W g cap ds' t (by omega))
      rw [hdl] at hs
      have HC := Aside0.mk (show ∀ (ds' : List (DRow w g)) (W : World) (t : G.Turned w W g cap 22 (ds'.map (·.v))) (hl : ds'.length = l0.length), Calls Try.prog 117 #[.slice (some ⟨g, 0, none⟩) l0.length cap, .func (.func 118) #[] #[]] W fun e W' =>
        e = .returned (.slice (some ⟨g, 0, none⟩) (G.stayed deq default ds' ds'.length).length cap) ∧ G.Turned w W' g cap 22 ((G.stayed deq default ds' ds'.length).map (·.v)) from fun ds' W t hl => by rw [← hl]; exact diff_compacted w W g cap ds' t (by omega))
      have HEND : Aside0 (∀ (ds' : List (DRow w g)) (W' : World), ds'.Perm ds → (∀ i j, i < j → j < ds'.length → 0 ≤ G.cmpW (ds'.getD j default).xs (ds'.getD i default).xs) → G.Turned w W' g cap 22 ((G.stayed deq default ds' ds'.length).map (·.v)) →
          Kd.S (Kd.slice 3 (Kd.int .i64)) 22 W' w0.heap.size P0_ (.slice (some ⟨g, 0, none⟩) (G.stayed deq default ds' ds'.length).length cap) r ∧ Below w0.heap.size w0 W' ∧ Kept w W' (fun k_ => P0_ k_)) := by
        refine ⟨fun ds' W' hperm hsrt hT' => ?_⟩
        have hkeys := G.stayed_keys (key := fun p : DRow w g => p.xs) (z := default) (l := ds') (eq := deq) (fun x y => rfl) hsrt ds'.length (Nat.le_refl _)
        rw [List.take_length] at hkeys
        have hsub := G.stayed_sub deq default ds' ds'.length (Nat.le_refl _)
        rw [List.take_length] at hsub
        generalize G.stayed deq default ds' ds'.length = st at hkeys hsub hT'
        have hres : r = st.map (·.xs) := by
          rw [hr]
          refine (G.canon_eq hkeys.1 (fun x => ?_)).symm
          rw [hkeys.2 x, ← hx]
          exact (hperm.map _).mem_iff
        have hP2 : (ds'.map (fun q => (q.v, q.xs))).Perm ps := by rw [← hds]; exact hperm.map _
        have hpw : (st.map (fun q => (q.v, q.xs))).Pairwise (fun a b => ∀ k, a.1.ownBlock = some k → b.1.ownBlock ≠ some k) := by
          have h1 : (ds'.map (fun q => (q.v, q.xs))).Pairwise (fun a b => ∀ k, a.1.ownBlock = some k → b.1.ownBlock ≠ some k) :=
            (hP2.pairwise_iff (fun {a b} hab k h1 h2 => hab k h2 h1)).2 hP.2.2.2
          exact h1.sublist (hsub.map _)
        have hT2 : G.Turned w W' g cap 22 ((st.map (fun q => (q.v, q.xs))).map (·.1)) := by rw [List.map_map]; exact hT'
        have hF := G.Pile.turned hP hT2 (fun p hp => hP2.mem_iff.1 ((hsub.map _).subset hp)) hpw
        have hS := hF.toS
        rw [List.length_map, List.map_map] at hS
        refine ⟨?_, ?_, ?_, ?_⟩
        · rw [hres]; exact hS
        · exact hB.trans ⟨hT'.os, hT'.tape, hT'.output, hT'.size, fun k hk => hT'.block k (Nat.lt_of_lt_of_le hk hB.size) (by omega)⟩
        · exact hT'.size
        · exact fun i hi hn => hT'.block i hi (fun e => hn (hP.1 i (by rw [e]; rfl)))
      clear hc hT hv hx hds hpl hP hps hr ho hB
      have HL := Aside0.mk hdl
      clear hdl hsz hpos hbase hlt
      go_enter Try.func100, Try.ntmps100
      go_wp2_with (first | (go_at_call 114; refine hs.mono ?_; rintro e w1 ⟨rfl, ds', hperm, hsrt, hT1⟩; have HP := Aside0.mk hperm; have HSR := Aside0.mk hsrt; have hcc := HC.out ds' w1 hT1 (by rw [hperm.length_eq]; exact HL.out); clear hperm hsrt hT1) | (go_at_call 117; refine hcc.mono ?_; rintro e w2 ⟨rfl, hT2⟩; have HT2 := Aside0.mk hT2; clear hT2))
      go_ret
      exact ⟨_, rfl, HEND.out ds' _ HP.out HSR.out HT2.out⟩
  · rw [if_neg hsz] at h
    cases h

end Go.Proofs.Ytolikggioekalab.PFnExactRightSpecial
