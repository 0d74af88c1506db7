/- The Go functions that the law FnExactPalindromesOf reaches (part 5): each as a Lean function, and that its code comes to these answers. No condition beyond those written. -/
import Derived.Test.YtolikggioekalabGPile
import Derived.Test.YtolikggioekalabMFnExactPalindromesOfx2
import Derived.Test.YtolikggioekalabMFnExactPalindromesOfx1
import Derived.Test.YtolikggioekalabMFnExactPalindromesOfx0
import Derived.Test.YtolikggioekalabMFnExactPalindromesOfx3
import Derived.Test.YtolikggioekalabMFnExactPalindromesOfx4
namespace Go.Proofs.Ytolikggioekalab.PFnExactPalindromesOf
open Go.RowKit Go.Proofs.YtolikggioekalabW.PrintWords Go.Proofs.YtolikggioekalabW.PrintLast Go.Proofs.YtolikggioekalabW.PrintMore
attribute [local go_sem] max2_int min2_int max_two min_two max_three min_three max_four min_four   -- for this text's walks alone
set_option linter.unusedVariables false
set_option linter.unusedSimpArgs false

/-! ### slices_Compare_int_int: function 116 -/
def slices_Compare_int_int.l0 : Nat → List Int → List Int → List Int → Int → Int → Option (Int)
  | 0, _, _, _, _, _ => none
  | k + 1, x0, x1, x9, x10, x11 => if x11 < x10 then (if 0 ≤ x11 then (if x11 < (x9.length : Int) then (if x11 ≥ (x1.length : Int) then (some 1) else (if x11 < (x1.length : Int) then ((cmp_Compare_int.f (rd x9 x11) (rd x1 x11)).bind fun t207 => (if t207 = 0 then (slices_Compare_int_int.l0 k x0 x1 x9 x10 (wrap64 (x11 + 1))) else (some t207))) else (none))) else (none)) else (none)) else (if (x0.length : Int) < (x1.length : Int) then (some (-1)) else (some 0))
def slices_Compare_int_int.f (k : Nat) (l0 : List Int) (l1 : List Int) : Option (Int) := slices_Compare_int_int.l0 k l0 l1 l0 (l0.length : Int) 0
theorem slices_Compare_int_int.mono_l : ∀ k, (∀ y0 y1 y2 y3 y4, LeO (slices_Compare_int_int.l0 k y0 y1 y2 y3 y4) (slices_Compare_int_int.l0 (k + 1) y0 y1 y2 y3 y4))
  | 0 => fun _ _ _ _ _ r h => by simp [slices_Compare_int_int.l0] at h
  | k + 1 => by
    have ih0 := slices_Compare_int_int.mono_l k
    · intro y0 y1 y2 y3 y4
      unfold slices_Compare_int_int.l0
      repeat' first
      | (with_reducible exact ih0 _ _ _ _ _)
      | (with_reducible exact LeO.refl _)
      | (with_reducible exact LeO.none _)
      | (with_reducible refine LeO.ite ?_ ?_)
      | (with_reducible refine LeO.bind ?_ (fun _ => ?_))
      | exact ih0 _ _ _ _ _
      | exact LeO.none _
      | refine LeO.ite ?_ ?_
      | refine LeO.bind ?_ (fun _ => ?_)
theorem slices_Compare_int_int.mono : ∀ a0 a1 k, LeO (slices_Compare_int_int.f k a0 a1) (slices_Compare_int_int.f (k + 1) a0 a1) := by
  intro a0 a1 k
  have ih0 := slices_Compare_int_int.mono_l k
  unfold slices_Compare_int_int.f
  repeat' first
      | (with_reducible exact ih0 _ _ _ _ _)
      | (with_reducible exact LeO.refl _)
      | (with_reducible exact LeO.none _)
      | (with_reducible refine LeO.ite ?_ ?_)
      | (with_reducible refine LeO.bind ?_ (fun _ => ?_))
      | exact ih0 _ _ _ _ _
      | exact LeO.none _
      | refine LeO.ite ?_ ?_
      | refine LeO.bind ?_ (fun _ => ?_)
set_option maxHeartbeats 8000000 in
set_option maxRecDepth 100000 in
theorem slices_Compare_int_int.calls (k : Nat) (A0 : Option Addr) (c0 : Nat) (l0 : List Int) (A1 : Option Addr) (c1 : Nat) (l1 : List Int) (r : Int) (w : World) (hr0 : Kd.C (Kd.int .i64) w A0 l0.length l0) (hc0 : l0.length ≤ c0) (hr1 : Kd.C (Kd.int .i64) w A1 l1.length l1) (hc1 : l1.length ≤ c1) (h : slices_Compare_int_int.f k l0 l1 = some r) :
    Calls Try.prog 116 #[.slice A0 l0.length c0, .slice A1 l1.length c1] w fun e w' => e = .returned (.int .i64 r) ∧ Drawn0 w w' := by
  have HR0 := Aside0.mk hr0
  have HC0 := Aside0.mk hc0
  clear hr0 hc0
  have HR1 := Aside0.mk hr1
  have HC1 := Aside0.mk hc1
  clear hr1 hc1
  have H : (slices_Compare_int_int.l0 k l0 l1 l0 (l0.length : Int) 0) = some r := h
  clear h
  have H' := Aside0.mk H
  clear H
  go_enter Try.func116, Try.ntmps116
  go_wp2
  go_loopg [11] k (fun kq v11 w' => ∃ (x11_1 : Int), v11 = .int .i64 x11_1 ∧ Aside0 (slices_Compare_int_int.l0 kq l0 l1 l0 (l0.length : Int) x11_1 = some r) ∧ Aside0 (kq ≤ k) ∧ Drawn0 w w')
  case atStart => exact ⟨(0), (by first | rfl | (simp; done) | (simp [*]; done)), H', ⟨Nat.le_refl _⟩, by repeat (first | exact Drawn0.refl _ | apply Drawn0.step)⟩
  case round =>
    clear H'
    try clear c1
    try clear p2
    obtain ⟨x11_1, rfl, HA, HK1, ⟨m1, rfl⟩⟩ := hrel
    cases gk with
    | zero => exact absurd HA.out (by simp [slices_Compare_int_int.l0])
    | succ k1 =>
      have H := HA.out
      clear HA
      simp only [slices_Compare_int_int.l0] at H
      by_cases c3 : x11_1 < (l0.length : Int)
      · rw [if_pos c3] at H
        have c3b0 : decide (x11_1 < (l0.length : Int)) = true := decide_eq_true c3
        clear c3
        by_cases c4 : 0 ≤ x11_1
        · rw [if_pos c4] at H
          have c4b0 : decide (0 ≤ x11_1) = true := decide_eq_true c4
          clear c4
          by_cases c5 : x11_1 < (l0.length : Int)
          · rw [if_pos c5] at H
            have c5b0 : decide (x11_1 < (l0.length : Int)) = true := decide_eq_true c5
            clear c5
            by_cases c6 : x11_1 ≥ (l1.length : Int)
            · rw [if_pos c6] at H
              have c6b0 : decide ((l1.length : Int) ≤ x11_1) = true := decide_eq_true c6
              clear c6
              obtain rfl := Option.some.inj H
              have p205 : 0 ≤ (x11_1 : Int) := of_decide_eq_true (by first | (with_reducible assumption) | assumption)
              have q205 : x11_1 < (l0.length : Int) := of_decide_eq_true (by first | (with_reducible assumption) | assumption)
              obtain ⟨ad205, e205, hx205_0⟩ := Kd.at_int HR0.out x11_1 p205 q205
              cases e205
              replace p205 := eq_true p205
              replace q205 := eq_true q205
              go_wp2
              go_ret
              exact ⟨by first | rfl | (simp; done) | (simp [*]; done), by repeat (first | exact Drawn0.refl _ | apply Drawn0.step)⟩
            · rw [if_neg c6] at H
              have c6b0 : decide ((l1.length : Int) ≤ x11_1) = false := decide_eq_false c6
              clear c6
              by_cases c7 : x11_1 < (l1.length : Int)
              · rw [if_pos c7] at H
                have c7b0 : decide (x11_1 < (l1.length : Int)) = true := decide_eq_true c7
                clear c7
                replace H := Option.bind_eq_some_iff.mp H
                obtain ⟨t207, A80, H⟩ := H
                replace H : (if t207 = 0 then (slices_Compare_int_int.l0 k1 l0 l1 l0 (l0.length : Int) (wrap64 (x11_1 + 1))) else (some t207)) = some r := H
                have A8 := Aside0.mk A80
                clear A80
                by_cases c9 : t207 = 0
                · rw [if_pos c9] at H
                  have c9b0 : (t207 == 0) = true := beq_iff_eq.mpr c9
                  have c9b1 : (t207 != 0) = false := bne_eq_false_iff_eq.mpr c9
                  clear c9
                  have H' := Aside0.mk H
                  clear H
                  have p205 : 0 ≤ (x11_1 : Int) := of_decide_eq_true (by first | (with_reducible assumption) | assumption)
                  have q205 : x11_1 < (l0.length : Int) := of_decide_eq_true (by first | (with_reducible assumption) | assumption)
                  obtain ⟨ad205, e205, hx205_0⟩ := Kd.at_int HR0.out x11_1 p205 q205
                  cases e205
                  replace p205 := eq_true p205
                  replace q205 := eq_true q205
                  have p206 : 0 ≤ (x11_1 : Int) := of_decide_eq_true (by first | (with_reducible assumption) | assumption)
                  have q206 : x11_1 < (l1.length : Int) := of_decide_eq_true (by first | (with_reducible assumption) | assumption)
                  obtain ⟨ad206, e206, hx206_0⟩ := Kd.at_int HR1.out x11_1 p206 q206
                  cases e206
                  replace p206 := eq_true p206
                  replace q206 := eq_true q206
                  go_wp2_with (first | ((with_reducible refine gate_callee (f := 109) rfl ?_); refine goesL_ (some 26) rfl rfl Try.func109 (by kernel_rfl) rfl #[.int .i64 (rd l0 x11_1), .int .i64 (rd l1 x11_1)] rfl (by (try simp only [List.map_toArray, List.map_cons, List.map_nil]); first | done | rfl | (simp only [List.length_drop, List.length_take]; rfl)) ?_; (with_reducible refine (cmp_Compare_int.calls (rd l0 x11_1) (rd l1 x11_1) t207 _ A8.out).mono ?_); rintro e w' ⟨rfl, ⟨nd, rfl⟩⟩; refine ⟨_, rfl, ?_⟩))
                  go_roundg k1
                  case measure => have := HK1.out; omega
                  case rel => exact ⟨(wrap64 (x11_1 + 1)), (by first | rfl | (simp; done) | (simp [*]; done)), H', ⟨by have := HK1.out; omega⟩, by repeat (first | exact Drawn0.refl _ | apply Drawn0.step)⟩
                · rw [if_neg c9] at H
                  have c9b0 : (t207 == 0) = false := beq_eq_false_iff_ne.mpr c9
                  have c9b1 : (t207 != 0) = true := bne_iff_ne.mpr c9
                  obtain rfl := Option.some.inj H
                  have p205 : 0 ≤ (x11_1 : Int) := of_decide_eq_true (by first | (with_reducible assumption) | assumption)
                  have q205 : x11_1 < (l0.length : Int) := of_decide_eq_true (by first | (with_reducible assumption) | assumption)
                  obtain ⟨ad205, e205, hx205_0⟩ := Kd.at_int HR0.out x11_1 p205 q205
                  cases e205
                  replace p205 := eq_true p205
                  replace q205 := eq_true q205
                  have p206 : 0 ≤ (x11_1 : Int) := of_decide_eq_true (by first | (with_reducible assumption) | assumption)
                  have q206 : x11_1 < (l1.length : Int) := of_decide_eq_true (by first | (with_reducible assumption) | assumption)
                  obtain ⟨ad206, e206, hx206_0⟩ := Kd.at_int HR1.out x11_1 p206 q206
                  cases e206
                  replace p206 := eq_true p206
                  replace q206 := eq_true q206
                  go_wp2_with (first | ((with_reducible refine gate_callee (f := 109) rfl ?_); refine goesL_ (some 26) rfl rfl Try.func109 (by kernel_rfl) rfl #[.int .i64 (rd l0 x11_1), .int .i64 (rd l1 x11_1)] rfl (by (try simp only [List.map_toArray, List.map_cons, List.map_nil]); first | done | rfl | (simp only [List.length_drop, List.length_take]; rfl)) ?_; (with_reducible refine (cmp_Compare_int.calls (rd l0 x11_1) (rd l1 x11_1) t207 _ A8.out).mono ?_); rintro e w' ⟨rfl, ⟨nd, rfl⟩⟩; refine ⟨_, rfl, ?_⟩))
                  go_ret
                  exact ⟨by first | rfl | (simp; done) | (simp [*]; done), by repeat (first | exact Drawn0.refl _ | apply Drawn0.step)⟩
              · rw [if_neg c7] at H
                exact absurd H (by simp)
          · rw [if_neg c5] at H
            exact absurd H (by simp)
        · rw [if_neg c4] at H
          exact absurd H (by simp)
      · rw [if_neg c3] at H
        have c3b0 : decide (x11_1 < (l0.length : Int)) = false := decide_eq_false c3
        clear c3
        by_cases c10 : (l0.length : Int) < (l1.length : Int)
        · rw [if_pos c10] at H
          have c10b0 : decide ((l0.length : Int) < (l1.length : Int)) = true := decide_eq_true c10
          have c10b1 : decide (l0.length < l1.length) = true := decide_eq_true (Int.ofNat_lt.mp c10)
          clear c10
          obtain rfl := Option.some.inj H
          go_wp2
          go_ret
          exact ⟨by first | rfl | (simp; done) | (simp [*]; done), by repeat (first | exact Drawn0.refl _ | apply Drawn0.step)⟩
        · rw [if_neg c10] at H
          have c10b0 : decide ((l0.length : Int) < (l1.length : Int)) = false := decide_eq_false c10
          have c10b1 : decide (l0.length < l1.length) = false := decide_eq_false (fun h => c10 (Int.ofNat_lt.mpr h))
          clear c10
          obtain rfl := Option.some.inj H
          go_wp2
          go_ret
          exact ⟨by first | rfl | (simp; done) | (simp [*]; done), by repeat (first | exact Drawn0.refl _ | apply Drawn0.step)⟩

/-! ### impl_PalindromesOfB1: function 115 -/
def impl_PalindromesOfB1.f (k : Nat) (l0 : List Int) (l1 : List Int) : Option (Int) := (cmp_Compare_int.f (l0.length : Int) (l1.length : Int)).bind fun t208 => ((slices_Compare_int_int.f k l0 l1).bind fun t209 => ((cmp_Or_int.f k (([t208, t209] : List Int))).bind fun t213 => (some t213)))
theorem impl_PalindromesOfB1.mono : ∀ a0 a1 k, LeO (impl_PalindromesOfB1.f k a0 a1) (impl_PalindromesOfB1.f (k + 1) a0 a1) := by
  intro a0 a1 k
  unfold impl_PalindromesOfB1.f
  repeat' first
      | (with_reducible exact cmp_Or_int.mono _ _)
      | (with_reducible exact slices_Compare_int_int.mono _ _ _)
      | (with_reducible exact LeO.refl _)
      | (with_reducible exact LeO.none _)
      | (with_reducible refine LeO.ite ?_ ?_)
      | (with_reducible refine LeO.bind ?_ (fun _ => ?_))
      | exact cmp_Or_int.mono _ _
      | exact slices_Compare_int_int.mono _ _ _
      | exact LeO.none _
      | refine LeO.ite ?_ ?_
      | refine LeO.bind ?_ (fun _ => ?_)
set_option maxHeartbeats 8000000 in
set_option maxRecDepth 100000 in
theorem impl_PalindromesOfB1.calls (k : Nat) (A0 : Option Addr) (c0 : Nat) (l0 : List Int) (A1 : Option Addr) (c1 : Nat) (l1 : List Int) (r : Int) (w : World) (hr0 : Kd.C (Kd.int .i64) w A0 l0.length l0) (hc0 : l0.length ≤ c0) (hr1 : Kd.C (Kd.int .i64) w A1 l1.length l1) (hc1 : l1.length ≤ c1) (h : impl_PalindromesOfB1.f k l0 l1 = some r) :
    Calls Try.prog 115 #[.slice A0 l0.length c0, .slice A1 l1.length c1] w fun e w' => e = .returned (.int .i64 r) ∧ Below w.heap.size w w' := by
  have HR0 := Aside0.mk hr0
  have HC0 := Aside0.mk hc0
  clear hr0 hc0
  have HR1 := Aside0.mk hr1
  have HC1 := Aside0.mk hc1
  clear hr1 hc1
  have HB := Aside0.mk (Below.refl w.heap.size w)
  have H : ((cmp_Compare_int.f (l0.length : Int) (l1.length : Int)).bind fun t208 => ((slices_Compare_int_int.f k l0 l1).bind fun t209 => ((cmp_Or_int.f k (([t208, t209] : List Int))).bind fun t213 => (some t213)))) = some r := h
  clear h
  replace H := Option.bind_eq_some_iff.mp H
  obtain ⟨t208, A30, H⟩ := H
  replace H : ((slices_Compare_int_int.f k l0 l1).bind fun t209 => ((cmp_Or_int.f k (([t208, t209] : List Int))).bind fun t213 => (some t213))) = some r := H
  have A3 := Aside0.mk A30
  clear A30
  replace H := Option.bind_eq_some_iff.mp H
  obtain ⟨t209, A40, H⟩ := H
  replace H : ((cmp_Or_int.f k (([t208, t209] : List Int))).bind fun t213 => (some t213)) = some r := H
  have A4 := Aside0.mk A40
  clear A40
  obtain ⟨y210, hy210⟩ : ∃ y_ : List Int, y_ = (([t208, t209] : List Int)) := ⟨_, rfl⟩
  replace H : ((cmp_Or_int.f k y210).bind fun t213 => (some t213)) = some r := by first | (rw [hy210]; with_reducible exact H) | (have H2_ := (Option.bind_some _ _).symm.trans H; rw [hy210]; with_reducible exact H2_) | (have H2_ := (Option.bind_some _ _).symm.trans H; with_reducible exact H2_) | with_reducible exact H | (rw [hy210]; exact H) | exact H
  have Ny210 := Aside0.mk hy210
  clear hy210
  replace H := Option.bind_eq_some_iff.mp H
  obtain ⟨t213, A50, H⟩ := H
  replace H : (some t213) = some r := H
  have A5 := Aside0.mk A50
  clear A50
  obtain rfl := Option.some.inj H
  go_enter Try.func115, Try.ntmps115
  go_wp2_with (first | ((with_reducible refine gate_callee (f := 109) rfl ?_); refine goesL_ (some 9) rfl rfl Try.func109 (by kernel_rfl) rfl #[.int .i64 (l0.length : Int), .int .i64 (l1.length : Int)] rfl (by (try simp only [List.map_toArray, List.map_cons, List.map_nil]); first | done | rfl | (simp only [List.length_drop, List.length_take]; rfl)) ?_; (with_reducible refine (cmp_Compare_int.calls (l0.length : Int) (l1.length : Int) t208 _ A3.out).mono ?_); rintro e w' ⟨rfl, ⟨nd, rfl⟩⟩; refine ⟨_, rfl, ?_⟩) | ((with_reducible refine gate_callee (f := 116) rfl ?_); refine goesL_ (some 12) rfl rfl Try.func116 (by kernel_rfl) rfl #[.slice A0 l0.length c0, .slice A1 l1.length c1] rfl (by (try simp only [List.map_toArray, List.map_cons, List.map_nil]); first | done | rfl | (simp only [List.length_drop, List.length_take]; rfl)) ?_; (with_reducible refine (slices_Compare_int_int.calls k _ _ l0 _ _ l1 t209 _ ?side1 ?side2 ?side3 ?side4 A4.out).mono ?_); (case side1 => repeat (first | exact HR0.out | (with_reducible refine Kd.C_alloc ?_ _) | (with_reducible refine Kd.C_drewN ?_ _) | (with_reducible refine Kd.C_drew ?_))); (case side2 => exact HC0.out); (case side3 => repeat (first | exact HR1.out | (with_reducible refine Kd.C_alloc ?_ _) | (with_reducible refine Kd.C_drewN ?_ _) | (with_reducible refine Kd.C_drew ?_))); (case side4 => exact HC1.out); rintro e w' ⟨rfl, ⟨nd, rfl⟩⟩; refine ⟨_, rfl, ?_⟩) | ((with_reducible refine gate_dst (N := 13) rfl ?_); refine Kd.R_lit (Kd.int .i64) _ 3 ?hg (N := 13) ?hd (xs := ([t208, t209] : List Int)) (inner := [.int .i64 t208, .int .i64 t209]) (ok := fun _ => True) (okp := fun _ => True) ?hr ?hp (fun _ hk => hk) trivial (Below.refl _ _) (Nat.le_refl _) (by simp) ?_; (case hd => rfl); (case hg => rfl); (case hr => first | (go_simp; done) | (go_simp; rfl)); (case hp => exact (Reps.one (show Kd.M (Kd.int .i64) _ _ _ t208 [.int .i64 t208] from rfl) (Reps.one (show Kd.M (Kd.int .i64) _ _ _ t209 [.int .i64 t209] from rfl) (Reps.none _ _)))); intro v211 w6 ho7 hb hg_ hnew_; clear hg_ hnew_; (first | rw [← Ny210.out] at ho7 | (simp only [Int.reduceToNat] at ho7; rw [← Ny210.out] at ho7)); have n0_ := Aside0.mk (Kd.R_lower ho7 (below_size (by repeat (first | (with_reducible first | exact HB.out | apply below_alloc | apply pw_below_drewN | apply below_drew1) | exact HB.out)))); have n1_ := Aside0.mk (below_step (by repeat (first | (with_reducible first | exact HB.out | apply below_alloc | apply pw_below_drewN | apply below_drew1) | exact HB.out)) hb); clear HB; have HO212 := n0_; have HB := n1_; clear n0_ n1_; clear hb ho7; obtain ⟨Ao8, co8, eo8⟩ := Kd.R_slice HO212.out; subst eo8) | ((with_reducible refine gate_callee (f := 108) rfl ?_); refine goesL_ (some 14) rfl rfl Try.func108 (by kernel_rfl) rfl #[.slice Ao8 y210.length co8] rfl (by (try simp only [List.map_toArray, List.map_cons, List.map_nil]); first | done | rfl | (simp only [List.length_drop, List.length_take]; rfl)) ?_; (with_reducible refine (cmp_Or_int.calls k _ _ y210 t213 _ ?side1 ?side2 A5.out).mono ?_); (case side1 => repeat (first | exact (Kd.R_reads' HO212.out).2.2 | (with_reducible refine Kd.C_alloc ?_ _) | (with_reducible refine Kd.C_drewN ?_ _) | (with_reducible refine Kd.C_drew ?_))); (case side2 => exact (Kd.R_reads' HO212.out).2.1); rintro e w' ⟨rfl, ⟨nd, rfl⟩⟩; refine ⟨_, rfl, ?_⟩))
  go_ret
  exact ⟨by first | rfl | (simp [errW_none, errW_some] <;> rfl) | (simp [*, errW_none, errW_some] <;> rfl), by repeat (first | (with_reducible first | exact HB.out | apply below_alloc | apply pw_below_drewN | apply below_drew1) | exact HB.out)⟩

-- NOT PRINTED: function 117 (slices_CompactFunc_int_int)

/-! ### slices_Equal_int_int: function 118 -/
def slices_Equal_int_int.l0 : Nat → List Int → List Int → Int → Int → Option (Bool)
  | 0, _, _, _, _ => none
  | k + 1, x0, x1, x12, x13 => if x13 < x12 then (if 0 ≤ x13 then (if x13 < (x0.length : Int) then (if x13 < (x1.length : Int) then (if (rd x0 x13) = (rd x1 x13) then (slices_Equal_int_int.l0 k x0 x1 x12 (wrap64 (x13 + 1))) else (some false)) else (none)) else (none)) else (none)) else (some true)
def slices_Equal_int_int.f (k : Nat) (l0 : List Int) (l1 : List Int) : Option (Bool) := if (l0.length : Int) = (l1.length : Int) then (slices_Equal_int_int.l0 k l0 l1 (l0.length : Int) 0) else (some false)
theorem slices_Equal_int_int.mono_l : ∀ k, (∀ y0 y1 y2 y3, LeO (slices_Equal_int_int.l0 k y0 y1 y2 y3) (slices_Equal_int_int.l0 (k + 1) y0 y1 y2 y3))
  | 0 => fun _ _ _ _ r h => by simp [slices_Equal_int_int.l0] at h
  | k + 1 => by
    have ih0 := slices_Equal_int_int.mono_l k
    · intro y0 y1 y2 y3
      unfold slices_Equal_int_int.l0
      repeat' first
      | (with_reducible exact ih0 _ _ _ _)
      | (with_reducible exact LeO.refl _)
      | (with_reducible exact LeO.none _)
      | (with_reducible refine LeO.ite ?_ ?_)
      | (with_reducible refine LeO.bind ?_ (fun _ => ?_))
      | exact ih0 _ _ _ _
      | exact LeO.none _
      | refine LeO.ite ?_ ?_
      | refine LeO.bind ?_ (fun _ => ?_)
theorem slices_Equal_int_int.mono : ∀ a0 a1 k, LeO (slices_Equal_int_int.f k a0 a1) (slices_Equal_int_int.f (k + 1) a0 a1) := by
  intro a0 a1 k
  have ih0 := slices_Equal_int_int.mono_l k
  unfold slices_Equal_int_int.f
  repeat' first
      | (with_reducible exact ih0 _ _ _ _)
      | (with_reducible exact LeO.refl _)
      | (with_reducible exact LeO.none _)
      | (with_reducible refine LeO.ite ?_ ?_)
      | (with_reducible refine LeO.bind ?_ (fun _ => ?_))
      | exact ih0 _ _ _ _
      | exact LeO.none _
      | refine LeO.ite ?_ ?_
      | refine LeO.bind ?_ (fun _ => ?_)
set_option maxHeartbeats 8000000 in
set_option maxRecDepth 100000 in
theorem slices_Equal_int_int.calls (k : Nat) (A0 : Option Addr) (c0 : Nat) (l0 : List Int) (A1 : Option Addr) (c1 : Nat) (l1 : List Int) (r : Bool) (w : World) (hr0 : Kd.C (Kd.int .i64) w A0 l0.length l0) (hc0 : l0.length ≤ c0) (hr1 : Kd.C (Kd.int .i64) w A1 l1.length l1) (hc1 : l1.length ≤ c1) (h : slices_Equal_int_int.f k l0 l1 = some r) :
    Calls Try.prog 118 #[.slice A0 l0.length c0, .slice A1 l1.length c1] w fun e w' => e = .returned (.bool r) ∧ Drawn0 w w' := by
  have HR0 := Aside0.mk hr0
  have HC0 := Aside0.mk hc0
  clear hr0 hc0
  have HR1 := Aside0.mk hr1
  have HC1 := Aside0.mk hc1
  clear hr1 hc1
  have H : (if (l0.length : Int) = (l1.length : Int) then (slices_Equal_int_int.l0 k l0 l1 (l0.length : Int) 0) else (some false)) = some r := h
  clear h
  by_cases c3 : (l0.length : Int) = (l1.length : Int)
  · rw [if_pos c3] at H
    have c3b0 : ((l0.length : Int) == (l1.length : Int)) = true := beq_iff_eq.mpr c3
    have c3b1 : ((l0.length : Int) != (l1.length : Int)) = false := bne_eq_false_iff_eq.mpr c3
    have c3b2 : (l0.length == l1.length) = true := by first | simpa using c3 | (simp at c3 ⊢; omega)
    clear c3
    have H' := Aside0.mk H
    clear H
    go_enter Try.func118, Try.ntmps118
    go_wp2
    repeat (go_quiet (fail); try go_wp2)
    go_loopg [13] k (fun kq v13 w' => ∃ (x13_1 : Int), v13 = .int .i64 x13_1 ∧ Aside0 (slices_Equal_int_int.l0 kq l0 l1 (l0.length : Int) x13_1 = some r) ∧ Aside0 (kq ≤ k) ∧ Drawn0 w w')
    case atStart => exact ⟨(0), (by first | rfl | (simp; done) | (simp [*]; done)), H', ⟨Nat.le_refl _⟩, by repeat (first | exact Drawn0.refl _ | apply Drawn0.step)⟩
    case round =>
      clear H'
      try clear c1
      try clear p2
      try clear c3
      try clear c3b0
      try clear c3b1
      try clear c3b2
      obtain ⟨x13_1, rfl, HA, HK1, ⟨m1, rfl⟩⟩ := hrel
      cases gk with
      | zero => exact absurd HA.out (by simp [slices_Equal_int_int.l0])
      | succ k1 =>
        have H := HA.out
        clear HA
        simp only [slices_Equal_int_int.l0] at H
        by_cases c4 : x13_1 < (l0.length : Int)
        · rw [if_pos c4] at H
          have c4b0 : decide (x13_1 < (l0.length : Int)) = true := decide_eq_true c4
          clear c4
          by_cases c5 : 0 ≤ x13_1
          · rw [if_pos c5] at H
            have c5b0 : decide (0 ≤ x13_1) = true := decide_eq_true c5
            clear c5
            by_cases c6 : x13_1 < (l0.length : Int)
            · rw [if_pos c6] at H
              have c6b0 : decide (x13_1 < (l0.length : Int)) = true := decide_eq_true c6
              clear c6
              by_cases c7 : x13_1 < (l1.length : Int)
              · rw [if_pos c7] at H
                have c7b0 : decide (x13_1 < (l1.length : Int)) = true := decide_eq_true c7
                clear c7
                by_cases c8 : (rd l0 x13_1) = (rd l1 x13_1)
                · rw [if_pos c8] at H
                  have c8b0 : ((rd l0 x13_1) == (rd l1 x13_1)) = true := beq_iff_eq.mpr c8
                  have c8b1 : ((rd l0 x13_1) != (rd l1 x13_1)) = false := bne_eq_false_iff_eq.mpr c8
                  clear c8
                  have H' := Aside0.mk H
                  clear H
                  have p214 : 0 ≤ (x13_1 : Int) := of_decide_eq_true (by first | (with_reducible assumption) | assumption)
                  have q214 : x13_1 < (l0.length : Int) := of_decide_eq_true (by first | (with_reducible assumption) | assumption)
                  obtain ⟨ad214, e214, hx214_0⟩ := Kd.at_int HR0.out x13_1 p214 q214
                  cases e214
                  replace p214 := eq_true p214
                  replace q214 := eq_true q214
                  have p215 : 0 ≤ (x13_1 : Int) := of_decide_eq_true (by first | (with_reducible assumption) | assumption)
                  have q215 : x13_1 < (l1.length : Int) := of_decide_eq_true (by first | (with_reducible assumption) | assumption)
                  obtain ⟨ad215, e215, hx215_0⟩ := Kd.at_int HR1.out x13_1 p215 q215
                  cases e215
                  replace p215 := eq_true p215
                  replace q215 := eq_true q215
                  go_wp2
                  repeat (go_quiet (fail); try go_wp2)
                  go_roundg k1
                  case measure => have := HK1.out; omega
                  case rel => exact ⟨(wrap64 (x13_1 + 1)), (by first | rfl | (simp; done) | (simp [*]; done)), H', ⟨by have := HK1.out; omega⟩, by repeat (first | exact Drawn0.refl _ | apply Drawn0.step)⟩
                · rw [if_neg c8] at H
                  have c8b0 : ((rd l0 x13_1) == (rd l1 x13_1)) = false := beq_eq_false_iff_ne.mpr c8
                  have c8b1 : ((rd l0 x13_1) != (rd l1 x13_1)) = true := bne_iff_ne.mpr c8
                  obtain rfl := Option.some.inj H
                  have p214 : 0 ≤ (x13_1 : Int) := of_decide_eq_true (by first | (with_reducible assumption) | assumption)
                  have q214 : x13_1 < (l0.length : Int) := of_decide_eq_true (by first | (with_reducible assumption) | assumption)
                  obtain ⟨ad214, e214, hx214_0⟩ := Kd.at_int HR0.out x13_1 p214 q214
                  cases e214
                  replace p214 := eq_true p214
                  replace q214 := eq_true q214
                  have p215 : 0 ≤ (x13_1 : Int) := of_decide_eq_true (by first | (with_reducible assumption) | assumption)
                  have q215 : x13_1 < (l1.length : Int) := of_decide_eq_true (by first | (with_reducible assumption) | assumption)
                  obtain ⟨ad215, e215, hx215_0⟩ := Kd.at_int HR1.out x13_1 p215 q215
                  cases e215
                  replace p215 := eq_true p215
                  replace q215 := eq_true q215
                  go_wp2
                  repeat (go_quiet (fail); try go_wp2)
                  go_ret
                  exact ⟨by first | rfl | (simp; done) | (simp [*]; done), by repeat (first | exact Drawn0.refl _ | apply Drawn0.step)⟩
              · rw [if_neg c7] at H
                exact absurd H (by simp)
            · rw [if_neg c6] at H
              exact absurd H (by simp)
          · rw [if_neg c5] at H
            exact absurd H (by simp)
        · rw [if_neg c4] at H
          have c4b0 : decide (x13_1 < (l0.length : Int)) = false := decide_eq_false c4
          clear c4
          obtain rfl := Option.some.inj H
          go_wp2
          repeat (go_quiet (fail); try go_wp2)
          go_ret
          exact ⟨by first | rfl | (simp; done) | (simp [*]; done), by repeat (first | exact Drawn0.refl _ | apply Drawn0.step)⟩
  · rw [if_neg c3] at H
    have c3b0 : ((l0.length : Int) == (l1.length : Int)) = false := beq_eq_false_iff_ne.mpr c3
    have c3b1 : ((l0.length : Int) != (l1.length : Int)) = true := bne_iff_ne.mpr c3
    have c3b2 : (l0.length == l1.length) = false := by first | simpa using c3 | (simp at c3 ⊢; omega)
    obtain rfl := Option.some.inj H
    go_enter Try.func118, Try.ntmps118
    go_wp2
    repeat (go_quiet (fail); try go_wp2)
    go_ret
    exact ⟨by first | rfl | (simp; done) | (simp [*]; done), by repeat (first | exact Drawn0.refl _ | apply Drawn0.step)⟩

/-! ### pal_sort: the sort of the palindromes by length and order, and what occurs twice left out (own walk over slices.SortFunc's contract) -/
-- lib: GPile
theorem diff_cmp1 (a b : Int) : cmp_Compare_int.f a b = some (if a < b then -1 else if b < a then 1 else 0) := by
  unfold cmp_Compare_int.f cmp_isNaN_int.f
  simp only [Option.bind_some, bne_self_eq_false, Bool.false_eq_true, if_false]
  split
  · rfl
  · split <;> rfl
theorem diff_succ {n m : Nat} (h : n < m) (hm : m ≤ 9223372036854775807) : wrap64 ((n : Int) + 1) = ((n + 1 : Nat) : Int) := by
  unfold wrap64; omega
theorem diff_cmp_loop (u v : List Int) (hu : u.length ≤ 9223372036854775807) (d : Nat) : ∀ n : Nat, n + d = u.length → n ≤ v.length →
    Ev (fun k => slices_Compare_int_int.l0 k u v u (u.length : Int) (n : Int)) (G.cmpW (u.drop n) (v.drop n)) := by
  induction d with
  | zero =>
    intro n h h2
    have hn : n = u.length := by omega
    subst hn
    refine G.Ev_succ ?_
    simp only [slices_Compare_int_int.l0]
    refine G.Ev_neg (by omega) ?_
    rw [List.drop_length, G.cmpW_nil_left]
    by_cases c : u.length < v.length
    · refine G.Ev_pos (by omega) (G.Ev_some ?_)
      rw [if_neg (by simp; omega)]
    · refine G.Ev_neg (by omega) (G.Ev_some ?_)
      rw [if_pos (by simp; omega)]
  | succ d ih =>
    intro n h h2
    refine G.Ev_succ ?_
    simp only [slices_Compare_int_int.l0]
    refine G.Ev_pos (by omega) (G.Ev_pos (by omega) (G.Ev_pos (by omega) ?_))
    by_cases c : n < v.length
    · refine G.Ev_neg (by omega) (G.Ev_pos (by omega) ?_)
      simp only [diff_cmp1, Option.bind_some]
      rw [G.rd_cast, G.rd_cast, G.drop_cons u n 0 (by omega), G.drop_cons v n 0 c, G.cmpW_cons, diff_succ (show n < u.length by omega) hu]
      by_cases g : u.getD n 0 < v.getD n 0
      · rw [if_pos g, if_pos g]
        exact G.Ev_neg (by omega) (Ev.now _)
      · rw [if_neg g, if_neg g]
        by_cases g2 : v.getD n 0 < u.getD n 0
        · rw [if_pos g2, if_pos g2]
          exact G.Ev_neg (by omega) (Ev.now _)
        · rw [if_neg g2, if_neg g2]
          exact G.Ev_pos rfl (ih (n + 1) (by omega) (by omega))
    · refine G.Ev_pos (by omega) (G.Ev_some ?_)
      rw [List.drop_eq_nil_of_le (show v.length ≤ n by omega), G.cmpW_nil_right, if_neg (by simp; omega)]
theorem diff_cmp_some (u v : List Int) (hu : u.length ≤ 9223372036854775807) : ∃ k, slices_Compare_int_int.f k u v = some (G.cmpW u v) := by
  refine Ev.rounds ?_
  unfold slices_Compare_int_int.f
  exact diff_cmp_loop u v hu _ 0 (Nat.zero_add _) (by omega)
theorem diff_eq_loop (a b : List Int) (hl : a.length = b.length) (hb : a.length ≤ 9223372036854775807) (d : Nat) : ∀ n : Nat, n ≤ a.length → a.length - n = d → a.take n = b.take n →
    Ev (fun k => slices_Equal_int_int.l0 k a b (a.length : Int) (n : Int)) (decide (a = b)) := by
  induction d with
  | zero =>
    intro n h1 h2 h3
    refine G.Ev_succ ?_
    simp only [slices_Equal_int_int.l0]
    refine G.Ev_neg (by omega) (G.Ev_some ?_)
    have : n = a.length := by omega
    subst this
    rw [List.take_length, hl, List.take_length] at h3
    simp [h3]
  | succ d ih =>
    intro n h1 h2 h3
    refine G.Ev_succ ?_
    simp only [slices_Equal_int_int.l0]
    refine G.Ev_pos (by omega) (G.Ev_pos (by omega) (G.Ev_pos (by omega) (G.Ev_pos (by omega) ?_)))
    rw [G.rd_cast, G.rd_cast, diff_succ (show n < a.length by omega) hb]
    refine G.Ev_ite (fun h => ?_) (fun h => G.Ev_some ?_)
    · refine ih (n + 1) (by omega) (by omega) ?_
      rw [G.take_succ_getD a n 0 (by omega), G.take_succ_getD b n 0 (by omega), h3, h]
    · symm
      rw [decide_eq_false_iff_not]
      intro e
      exact h (by rw [e])
theorem diff_eq_some (a b : List Int) (hb : a.length ≤ 9223372036854775807) : ∃ k, slices_Equal_int_int.f k a b = some (decide (a = b)) := by
  refine Ev.rounds ?_
  unfold slices_Equal_int_int.f
  refine G.Ev_ite (fun h => ?_) (fun h => G.Ev_some ?_)
  · exact diff_eq_loop a b (by omega) hb _ 0 (by omega) rfl (by simp)
  · symm
    rw [decide_eq_false_iff_not]
    intro e
    exact h (by rw [e])

theorem run_cmp1 (a b : Int) (W : World) : Calls Try.prog 109 #[.int .i64 a, .int .i64 b] W fun e w' => e = .returned (.int .i64 (if a < b then -1 else if b < a then 1 else 0)) ∧ Drawn0 W w' :=
  cmp_Compare_int.calls a b _ W (by
    unfold cmp_Compare_int.f cmp_isNaN_int.f
    simp only [Option.bind_some, bne_self_eq_false, Bool.false_eq_true, if_false]
    split
    · rfl
    · split <;> rfl)
theorem run_or (a b : Int) (W : World) (g : Nat) (hb : W.heap[g]? = some (.cells #[.int .i64 a, .int .i64 b] 3 (0, 0))) :
    Calls Try.prog 108 #[.slice (some ⟨g, 0, none⟩) 2 2] W fun e w' => e = .returned (.int .i64 (if a ≠ 0 then a else b)) ∧ ∃ q, w' = W.drewN q := by
  have h0 : W.cell? ⟨g, 0, none⟩ = some (.int .i64 a) := (blk_cell hb 0).trans rfl
  have h1 : W.cell? ⟨g, 1, none⟩ = some (.int .i64 b) := (blk_cell hb 1).trans rfl
  clear hb
  by_cases ha : a = 0
  · subst ha
    by_cases hb0 : b = 0
    · subst hb0
      go_enter Try.func108, Try.ntmps108
      go_wp2
      go_loopg [8] 3 (fun gk s8 wr => ∃ i : Nat, s8 = .int .i64 i ∧ i ≤ 2 ∧ 2 - i ≤ gk ∧ wr = W)
      case atStart => exact ⟨0, rfl, by omega, by omega, rfl⟩
      case round =>
        obtain ⟨i, rfl, h2, h3, rfl⟩ := hrel
        obtain rfl | rfl | rfl : i = 0 ∨ i = 1 ∨ i = 2 := by omega
        · go_wp2
          go_roundg (1)
          case measure => omega
          case rel => exact ⟨1, by go_num, by omega, by omega, rfl⟩
        · go_wp2
          go_roundg (0)
          case measure => omega
          case rel => exact ⟨2, by go_num, by omega, by omega, rfl⟩
        · go_wp2
          go_ret
          exact ⟨rfl, 0, rfl⟩
    · have hb1 : (b != 0) = true := bne_iff_ne.mpr hb0
      have hb2 : (b == 0) = false := beq_eq_false_iff_ne.mpr hb0
      rw [if_neg (show ¬ ((0 : Int) ≠ 0) by simp)]
      clear hb0
      go_enter Try.func108, Try.ntmps108
      go_wp2
      go_loopg [8] 3 (fun gk s8 wr => ∃ i : Nat, s8 = .int .i64 i ∧ i ≤ 1 ∧ 2 - i ≤ gk ∧ wr = W)
      case atStart => exact ⟨0, rfl, by omega, by omega, rfl⟩
      case round =>
        obtain ⟨i, rfl, h2, h3, rfl⟩ := hrel
        obtain rfl | rfl : i = 0 ∨ i = 1 := by omega
        · go_wp2
          go_roundg (1)
          case measure => omega
          case rel => exact ⟨1, by go_num, by omega, by omega, rfl⟩
        · go_wp2
          go_ret
          exact ⟨rfl, 0, rfl⟩
  · have hb1 : (a != 0) = true := bne_iff_ne.mpr ha
    have hb2 : (a == 0) = false := beq_eq_false_iff_ne.mpr ha
    rw [if_pos ha]
    clear ha
    go_enter Try.func108, Try.ntmps108
    go_wp2
    go_loopg [8] 3 (fun gk s8 wr => s8 = .int .i64 0 ∧ wr = W)
    case atStart => exact ⟨rfl, rfl⟩
    case round =>
      obtain ⟨rfl, rfl⟩ := hrel
      go_wp2
      go_ret
      exact ⟨rfl, 0, rfl⟩
theorem run_or2 (a b r : Int) (W : World) (g : Nat) (h : (if a ≠ 0 then a else b) = r) (hb : W.heap[g]? = some (.cells #[.int .i64 a, .int .i64 b] 3 (0, 0))) :
    Calls Try.prog 108 #[.slice (some ⟨g, 0, none⟩) 2 2] W fun e w' => e = .returned (.int .i64 r) ∧ ∃ q, w' = W.drewN q := by
  subst h
  exact run_or a b W g hb
theorem run_cmp2 (a b r : Int) (W : World) (h : (if a < b then (-1 : Int) else if b < a then 1 else 0) = r) : Calls Try.prog 109 #[.int .i64 a, .int .i64 b] W fun e w' => e = .returned (.int .i64 r) ∧ Drawn0 W w' := by
  subst h
  exact run_cmp1 a b W
def lkey (u : List Int) : List Int := (u.length : Int) :: u
theorem lkey_inj {u v : List Int} (h : lkey u = lkey v) : u = v := (List.cons.inj h).2
def palCmp (u v : List Int) : Int := if (if (u.length : Int) < v.length then (-1 : Int) else if (v.length : Int) < u.length then 1 else 0) ≠ 0 then (if (u.length : Int) < v.length then -1 else if (v.length : Int) < u.length then 1 else 0) else G.cmpW u v
theorem palCmp_eq (u v : List Int) : palCmp u v = G.cmpW (lkey u) (lkey v) := by
  unfold palCmp lkey
  rw [G.cmpW_cons]
  by_cases h1 : (u.length : Int) < v.length
  · simp [h1]
  · by_cases h2 : (v.length : Int) < u.length
    · simp [h1, h2]
    · simp [h1, h2]
def PGrown (w W : World) : Prop := ∃ q os, W = Go.Sort.grow (w.drewN q) os
theorem PGrown.refl (w : World) : PGrown w w := ⟨0, #[], by rw [Go.Sort.grow_empty]; rfl⟩
theorem PGrown.drewN {w W : World} (h : PGrown w W) (n : Nat) : PGrown w (W.drewN n) := by
  obtain ⟨q, os, rfl⟩ := h
  refine ⟨q + n, os, ?_⟩
  rw [← World.drewN_drewN]
  rfl
theorem PGrown.drew {w W : World} (h : PGrown w W) : PGrown w W.drew := h.drewN 1
theorem PGrown.trans {w W X : World} (h : PGrown w W) (h2 : PGrown W X) : PGrown w X := by
  obtain ⟨q, os, rfl⟩ := h
  obtain ⟨q2, os2, rfl⟩ := h2
  refine ⟨q + q2, os ++ os2, ?_⟩
  show Go.Sort.grow (Go.Sort.grow ((w.drewN q).drewN q2) os) os2 = _
  rw [Go.Sort.grow_grow, World.drewN_drewN]
theorem pal_lit {P : Program} {ops : Array Oper} {rest : List Oper} {o : Oper} {a : Act} {Q : Exit → Act → World → Prop} {W : World} (hgd : o.guard = none) {N : Tmp} (_hd : o.dst = some N) {cs : Array Value} {t : TypeId} {n : Nat}
    (hrun : (execOp a.eval o).run P W = .ok (.value (.slice (some ⟨W.heap.size, 0, none⟩) n n)) (W.alloc (.cells cs t (0, 0))))
    (h : ∀ g w1, w1.heap[g]? = some (.cells cs t (0, 0)) → PGrown W w1 → wpList P ops Q rest (a.put o.dst (.slice (some ⟨g, 0, none⟩) n n)) w1) : wpList P ops Q (o :: rest) a W :=
  Kd.event_run hgd hrun (h _ _ (blk_new W _) ⟨0, _, by rw [Go.Sort.alloc_eq_grow]; rfl⟩)
set_option maxHeartbeats 8000000 in
set_option maxRecDepth 100000 in
theorem pal_closure (A0 : Option Addr) (c0 : Nat) (l0 : List Int) (A1 : Option Addr) (c1 : Nat) (l1 : List Int) (w : World) (hm : l0.length ≤ 9223372036854775807) (hr0 : Kd.C (Kd.int .i64) w A0 l0.length l0) (hc0 : l0.length ≤ c0) (hr1 : Kd.C (Kd.int .i64) w A1 l1.length l1) (hc1 : l1.length ≤ c1) :
    Calls Try.prog 115 #[.slice A0 l0.length c0, .slice A1 l1.length c1] w fun e w' => e = .returned (.int .i64 (palCmp l0 l1)) ∧ PGrown w w' := by
  obtain ⟨k, hk⟩ := diff_cmp_some l0 l1 hm
  unfold palCmp
  generalize ht1 : (if (l0.length : Int) < l1.length then (-1 : Int) else if (l1.length : Int) < l0.length then 1 else 0) = t1
  generalize ht2 : G.cmpW l0 l1 = t2
  rw [ht2] at hk
  generalize hrr : (if t1 ≠ 0 then t1 else t2) = rr
  have A3 := Aside0.mk ht1
  have A4 := Aside0.mk hk
  have A5 := Aside0.mk hrr
  have HR0 := Aside0.mk hr0
  have HC0 := Aside0.mk hc0
  have HR1 := Aside0.mk hr1
  have HC1 := Aside0.mk hc1
  clear hr0 hc0 hr1 hc1 ht1 ht2 hrr hk hm
  have HG := Aside0.mk (PGrown.refl w)
  go_enter Try.func115, Try.ntmps115
  go_wp2_with (first | (go_at_call 109; (with_reducible refine (run_cmp2 (l0.length : Int) (l1.length : Int) t1 _ A3.out).mono ?_); rintro e w' ⟨rfl, ⟨nd, rfl⟩⟩) | (go_at_call 116; (with_reducible refine (slices_Compare_int_int.calls k _ _ l0 _ _ l1 t2 _ ?side1 ?side2 ?side3 ?side4 A4.out).mono ?_); (case side1 => repeat (first | exact HR0.out | (with_reducible refine Kd.C_alloc ?_ _) | (with_reducible refine Kd.C_drewN ?_ _) | (with_reducible refine Kd.C_drew ?_))); (case side2 => exact HC0.out); (case side3 => repeat (first | exact HR1.out | (with_reducible refine Kd.C_alloc ?_ _) | (with_reducible refine Kd.C_drewN ?_ _) | (with_reducible refine Kd.C_drew ?_))); (case side4 => exact HC1.out); rintro e w' ⟨rfl, ⟨nd, rfl⟩⟩) | ((with_reducible refine gate_dst (N := 13) rfl ?_); refine pal_lit ?hg (N := 13) ?hd (cs := #[.int .i64 t1, .int .i64 t2]) (t := 3) (n := 2) ?hr ?_; (case hd => rfl); (case hg => rfl); (case hr => first | (go_simp; done) | (go_simp; rfl)); intro gbo_ wo_ hbox hgr; have BO := Aside0.mk hbox; have n1_ := Aside0.mk (PGrown.trans (by repeat (first | (with_reducible first | exact HG.out | apply PGrown.drewN | apply PGrown.drew) | exact HG.out)) hgr); clear HG; have HG := n1_; clear n1_; clear hbox hgr) | (go_at_call 108; (with_reducible refine (run_or2 t1 t2 rr _ gbo_ A5.out ?side1).mono ?_); (case side1 => exact BO.out); rintro e w' ⟨rfl, ⟨nd, rfl⟩⟩))
  go_ret
  exact ⟨rfl, by repeat (first | (with_reducible first | exact HG.out | apply PGrown.drewN | apply PGrown.drew) | exact HG.out)⟩
/-- A row's header with what it holds, in whatever world in which w's blocks but g are as they were. -/
structure DRow (w : World) (g : Nat) where
  v : Value
  xs : List Int
  A : Option Addr
  c : Nat
  hv : v = .slice A xs.length c
  hc : xs.length ≤ c
  hm : xs.length ≤ 9223372036854775807
  hC : ∀ W : World, (∀ k, k < w.heap.size → k ≠ g → W.heap[k]? = w.heap[k]?) → Kd.C (Kd.int .i64) W A xs.length xs
instance (w : World) (g : Nat) : Inhabited (DRow w g) := ⟨⟨.slice none 0 0, [], none, 0, rfl, Nat.le_refl _, Nat.zero_le _, fun W _ => Kd.C_nil _ W⟩⟩
theorem DRow.one (w : World) (g : Nat) : OneCell (fun p : DRow w g => p.v) := fun p => by show p.v.oneCell' = true; rw [p.hv]; rfl
def dcmp {w : World} {g : Nat} (p q : DRow w g) : Int := palCmp p.xs q.xs
def deq {w : World} {g : Nat} (p q : DRow w g) : Bool := decide (p.xs = q.xs)
theorem dcmp_swo (w : World) (g : Nat) : Go.Sort.SWO (ltOf (dcmp (w := w) (g := g))) where
  irrefl x := by unfold ltOf dcmp; rw [palCmp_eq, G.cmpW_refl]; rfl
  trans x y z h1 h2 := by
    unfold ltOf dcmp at *
    simp only [decide_eq_true_eq, palCmp_eq] at *
    exact G.cmpW_trans _ _ _ h1 h2
  ntrans x y z h1 h2 := by
    unfold ltOf dcmp at *
    simp only [decide_eq_false_iff_not, palCmp_eq] at *
    intro h3
    -- x < z; y ≤ x and z ≤ y
    have a := G.cmpW_anti (lkey x.xs) (lkey y.xs)
    have b := G.cmpW_anti (lkey y.xs) (lkey z.xs)
    by_cases e : G.cmpW (lkey y.xs) (lkey z.xs) = 0
    · have e' := (G.cmpW_zero _ _).1 e
      rw [e'] at h1
      exact h1 h3
    · have h4 : G.cmpW (lkey z.xs) (lkey y.xs) < 0 := by omega
      exact h1 (G.cmpW_trans _ _ _ h3 h4)
theorem dcmp_calls {w : World} {g : Nat} (p q : DRow w g) (W : World) (hW : ∀ k, k < w.heap.size → k ≠ g → W.heap[k]? = w.heap[k]?) :
    Calls Try.prog 115 #[p.v, q.v] W fun e w' => e = .returned (.int .i64 (dcmp p q)) ∧ PGrown W w' := by
  rw [p.hv, q.hv]
  exact pal_closure p.A p.c p.xs q.A q.c q.xs W p.hm (p.hC W hW) p.hc (q.hC W hW) q.hc
theorem deq_calls {w : World} {g : Nat} (p q : DRow w g) (W : World) (hW : ∀ k, k < w.heap.size → k ≠ g → W.heap[k]? = w.heap[k]?) :
    Calls Try.prog 118 #[p.v, q.v] W fun e w' => e = .returned (.bool (deq p q)) ∧ Drawn0 W w' := by
  obtain ⟨k, hk⟩ := diff_eq_some p.xs q.xs p.hm
  rw [p.hv, q.hv]
  exact slices_Equal_int_int.calls k p.A p.c p.xs q.A q.c q.xs _ W (p.hC W hW) p.hc (q.hC W hW) q.hc hk
def diff_sort_ren : Go.Shelf.Ren := ⟨fun | 6 => 114 | 15 => 156 | 14 => 159 | 28 => 175 | 29 => 176 | 20 => 177 | 21 => 178 | 22 => 179 | 23 => 180 | 24 => 181 | 25 => 182 | 26 => 183 | 27 => 184 | 46 => 197 | 47 => 193 | 48 => 194 | 49 => 198 | 50 => 199 | 57 => 207 | n => n, fun | 22 => 23 | 24 => 22 | 25 => 68 | 3 => 3 | 39 => 106 | 0 => 0 | 53 => 124 | 55 => 126 | 4 => 4 | 46 => 117 | 45 => 116 | 50 => 121 | 5 => 5 | 9 => 9 | 66 => 141 | 70 => 145 | 76 => 155 | 77 => 56 | n => n, fun | n => n⟩
theorem diff_sort : Go.Proofs.SlLaysF.n6 Try.prog diff_sort_ren :=
  { mixed := by kernel_rfl,
    f6 := ⟨Try.f114.name, by decide, Try.func114.trans (congrArg some (by kernel_rfl))⟩,
    f14 := ⟨Try.f159.name, by decide, Try.func159.trans (congrArg some (by kernel_rfl))⟩,
    f15 := Try.func156.trans (congrArg some (by kernel_rfl)),
    f20 := ⟨Try.f177.name, by decide, Try.func177.trans (congrArg some (by kernel_rfl))⟩,
    f21 := ⟨Try.f178.name, by decide, Try.func178.trans (congrArg some (by kernel_rfl))⟩,
    f22 := ⟨Try.f179.name, by decide, Try.func179.trans (congrArg some (by kernel_rfl))⟩,
    f23 := ⟨Try.f180.name, by decide, Try.func180.trans (congrArg some (by kernel_rfl))⟩,
    f24 := ⟨Try.f181.name, by decide, Try.func181.trans (congrArg some (by kernel_rfl))⟩,
    f25 := ⟨Try.f182.name, by decide, Try.func182.trans (congrArg some (by kernel_rfl))⟩,
    f26 := ⟨Try.f183.name, by decide, Try.func183.trans (congrArg some (by kernel_rfl))⟩,
    f27 := ⟨Try.f184.name, by decide, Try.func184.trans (congrArg some (by kernel_rfl))⟩,
    f28 := Try.func175.trans (congrArg some (by kernel_rfl)),
    f29 := Try.func176.trans (congrArg some (by kernel_rfl)),
    f46 := ⟨Try.f197.name, by decide, Try.func197.trans (congrArg some (by kernel_rfl))⟩,
    f47 := Try.func193.trans (congrArg some (by kernel_rfl)),
    f48 := Try.func194.trans (congrArg some (by kernel_rfl)),
    f49 := ⟨Try.f198.name, by decide, Try.func198.trans (congrArg some (by kernel_rfl))⟩,
    f50 := ⟨Try.f199.name, by decide, Try.func199.trans (congrArg some (by kernel_rfl))⟩,
    f57 := ⟨Try.f207.name, by decide, Try.func207.trans (congrArg some (by kernel_rfl))⟩,
    t0 := Try.underlying0,
    a0 := Try.isAgg0,
    z0 := Try.sizeOf0,
    v0 := Try.zeroValue0,
    t3 := Try.underlying3,
    a3 := Try.isAgg3,
    z3 := Try.sizeOf3,
    v3 := Try.zeroValue3,
    t4 := Try.underlying4,
    a4 := Try.isAgg4,
    z4 := Try.sizeOf4,
    v4 := Try.zeroValue4,
    t5 := Try.underlying5,
    a5 := Try.isAgg5,
    z5 := Try.sizeOf5,
    v5 := Try.zeroValue5,
    t9 := Try.underlying9,
    a9 := Try.isAgg9,
    z9 := Try.sizeOf9,
    v9 := Try.zeroValue9,
    t22 := Try.underlying23,
    a22 := Try.isAgg23,
    z22 := Try.sizeOf23,
    v22 := Try.zeroValue23,
    a24 := Try.isAgg22,
    z24 := Try.sizeOf22,
    t25 := Try.underlying68,
    a25 := Try.isAgg68,
    z25 := Try.sizeOf68,
    v25 := Try.zeroValue68,
    t39 := Try.underlying106,
    a39 := Try.isAgg106,
    z39 := Try.sizeOf106,
    v39 := Try.zeroValue106,
    t45 := Try.underlying116,
    a45 := Try.isAgg116,
    z45 := Try.sizeOf116,
    v45 := Try.zeroValue116,
    t46 := Try.underlying117,
    a46 := Try.isAgg117,
    z46 := Try.sizeOf117,
    v46 := Try.zeroValue117,
    t50 := Try.underlying121,
    a50 := Try.isAgg121,
    z50 := Try.sizeOf121,
    v50 := Try.zeroValue121,
    t53 := Try.underlying124,
    a53 := Try.isAgg124,
    z53 := Try.sizeOf124,
    v53 := Try.zeroValue124,
    t55 := Try.underlying126,
    a55 := Try.isAgg126,
    z55 := Try.sizeOf126,
    v55 := Try.zeroValue126,
    t66 := Try.underlying141,
    a66 := Try.isAgg141,
    z66 := Try.sizeOf141,
    v66 := Try.zeroValue141,
    t70 := Try.underlying145,
    a70 := Try.isAgg145,
    z70 := Try.sizeOf145,
    v70 := Try.zeroValue145,
    t76 := Try.underlying155,
    a76 := Try.isAgg155,
    z76 := Try.sizeOf155,
    v76 := Try.zeroValue155,
    t77 := Try.underlying56,
    a77 := Try.isAgg56,
    z77 := Try.sizeOf56,
    v77 := Try.zeroValue56 }
theorem diff_lays (w : World) (g size : Nat) : CmpLays1 Try.prog 115 #[] (fun p : DRow w g => p.v) dcmp g 0 size w := by
  intro m os dk hs x y
  refine (dcmp_calls x y _ (fun k hk hne => ?_)).mono fun e w' ⟨he, hd⟩ => ⟨he, hd⟩
  have hsz : (Go.Sort.putRow (fun p : DRow w g => p.v) (Go.Sort.ahead w m) g 0 dk).heap.size = w.heap.size := by simp [Go.Sort.putRow, Go.Sort.mapBlock, Go.Sort.ahead]
  unfold sortWorld Go.Sort.grow
  simp only [Array.getElem?_append, hsz, hk, if_true]
  simp only [Go.Sort.putRow, Go.Sort.mapBlock, Array.getElem?_modify, if_neg (Ne.symm hne)]
  rfl
theorem list_from {α β : Type} (F : α → β) : ∀ ps : List β, (∀ p ∈ ps, ∃ q, F q = p) → ∃ ds : List α, ds.map F = ps
  | [], _ => ⟨[], rfl⟩
  | p :: ps, h => by
    obtain ⟨q, hq⟩ := h p List.mem_cons_self
    obtain ⟨ds, hd⟩ := list_from F ps (fun x hx => h x (List.mem_cons_of_mem _ hx))
    exact ⟨q :: ds, by rw [List.map_cons, hq, hd]⟩
theorem diff_sorted (w : World) (g cap : Nat) (ds : List (DRow w g)) (t : G.Turned w w g cap 22 (ds.map (·.v))) (hsz : ds.length < 4611686018427387904) :
    Calls Try.prog 114 #[.slice (some ⟨g, 0, none⟩) ds.length cap, .func (.func 115) #[] #[]] w fun e w1 => e = .returned (.tuple #[]) ∧
      ∃ ds' : List (DRow w g), ds'.Perm ds ∧ (∀ i j, i < j → j < ds'.length → 0 ≤ G.cmpW (lkey (ds'.getD j default).xs) (lkey (ds'.getD i default).xs)) ∧ G.Turned w w1 g cap 22 (ds'.map (·.v)) := by
  have eg : ∀ args w, (callFunc 115 args).run Try.prog w = .ok (.enter 115 args) w := enters_of Try.func115 (by kernel_rfl) rfl
  obtain ⟨cur, hh, _, _⟩ := t.row
  have hH : Go.Sort.Holds (fun p : DRow w g => p.v) w g 0 ds.toArray := by
    intro j hj
    have hj' : j < ds.length := by simpa using hj
    have := t.cell j (default : DRow w g).v (by simpa using hj')
    rw [Nat.zero_add]
    refine ⟨this.1.trans ?_, this.2⟩
    congr 1
    rw [G.getD_eq (by simpa using hj'), getElem!_pos _ j hj]
    simp
  have hs := Any.slices_SortFunc diff_sort (fun p : DRow w g => p.v) (DRow.one w g) dcmp (dcmp_swo w g) 115 #[] g 0 cap ds.toArray w eg (diff_lays w g ds.toArray.size) hH (blk_lt hh) (by simpa using hsz)
  change Calls Try.prog 114 #[.slice (some ⟨g, 0, none⟩) ds.toArray.size cap, .func (.func 115) #[] #[]] w _ at hs
  rw [List.size_toArray] at hs
  refine hs.mono fun e w1 ⟨he, d', n, os, hp, hsrt, hw⟩ => ⟨he, d'.toList, ?_, ?_, ?_⟩
  · obtain ⟨h1, _, h3⟩ := hp
    have e1 : d'.extract 0 ds.length = d' := by
      rw [Array.extract_eq_self_of_le]
      simp at h1
      omega
    have e2 : ds.toArray.extract 0 ds.length = ds.toArray := by
      rw [Array.extract_eq_self_of_le]
      simp
    change (d'.extract 0 ds.length).toList.Perm (ds.toArray.extract 0 ds.length).toList at h3
    rw [e1, e2] at h3
    exact h3
  · intro i j hij hj
    have hj' : j < d'.size := by simpa using hj
    have hsz' : d'.size = ds.length := by simpa using hp.1
    have := hsrt i j (Nat.zero_le _) hij (by omega)
    unfold ltOf dcmp at this
    rw [decide_eq_false_iff_not, palCmp_eq, getElem!_pos _ j hj', getElem!_pos _ i (by omega)] at this
    rw [G.getD_eq hj, G.getD_eq (show i < d'.toList.length by simp; omega)]
    simp only [Array.getElem_toList]
    omega
  · rw [hw]
    exact t.sorted n d' os (by rw [List.length_map]; have := hp.1; simp at this; omega)
theorem getD_v {w : World} {g : Nat} (ds : List (DRow w g)) (k : Nat) : (ds.map (·.v)).getD k (default : DRow w g).v = (ds.getD k default).v := by
  rw [List.getD_eq_getElem?_getD, List.getD_eq_getElem?_getD, List.getElem?_map]
  cases ds[k]? <;> rfl
theorem Turned0 {w W : World} {g cap er : Nat} {hs : List Value} (h : G.Turned w W g cap er hs) (vs : List Value) (o : Nat) (ho : hs.length ≤ o) : G.Turned w (W.setCells g o vs) g cap er hs := G.Turned.setCells vs o h ho
theorem Cp0.mk' {α : Type} {eq : α → α → Bool} {z : α} {l : List α} {k : Nat} (hk : k < l.length) (hall : ∀ j, j < k → G.stays eq z l j = true) (hdup : G.stays eq z l k = false) :
    G.Cp eq z l (k + 1) l ∧ (G.stayed eq z l (k + 1)).length = k := G.Cp.start hk hall hdup
set_option maxHeartbeats 4000000 in
set_option maxRecDepth 1000000 in
theorem diff_compacted (w W : World) (g cap : Nat) (ds : List (DRow w g)) (t : G.Turned w W g cap 22 (ds.map (·.v))) (hsz : ds.length < 4611686018427387904) :
    Calls Try.prog 117 #[.slice (some ⟨g, 0, none⟩) ds.length cap, .func (.func 118) #[] #[]] W fun e W' =>
      e = .returned (.slice (some ⟨g, 0, none⟩) (G.stayed deq default ds ds.length).length cap) ∧ G.Turned w W' g cap 22 ((G.stayed deq default ds ds.length).map (·.v)) := by
  have hcap := t.len
  rw [List.length_map] at hcap
  have T0 := Aside0.mk t
  clear t
  by_cases h2 : ds.length < 2
  · go_enter Try.func117, Try.ntmps117
    go_wp2
    go_ret
    have e : G.stayed deq default ds ds.length = ds := by
      rw [G.stayed_take deq default ds _ (Nat.le_refl _) (fun j hj => (by have e0 : j = 0 := (by omega); rw [e0]; exact G.stays_first _ _ _)), List.take_length]
    rw [e]
    exact ⟨rfl, T0.out⟩
  · go_enter Try.func117, Try.ntmps117
    go_wp2
    go_loopg [5] ds.length (fun gk s3 wr => ∃ k : Nat, 1 ≤ k ∧ k ≤ ds.length ∧ ds.length - k ≤ gk ∧ s3 = .int .i64 k ∧ Aside0 (G.Turned w wr g cap 22 (ds.map (·.v))) ∧ Aside0 (∀ j, j < k → G.stays deq default ds j = true))
    case atStart => exact ⟨1, Nat.le_refl _, by omega, by omega, rfl, T0, ⟨fun j hj => (by have e0 : j = 0 := (by omega); rw [e0]; exact G.stays_first _ _ _)⟩⟩
    case round =>
      obtain ⟨k, hk1, hk, hg, rfl, HT, HA⟩ := hrel
      by_cases hlt : k < ds.length
      · obtain ⟨c1, f1⟩ := HT.out.cell k (default : DRow w g).v (by rw [List.length_map]; exact hlt)
        obtain ⟨c0, f0⟩ := HT.out.cell (k - 1) (default : DRow w g).v (by rw [List.length_map]; omega)
        rw [getD_v] at c1 c0
        clear f1 f0
        have HD : ∀ q, Calls Try.prog 118 #[(ds.getD k default).v, (ds.getD (k - 1) default).v] (wr.drewN q) fun e w' => e = .returned (.bool (deq (ds.getD k default) (ds.getD (k - 1) default))) ∧ ∃ m, w' = (wr.drewN q).drewN m := fun q => (deq_calls (ds.getD k default) (ds.getD (k - 1) default) (wr.drewN q) (fun j hj hne => HT.out.block j hj hne)).mono (fun _ _ h => ⟨h.1, h.2.out⟩)
        have HB : Aside0 (∀ b, deq (ds.getD k default) (ds.getD (k - 1) default) = b → b = true ∨ G.stays deq default ds k = true) := ⟨fun b hb => by cases b with
          | true => exact .inl rfl
          | false => exact .inr (G.stays_yes hb)⟩
        have HE : Aside0 (∀ b, deq (ds.getD k default) (ds.getD (k - 1) default) = b → b = false ∨ G.stays deq default ds k = false) := ⟨fun b hb => by cases b with
          | true => exact .inr (G.stays_no (by omega) hb)
          | false => exact .inl rfl⟩
        have hw1 : IntKind.i64.wrap ((k : Int) - 1) = (k : Int) - 1 := by unfold IntKind.wrap; simp [IntKind.bits, IntKind.signed]; omega
        have hw2 : 0 ≤ (k : Int) - 1 := by omega
        have hw3 : ((k : Int) - 1).toNat = k - 1 := by omega
        have hw4 : (k : Int) - 1 < (ds.length : Int) := by omega
        generalize hb : deq (ds.getD k default) (ds.getD (k - 1) default) = b at HD
        have HBb := HB.out b hb
        have HEb := HE.out b hb
        clear HB HE hb
        generalize (ds.getD k default).v = xv at c1 HD
        generalize (ds.getD (k - 1) default).v = yv at c0 HD
        have HBb' := Aside0.mk HBb
        have HEb' := Aside0.mk HEb
        clear HBb HEb
        cases b with
        | true =>
          go_wp2_with fail
          go_quiet ((go_at_call 118; exact Calls.quiet_of (HD _)))
          go_wp2
          have HN := HEb'.out.resolve_left (by simp)
          have HS := Cp0.mk' hlt HA.out HN
          have HS0 := Aside0.mk HS.1
          have HS1 := HS.2
          have HT2 := Aside0.mk (HT.out.drewN nq)
          clear c1 c0 HD HBb' HEb' HN HS HT HA hw1 hw2 hw3 hw4
          generalize hwq : wr.drewN nq = wq at HT2
          clear hwq
          go_loopg [5, 7] ds.length (fun gk s5 s7 w2 => ∃ (kk k2 : Nat) (cur : List (DRow w g)), s5 = .int .i64 kk ∧ s7 = .int .i64 k2 ∧ 1 ≤ k2 ∧ k + k2 ≤ ds.length ∧ ds.length - (k + k2) ≤ gk ∧ kk < k + k2 ∧ Aside0 (G.Turned w w2 g cap 22 (cur.map (·.v))) ∧ Aside0 (G.Cp deq default ds (k + k2) cur) ∧ Aside0 (kk = (G.stayed deq default ds (k + k2)).length))
          case atStart => exact ⟨k, 1, ds, rfl, rfl, Nat.le_refl _, by omega, by omega, by omega, HT2, HS0, ⟨HS1.symm⟩⟩
          case round =>
            obtain ⟨kk, k2, cur, rfl, rfl, h1, hle, hg2, hkk, HT3, HC, HK⟩ := hrel
            have hcs := HC.out.size hle
            by_cases hlt2 : k + k2 < ds.length
            · obtain ⟨cm, _⟩ := HT3.out.cell (k + k2) (default : DRow w g).v (by rw [List.length_map, hcs]; exact hlt2)
              obtain ⟨cp, _⟩ := HT3.out.cell (k + (k2 - 1)) (default : DRow w g).v (by rw [List.length_map, hcs]; omega)
              obtain ⟨ck, fk⟩ := HT3.out.cell kk (default : DRow w g).v (by rw [List.length_map, hcs]; omega)
              rw [getD_v, HC.out.high (k + k2) (by rw [← HK.out]; omega)] at cm
              rw [getD_v, HC.out.high (k + (k2 - 1)) (by rw [← HK.out]; omega)] at cp
              clear hcs
              have hkm : k + k2 - 1 = k + (k2 - 1) := by omega
              have HD : ∀ q, Calls Try.prog 118 #[(ds.getD (k + k2) default).v, (ds.getD (k + (k2 - 1)) default).v] (wr.drewN q) fun e w' => e = .returned (.bool (deq (ds.getD (k + k2) default) (ds.getD (k + (k2 - 1)) default))) ∧ ∃ m, w' = (wr.drewN q).drewN m := fun q => (deq_calls (ds.getD (k + k2) default) (ds.getD (k + (k2 - 1)) default) (wr.drewN q) (fun j hj hne => HT3.out.block j hj hne)).mono (fun _ _ h => ⟨h.1, h.2.out⟩)
              have HBE : Aside0 (∀ b, deq (ds.getD (k + k2) default) (ds.getD (k + (k2 - 1)) default) = b → G.stays deq default ds (k + k2) = !b) := ⟨fun b hb => by cases b with
                | true => exact G.stays_no (by omega) (by rw [hkm]; exact hb)
                | false => exact G.stays_yes (by rw [hkm]; exact hb)⟩
              have hw1 : IntKind.i64.wrap ((k2 : Int) - 1) = (k2 : Int) - 1 := by unfold IntKind.wrap; simp [IntKind.bits, IntKind.signed]; omega
              have hw2 : 0 ≤ (k2 : Int) - 1 := by omega
              have hw3 : ((k2 : Int) - 1).toNat = k2 - 1 := by omega
              have hw4 : (k2 : Int) - 1 < ((ds.length - k : Nat) : Int) := by omega
              have hw5 : (k2 : Int) < ((ds.length - k : Nat) : Int) := by omega
              have hw6 : k2 < ds.length - k := by omega
              have hw7 : k2 - 1 < ds.length - k := by omega
              clear hkm
              generalize hb : deq (ds.getD (k + k2) default) (ds.getD (k + (k2 - 1)) default) = b at HD
              have HN := Aside0.mk (HBE.out b hb)
              clear HBE hb
              obtain ⟨Ax, nx, cx, ex⟩ : ∃ A n c, (ds.getD (k + k2) default).v = .slice A n c := ⟨_, _, _, (ds.getD (k + k2) default).hv⟩
              obtain ⟨Ay, ny, cy, ey⟩ : ∃ A n c, (ds.getD (k + (k2 - 1)) default).v = .slice A n c := ⟨_, _, _, (ds.getD (k + (k2 - 1)) default).hv⟩
              rw [ex] at cm HD
              rw [ey] at cp HD
              have EX := Aside0.mk ex
              clear ex ey
              generalize (cur.map (·.v)).getD kk (default : DRow w g).v = old at ck
              cases b with
              | true =>
                clear ck fk
                go_wp2_with fail
                go_quiet ((go_at_call 118; exact Calls.quiet_of (HD _)))
                go_wp2
                have HS := HC.out.skip HN.out
                go_roundg (ds.length - (k + (k2 + 1)))
                case measure => omega
                case rel => exact ⟨kk, k2 + 1, cur, rfl, by go_num, by omega, by omega, Nat.le_refl _, by omega, ⟨HT3.out.drewN nq⟩, ⟨HS.1⟩, ⟨HK.out.trans HS.2.symm⟩⟩
              | false =>
                go_wp2_with fail
                go_quiet ((go_at_call 118; exact Calls.quiet_of (HD _)))
                go_wp2
                have HS := HC.out.keep hlt2 HN.out
                rw [← HK.out] at HS
                have HT4 := (HT3.out.drewN nq).setCell kk (.slice Ax nx cx)
                go_roundg (ds.length - (k + (k2 + 1)))
                case measure => omega
                case rel => exact ⟨kk + 1, k2 + 1, cur.set kk (ds.getD (k + k2) default), by go_num, by go_num, by omega, by omega, Nat.le_refl _, by omega, ⟨by rw [List.map_set, EX.out]; exact HT4⟩, ⟨HS.1⟩, ⟨HS.2.symm⟩⟩
            · have hend : k + k2 = ds.length := by omega
              have hcl : ∀ ty, (Builtin.clear_ #[23] ty #[.slice (some ⟨g, kk, none⟩) (ds.length - kk) (cap - kk)]).run Try.prog wr = .ok (.tuple #[]) (wr.setCells g kk (List.replicate (ds.length - kk) (.slice none 0 0))) :=
                fun ty => Lib.run_clear_slice wr _ _ ty _ Try.underlying23 Try.zeroValue22 rfl rfl g kk _ _ (by omega) (fun j hj => by rw [(HT3.out.cell (kk + j) (.slice none 0 0) (by rw [List.length_map, hcs]; omega)).1]; rfl) (fun j hj => (HT3.out.cell (kk + j) (.slice none 0 0) (by rw [List.length_map, hcs]; omega)).2)
              have HCS := Aside0.mk hcs
              clear hcs
              go_wp2
              go_ret
              have hK := HK.out
              rw [hend] at hK
              have hcur := HC.out.1
              rw [hend] at hcur
              refine ⟨by rw [← hK]; rfl, ?_⟩
              have e1 : (cur.map (·.v)).take kk = (G.stayed deq default ds ds.length).map (·.v) := by
                rw [← List.map_take]
                conv => lhs; rw [hcur, hK, List.take_left]
              have := Turned0 (HT3.out.take kk) (List.replicate (ds.length - kk) (.slice none 0 0)) kk (by rw [List.length_take]; omega)
              rwa [e1] at this
        | false =>
          go_wp2_with fail
          go_quiet ((go_at_call 118; exact Calls.quiet_of (HD _)))
          go_wp2
          go_roundg (ds.length - (k + 1))
          case measure => omega
          case rel =>
            have HN := HBb'.out.resolve_left (by simp)
            refine ⟨k + 1, by omega, by omega, Nat.le_refl _, by go_num, ⟨HT.out.drewN nq⟩, ⟨fun j hj => ?_⟩⟩
            by_cases e : j = k
            · rw [e]; exact HN
            · exact HA.out j (by omega)
      · have hke : k = ds.length := by omega
        subst hke
        go_wp2
        go_ret
        have e : G.stayed deq default ds ds.length = ds := by
          rw [G.stayed_take deq default ds _ (Nat.le_refl _) HA.out, List.take_length]
        rw [e]
        exact ⟨rfl, HT.out⟩
theorem diff_short (W : World) (A : Option Addr) (cap : Nat) :
    Calls Try.prog 117 #[.slice A 0 cap, .func (.func 118) #[] #[]] W fun e W' => e = .returned (.slice A 0 cap) ∧ W' = W := by
  go_enter Try.func117, Try.ntmps117
  go_wp2
  go_ret
  exact ⟨rfl, rfl⟩
def palO (l : List (List Int)) : Option (List (List Int)) := if l.length < 4611686018427387904 then some ((G.canon (l.map lkey)).map List.tail) else none
set_option maxHeartbeats 4000000 in
set_option maxRecDepth 100000 in
theorem pal_end (v : Value) (l0 : List (List Int)) (r : List (List Int)) (w0 w : World) (hB : Below w0.heap.size w0 w) (ho : Kd.S (Kd.slice 3 (Kd.int .i64)) 22 w w0.heap.size (fun _ => True) v l0) (h : palO l0 = some r) :
    Calls Try.prog 114 #[v, .func (.func 115) #[] #[]] w fun e w1 => e = .returned (.tuple #[]) ∧ Calls Try.prog 117 #[v, .func (.func 118) #[] #[]] w1 fun e w2 => ∃ A n c, e = .returned (.slice A n c) ∧ Kd.S (Kd.slice 3 (Kd.int .i64)) 22 w2 w0.heap.size (fun _ => True) (.slice A n c) r ∧ Below w0.heap.size w0 w2 := by
  unfold palO at h
  by_cases hsz : l0.length < 4611686018427387904
  · rw [if_pos hsz] at h
    have hr := (Option.some.inj h).symm
    clear h
    rcases Nat.eq_zero_or_pos l0.length with hz | hpos
    · obtain rfl : l0 = [] := List.length_eq_zero_iff.1 hz
      obtain ⟨A, c, rfl⟩ := Kd.S_slice ho
      have hs := AnyF.slices_SortFunc_none { diff_sort with } A c (.func (.func 115) #[] #[]) w
      change Calls Try.prog 114 #[.slice A 0 c, .func (.func 115) #[] #[]] w _ at hs
      refine hs.mono fun e w1 ⟨he, hw⟩ => ⟨he, ?_⟩
      subst hw
      refine (diff_short _ A c).mono fun e w2 ⟨he2, hw2⟩ => ?_
      subst hw2
      refine ⟨_, _, _, he2, ?_, hB⟩
      rw [hr]
      exact ho
    · obtain ⟨g, cap, rfl, hbase, hlt, _⟩ := Kd.S_form ho hpos
      obtain ⟨ps, hps, hP⟩ := G.Pile_of_S ho
      have hpl : ps.length = l0.length := by rw [← hps, List.length_map]
      have hds : ∃ ds : List (DRow w g), ds.map (fun q => (q.v, q.xs)) = ps := by
        refine list_from _ _ (fun p hp => ?_)
        have hR := hP.2.2.1 p hp
        have hC : ∀ W : World, (∀ k, k < w.heap.size → k ≠ g → W.heap[k]? = w.heap[k]?) → ∃ A c, p.1 = .slice A p.2.length c ∧ p.2.length ≤ c ∧ Kd.C (Kd.int .i64) W A p.2.length p.2 := fun W hW =>
          Kd.R_reads (Kd.R_step hR (fun k hk hkl => hW k hkl (fun e => hk.2 (by rw [e]; rfl))))
        obtain ⟨A, c, e, hc, hCw⟩ := hC w (fun _ _ _ => rfl)
        refine ⟨⟨p.1, p.2, A, c, e, hc, hCw.2.1, fun W hW => ?_⟩, rfl⟩
        obtain ⟨A', c', e', _, h'⟩ := hC W hW
        rw [e] at e'
        injection e' with ea _ _
        rw [ea]
        exact h'
      obtain ⟨ds, hds⟩ := hds
      have hv : ds.map (·.v) = ps.map (·.1) := by rw [← hds, List.map_map]; rfl
      have hx : ds.map (·.xs) = l0 := by rw [← hps, ← hds, List.map_map]; rfl
      have hdl : ds.length = l0.length := by rw [← hx, List.length_map]
      have hT : G.Turned w w g cap 22 (ds.map (·.v)) := by
        rw [hv]
        have := hP.2.1
        rw [hpl] at this
        exact G.Turned.start this
      have hs := diff_sorted w g cap ds hT (by omega)
      rw [hdl] at hs
      have HEND : (∀ (ds' : List (DRow w g)) (W' : World), ds'.Perm ds → (∀ i j, i < j → j < ds'.length → 0 ≤ G.cmpW (lkey (ds'.getD j default).xs) (lkey (ds'.getD i default).xs)) → G.Turned w W' g cap 22 ((G.stayed deq default ds' ds'.length).map (·.v)) →
          Kd.S (Kd.slice 3 (Kd.int .i64)) 22 W' w0.heap.size (fun _ => True) (.slice (some ⟨g, 0, none⟩) (G.stayed deq default ds' ds'.length).length cap) r ∧ Below w0.heap.size w0 W') := by
        refine fun ds' W' hperm hsrt hT' => ?_
        have hkeys := G.stayed_keys (key := fun p : DRow w g => lkey p.xs) (z := default) (l := ds') (eq := deq) (fun x y => by unfold deq; exact decide_eq_decide.2 ⟨fun e => by rw [e], lkey_inj⟩) hsrt ds'.length (Nat.le_refl _)
        rw [List.take_length] at hkeys
        have hsub := G.stayed_sub deq default ds' ds'.length (Nat.le_refl _)
        rw [List.take_length] at hsub
        generalize G.stayed deq default ds' ds'.length = st at hkeys hsub hT'
        have hres : r = st.map (·.xs) := by
          rw [hr, ← G.canon_eq (l := l0.map lkey) hkeys.1 (fun x => ?_), List.map_map]
          · rfl
          · rw [hkeys.2 x, ← hx, List.map_map]
            exact (hperm.map _).mem_iff
        have hP2 : (ds'.map (fun q => (q.v, q.xs))).Perm ps := by rw [← hds]; exact hperm.map _
        have hpw : (st.map (fun q => (q.v, q.xs))).Pairwise (fun a b => ∀ k, a.1.ownBlock = some k → b.1.ownBlock ≠ some k) := by
          have h1 : (ds'.map (fun q => (q.v, q.xs))).Pairwise (fun a b => ∀ k, a.1.ownBlock = some k → b.1.ownBlock ≠ some k) :=
            (hP2.pairwise_iff (fun {a b} hab k h1 h2 => hab k h2 h1)).2 hP.2.2.2
          exact h1.sublist (hsub.map _)
        have hT2 : G.Turned w W' g cap 22 ((st.map (fun q => (q.v, q.xs))).map (·.1)) := by rw [List.map_map]; exact hT'
        have hF := G.Pile.turned hP hT2 (fun p hp => hP2.mem_iff.1 ((hsub.map _).subset hp)) hpw
        have hS := hF.toS
        rw [List.length_map, List.map_map] at hS
        refine ⟨?_, ?_⟩
        · rw [hres]; exact hS
        · exact hB.trans ⟨hT'.os, hT'.tape, hT'.output, hT'.size, fun k hk => hT'.block k (Nat.lt_of_lt_of_le hk hB.size) (by omega)⟩
      refine hs.mono fun e w1 ⟨he, ds', hperm, hsrt, hT1⟩ => ⟨he, ?_⟩
      have hcl := hperm.length_eq
      have hcc := diff_compacted w w1 g cap ds' hT1 (by omega)
      rw [show ds'.length = l0.length by omega] at hcc
      refine hcc.mono fun e w2 ⟨he2, hT2⟩ => ?_
      rw [show l0.length = ds'.length by omega] at he2 hT2
      obtain ⟨hS, hB2⟩ := HEND ds' w2 hperm hsrt hT2
      exact ⟨_, _, _, he2, hS, hB2⟩
  · rw [if_neg hsz] at h
    cases h

/-! ### impl_PalindromesOf: function 35 -/
mutual
def impl_PalindromesOf.l0 : Nat → List Int → List (List Int) → Int → Int → Option ((List (List Int)))
  | 0, _, _, _, _ => none
  | k + 1, x0, x3, x12, x13 => if x13 < x12 then (impl_PalindromesOf.l1 k x0 x3 x13 (wrap64 (x13 + 1)) x12 x13) else (palO x3)
def impl_PalindromesOf.l1 : Nat → List Int → List (List Int) → Int → Int → Int → Int → Option ((List (List Int)))
  | 0, _, _, _, _, _, _ => none
  | k + 1, x0, x3, x4, x5, x12, x13 => if x5 ≤ (x0.length : Int) then (if 0 ≤ x4 then (if x4 ≤ x5 then ((impl_IsPalindrome.f k ((x0.take (x5 : Int).toNat).drop (x4 : Int).toNat)).bind fun t221 => (if t221 = true then ((some (([] : List Int) : List Int)).bind fun y222 => (if y222.length + ((x0.take (x5 : Int).toNat).drop (x4 : Int).toNat).length < 17592186044416 then (if x3.length < 5864062014805 then (impl_PalindromesOf.l1 k x0 (x3 ++ [(y222 ++ ((x0.take (x5 : Int).toNat).drop (x4 : Int).toNat))]) x4 (wrap64 (x5 + 1)) x12 x13) else (none)) else (none))) else (impl_PalindromesOf.l1 k x0 x3 x4 (wrap64 (x5 + 1)) x12 x13))) else (none)) else (none)) else (impl_PalindromesOf.l0 k x0 x3 x12 (wrap64 (x13 + 1)))
end
def impl_PalindromesOf.f (k : Nat) (l0 : List Int) : Option ((List (List Int))) := (some (([] : List (List Int)) : List (List Int))).bind fun y216 => ((impl_isShort.f k l0 64).bind fun t219 => (if t219 = true then (impl_PalindromesOf.l0 k l0 y216 (l0.length : Int) 0) else (some y216)))
theorem impl_PalindromesOf.mono_l : ∀ k, (∀ y0 y1 y2 y3, LeO (impl_PalindromesOf.l0 k y0 y1 y2 y3) (impl_PalindromesOf.l0 (k + 1) y0 y1 y2 y3)) ∧ (∀ y0 y1 y2 y3 y4 y5, LeO (impl_PalindromesOf.l1 k y0 y1 y2 y3 y4 y5) (impl_PalindromesOf.l1 (k + 1) y0 y1 y2 y3 y4 y5))
  | 0 => ⟨fun _ _ _ _ r h => by simp [impl_PalindromesOf.l0] at h, fun _ _ _ _ _ _ r h => by simp [impl_PalindromesOf.l1] at h⟩
  | k + 1 => by
    obtain ⟨ih0, ih1⟩ := impl_PalindromesOf.mono_l k
    refine ⟨?_, ?_⟩
    · intro y0 y1 y2 y3
      unfold impl_PalindromesOf.l0
      repeat' first
      | (with_reducible exact ih0 _ _ _ _)
      | (with_reducible exact ih1 _ _ _ _ _ _)
      | (with_reducible exact impl_IsPalindrome.mono _ _)
      | (with_reducible exact impl_isShort.mono _ _ _)
      | (with_reducible exact LeO.refl _)
      | (with_reducible exact LeO.none _)
      | (with_reducible refine LeO.ite ?_ ?_)
      | (with_reducible refine LeO.bind ?_ (fun _ => ?_))
      | exact ih0 _ _ _ _
      | exact ih1 _ _ _ _ _ _
      | exact impl_IsPalindrome.mono _ _
      | exact impl_isShort.mono _ _ _
      | exact LeO.none _
      | refine LeO.ite ?_ ?_
      | refine LeO.bind ?_ (fun _ => ?_)
    · intro y0 y1 y2 y3 y4 y5
      unfold impl_PalindromesOf.l1
      repeat' first
      | (with_reducible exact ih0 _ _ _ _)
      | (with_reducible exact ih1 _ _ _ _ _ _)
      | (with_reducible exact impl_IsPalindrome.mono _ _)
      | (with_reducible exact impl_isShort.mono _ _ _)
      | (with_reducible exact LeO.refl _)
      | (with_reducible exact LeO.none _)
      | (with_reducible refine LeO.ite ?_ ?_)
      | (with_reducible refine LeO.bind ?_ (fun _ => ?_))
      | exact ih0 _ _ _ _
      | exact ih1 _ _ _ _ _ _
      | exact impl_IsPalindrome.mono _ _
      | exact impl_isShort.mono _ _ _
      | exact LeO.none _
      | refine LeO.ite ?_ ?_
      | refine LeO.bind ?_ (fun _ => ?_)
theorem impl_PalindromesOf.mono : ∀ a0 k, LeO (impl_PalindromesOf.f k a0) (impl_PalindromesOf.f (k + 1) a0) := by
  intro a0 k
  obtain ⟨ih0, ih1⟩ := impl_PalindromesOf.mono_l k
  unfold impl_PalindromesOf.f
  repeat' first
      | (with_reducible exact ih0 _ _ _ _)
      | (with_reducible exact ih1 _ _ _ _ _ _)
      | (with_reducible exact impl_IsPalindrome.mono _ _)
      | (with_reducible exact impl_isShort.mono _ _ _)
      | (with_reducible exact LeO.refl _)
      | (with_reducible exact LeO.none _)
      | (with_reducible refine LeO.ite ?_ ?_)
      | (with_reducible refine LeO.bind ?_ (fun _ => ?_))
      | exact ih0 _ _ _ _
      | exact ih1 _ _ _ _ _ _
      | exact impl_IsPalindrome.mono _ _
      | exact impl_isShort.mono _ _ _
      | exact LeO.none _
      | refine LeO.ite ?_ ?_
      | refine LeO.bind ?_ (fun _ => ?_)
set_option maxHeartbeats 8000000 in
set_option maxRecDepth 100000 in
theorem impl_PalindromesOf.calls (k : Nat) (A0 : Option Addr) (c0 : Nat) (l0 : List Int) (r : List (List Int)) (w : World) (hr0 : Kd.C (Kd.int .i64) w A0 l0.length l0) (hc0 : l0.length ≤ c0) (h : impl_PalindromesOf.f k l0 = some r) :
    Calls Try.prog 35 #[.slice A0 l0.length c0] w fun e w' => ∃ v0_ : Value, e = .returned (v0_) ∧ Kd.S (Kd.slice 3 (Kd.int .i64)) 22 w' w.heap.size (fun _ => True) v0_ r ∧ Below w.heap.size w w' := by
  have HR0 := Aside0.mk hr0
  have HC0 := Aside0.mk hc0
  clear hr0 hc0
  have HB := Aside0.mk (Below.refl w.heap.size w)
  have H : ((some (([] : List (List Int)) : List (List Int))).bind fun y216 => ((impl_isShort.f k l0 64).bind fun t219 => (if t219 = true then (impl_PalindromesOf.l0 k l0 y216 (l0.length : Int) 0) else (some y216)))) = some r := h
  clear h
  obtain ⟨y216, hy216⟩ : ∃ y_ : List (List Int), y_ = (([] : List (List Int))) := ⟨_, rfl⟩
  replace H : ((impl_isShort.f k l0 64).bind fun t219 => (if t219 = true then (impl_PalindromesOf.l0 k l0 y216 (l0.length : Int) 0) else (some y216))) = some r := by first | (rw [hy216]; with_reducible exact H) | (have H2_ := (Option.bind_some _ _).symm.trans H; rw [hy216]; with_reducible exact H2_) | (have H2_ := (Option.bind_some _ _).symm.trans H; with_reducible exact H2_) | with_reducible exact H | (rw [hy216]; exact H) | exact H
  have Ny216 := Aside0.mk hy216
  clear hy216
  replace H := Option.bind_eq_some_iff.mp H
  obtain ⟨t219, A20, H⟩ := H
  replace H : (if t219 = true then (impl_PalindromesOf.l0 k l0 y216 (l0.length : Int) 0) else (some y216)) = some r := H
  have A2 := Aside0.mk A20
  clear A20
  by_cases c3 : t219 = true
  · subst c3
    have H1 : (impl_PalindromesOf.l0 k l0 y216 (l0.length : Int) 0) = some r := by rw [if_pos rfl] at H; exact H
    clear H
    have H := H1
    clear H1
    have H' := Aside0.mk H
    clear H
    go_enter Try.func35, Try.ntmps35
    go_wp2_with (first | ((with_reducible refine gate_dst (N := 6) rfl ?_); refine Kd.S_lit (Kd.slice 3 (Kd.int .i64)) _ 22 ?hg (N := 6) ?hd (xs := ([] : List (List Int))) (inner := []) (ok := fun _ => True) (okp := fun _ => True) ?hr ?hp (fun _ hk => hk) trivial (Below.refl _ _) (Nat.le_refl _) (by simp) ?_; (case hd => rfl); (case hg => rfl); (case hr => first | (go_simp; done) | (go_simp; rfl)); (case hp => exact (Reps.none _ _)); intro v217 w4 ho5 hb hg_ hnew_; clear hg_ hnew_; (first | rw [← Ny216.out] at ho5 | (simp only [Int.reduceToNat] at ho5; rw [← Ny216.out] at ho5)); have n0_ := Aside0.mk (Kd.S_lower ho5 (below_size (by repeat (first | (with_reducible first | exact HB.out | apply below_alloc | apply pw_below_drewN | apply below_drew1) | exact HB.out)))); have n1_ := Aside0.mk (below_step (by repeat (first | (with_reducible first | exact HB.out | apply below_alloc | apply pw_below_drewN | apply below_drew1) | exact HB.out)) hb); clear HB; have HO218 := n0_; have HB := n1_; clear n0_ n1_; clear hb ho5) | ((with_reducible refine gate_callee (f := 101) rfl ?_); refine goesL_ (some 8) rfl rfl Try.func101 (by kernel_rfl) rfl #[.slice A0 l0.length c0, .int .i64 64] rfl (by (try simp only [List.map_toArray, List.map_cons, List.map_nil]); first | done | rfl | (simp only [List.length_drop, List.length_take]; rfl)) ?_; (with_reducible refine (impl_isShort.calls k _ _ l0 64 true _ ?side1 ?side2 A2.out).mono ?_); (case side1 => repeat (first | exact (Kd.C_below HR0.out HB.out) | (with_reducible refine Kd.C_alloc ?_ _) | (with_reducible refine Kd.C_drewN ?_ _) | (with_reducible refine Kd.C_drew ?_))); (case side2 => exact HC0.out); rintro e w' ⟨rfl, ⟨nd, rfl⟩⟩; refine ⟨_, rfl, ?_⟩))
    go_loopg [3, 13] k (fun kq v3 v13 w' => ∃ (x3_1 : List (List Int)) (x13_1 : Int), v13 = .int .i64 x13_1 ∧ Aside0 (impl_PalindromesOf.l0 kq l0 x3_1 (l0.length : Int) x13_1 = some r) ∧ Aside0 (kq ≤ k) ∧ Aside0 (Kd.S (Kd.slice 3 (Kd.int .i64)) 22 w' w.heap.size (fun _ => True) v3 x3_1) ∧ Aside0 (Below w.heap.size w w'))
    case atStart => exact ⟨(y216), (0), (by first | rfl | (simp; done) | (simp [*]; done)), H', ⟨Nat.le_refl _⟩, ⟨by (with_reducible repeat (first | apply Kd.S_alloc | apply Kd.S_drewN | apply Kd.S_drew)); exact HO218.out⟩, ⟨by repeat (first | (with_reducible first | exact HB.out | apply below_alloc | apply pw_below_drewN | apply below_drew1) | exact HB.out)⟩⟩
    case round =>
      clear H'
      try clear c1
      try clear p2
      try clear c3
      obtain ⟨x3_1, x13_1, rfl, HA, HK1, HO_3, HB⟩ := hrel
      cases gk with
      | zero => exact absurd HA.out (by simp [impl_PalindromesOf.l0])
      | succ k1 =>
        have H := HA.out
        clear HA
        simp only [impl_PalindromesOf.l0] at H
        by_cases c6 : x13_1 < (l0.length : Int)
        · rw [if_pos c6] at H
          have c6b0 : decide (x13_1 < (l0.length : Int)) = true := decide_eq_true c6
          clear c6
          have H' := Aside0.mk H
          clear H
          go_wp2
          go_loopg [3, 5] k1 (fun kq v3 v5 w' => ∃ (x3_2 : List (List Int)) (x5_2 : Int), v5 = .int .i64 x5_2 ∧ Aside0 (impl_PalindromesOf.l1 kq l0 x3_2 x13_1 x5_2 (l0.length : Int) x13_1 = some r) ∧ Aside0 (kq ≤ k1) ∧ Aside0 (Kd.S (Kd.slice 3 (Kd.int .i64)) 22 w' w.heap.size (fun _ => True) v3 x3_2) ∧ Aside0 (Below w.heap.size w w'))
          case atStart => exact ⟨(x3_1), (wrap64 (x13_1 + 1)), (by first | rfl | (simp; done) | (simp [*]; done)), H', ⟨Nat.le_refl _⟩, ⟨by (with_reducible repeat (first | apply Kd.S_alloc | apply Kd.S_drewN | apply Kd.S_drew)); exact HO_3.out⟩, ⟨by repeat (first | (with_reducible first | exact HB.out | apply below_alloc | apply pw_below_drewN | apply below_drew1) | exact HB.out)⟩⟩
          case round =>
            clear H'
            try clear c1
            try clear p2
            try clear c3
            try clear c6
            try clear c6b0
            try clear p6
            try clear p2
            obtain ⟨x3_2, x5_2, rfl, HA, HK2, HO_3, HB⟩ := hrel
            cases gk with
            | zero => exact absurd HA.out (by simp [impl_PalindromesOf.l1])
            | succ k2 =>
              have H := HA.out
              clear HA
              simp only [impl_PalindromesOf.l1] at H
              by_cases c7 : x5_2 ≤ (l0.length : Int)
              · rw [if_pos c7] at H
                have c7b0 : decide (x5_2 ≤ (l0.length : Int)) = true := decide_eq_true c7
                clear c7
                by_cases c8 : 0 ≤ x13_1
                · rw [if_pos c8] at H
                  have c8b0 := eq_true c8
                  have c8b1 : decide (0 ≤ x13_1) = true := decide_eq_true c8
                  clear c8
                  by_cases c9 : x13_1 ≤ x5_2
                  · rw [if_pos c9] at H
                    have c9b0 := eq_true c9
                    have c9b1 : decide (x13_1 ≤ x5_2) = true := decide_eq_true c9
                    clear c9
                    have c10b0 := eq_true (of_decide_eq_true (by first | (with_reducible assumption) | assumption) : x5_2 ≤ (l0.length : Int))
                    replace H := Option.bind_eq_some_iff.mp H
                    obtain ⟨t221, A110, H⟩ := H
                    replace H : (if t221 = true then ((some (([] : List Int) : List Int)).bind fun y222 => (if y222.length + ((l0.take (x5_2 : Int).toNat).drop (x13_1 : Int).toNat).length < 17592186044416 then (if x3_2.length < 5864062014805 then (impl_PalindromesOf.l1 k2 l0 (x3_2 ++ [(y222 ++ ((l0.take (x5_2 : Int).toNat).drop (x13_1 : Int).toNat))]) x13_1 (wrap64 (x5_2 + 1)) (l0.length : Int) x13_1) else (none)) else (none))) else (impl_PalindromesOf.l1 k2 l0 x3_2 x13_1 (wrap64 (x5_2 + 1)) (l0.length : Int) x13_1)) = some r := H
                    have A11 := Aside0.mk A110
                    clear A110
                    by_cases c12 : t221 = true
                    · subst c12
                      have H1 : ((some (([] : List Int) : List Int)).bind fun y222 => (if y222.length + ((l0.take (x5_2 : Int).toNat).drop (x13_1 : Int).toNat).length < 17592186044416 then (if x3_2.length < 5864062014805 then (impl_PalindromesOf.l1 k2 l0 (x3_2 ++ [(y222 ++ ((l0.take (x5_2 : Int).toNat).drop (x13_1 : Int).toNat))]) x13_1 (wrap64 (x5_2 + 1)) (l0.length : Int) x13_1) else (none)) else (none))) = some r := by rw [if_pos rfl] at H; exact H
                      clear H
                      have H := H1
                      clear H1
                      obtain ⟨y222, hy222⟩ : ∃ y_ : List Int, y_ = (([] : List Int)) := ⟨_, rfl⟩
                      replace H : (if y222.length + ((l0.take (x5_2 : Int).toNat).drop (x13_1 : Int).toNat).length < 17592186044416 then (if x3_2.length < 5864062014805 then (impl_PalindromesOf.l1 k2 l0 (x3_2 ++ [(y222 ++ ((l0.take (x5_2 : Int).toNat).drop (x13_1 : Int).toNat))]) x13_1 (wrap64 (x5_2 + 1)) (l0.length : Int) x13_1) else (none)) else (none)) = some r := by first | (rw [hy222]; with_reducible exact H) | (have H2_ := (Option.bind_some _ _).symm.trans H; rw [hy222]; with_reducible exact H2_) | (have H2_ := (Option.bind_some _ _).symm.trans H; with_reducible exact H2_) | with_reducible exact H | (rw [hy222]; exact H) | exact H
                      have Ny222 := Aside0.mk hy222
                      clear hy222
                      have c13b0 := eq_true (of_decide_eq_true (by first | (with_reducible assumption) | assumption) : 0 ≤ x13_1)
                      have c14b0 := eq_true (of_decide_eq_true (by first | (with_reducible assumption) | assumption) : x13_1 ≤ x5_2)
                      have c15b0 := eq_true (of_decide_eq_true (by first | (with_reducible assumption) | assumption) : x5_2 ≤ (l0.length : Int))
                      by_cases c16 : y222.length + ((l0.take (x5_2 : Int).toNat).drop (x13_1 : Int).toNat).length < 17592186044416
                      · rw [if_pos c16] at H
                        have LMc16 := Aside0.mk c16
                        clear c16
                        obtain ⟨y226, hy226⟩ : ∃ y_ : List Int, y_ = (y222 ++ ((l0.take (x5_2 : Int).toNat).drop (x13_1 : Int).toNat)) := ⟨_, rfl⟩
                        replace H : (if x3_2.length < 5864062014805 then (impl_PalindromesOf.l1 k2 l0 (x3_2 ++ [y226]) x13_1 (wrap64 (x5_2 + 1)) (l0.length : Int) x13_1) else (none)) = some r := by first | (rw [hy226]; with_reducible exact H) | (have H2_ := (Option.bind_some _ _).symm.trans H; rw [hy226]; with_reducible exact H2_) | (have H2_ := (Option.bind_some _ _).symm.trans H; with_reducible exact H2_) | with_reducible exact H | (rw [hy226]; exact H) | exact H
                        have Ny226 := Aside0.mk hy226
                        clear hy226
                        by_cases c17 : x3_2.length < 5864062014805
                        · rw [if_pos c17] at H
                          have LMc17 := Aside0.mk c17
                          clear c17
                          obtain ⟨y229, hy229⟩ : ∃ y_ : List (List Int), y_ = (x3_2 ++ [y226]) := ⟨_, rfl⟩
                          replace H : (impl_PalindromesOf.l1 k2 l0 y229 x13_1 (wrap64 (x5_2 + 1)) (l0.length : Int) x13_1) = some r := by first | (rw [hy229]; with_reducible exact H) | (have H2_ := (Option.bind_some _ _).symm.trans H; rw [hy229]; with_reducible exact H2_) | (have H2_ := (Option.bind_some _ _).symm.trans H; with_reducible exact H2_) | with_reducible exact H | (rw [hy229]; exact H) | exact H
                          have Ny229 := Aside0.mk hy229
                          clear hy229
                          have H' := Aside0.mk H
                          clear H
                          obtain ⟨i018, hi018, _, hsz18, _⟩ := info_parts info3
                          obtain ⟨A18, hcut18, hA18, hC18⟩ := print_mid_of (P := Try.prog) (Value.int .i64) 0 22 3 .i64 .i64 Try.underlying22 hi018 hsz18 A0 c0 l0 x13_1 x5_2 (of_decide_eq_true (by first | (with_reducible assumption) | assumption)) (by first | omega | exact of_decide_eq_true (by first | (with_reducible assumption) | assumption)) (of_decide_eq_true (by first | (with_reducible assumption) | assumption)) HC0.out
                          have HR220 := Aside0.mk (Kd.C_of_reads (h1 := fun _ => rfl) (hA18 _ (Kd.reads_of_C HR0.out)))
                          have HC220 := Aside0.mk hC18
                          clear hA18 hC18 hi018 hsz18
                          go_wp2_with (first | ((with_reducible refine gate_callee (f := 113) rfl ?_); refine goesL_ (some 28) rfl rfl Try.func113 (by kernel_rfl) rfl #[.slice A18 ((l0.take (x5_2 : Int).toNat).drop (x13_1 : Int).toNat).length (c0 - x13_1.toNat)] rfl (by (try simp only [List.map_toArray, List.map_cons, List.map_nil]); first | done | (rw [show ((l0.take (x5_2 : Int).toNat).drop (x13_1 : Int).toNat).length = (x5_2.toNat - x13_1.toNat) from (by rw [List.length_drop, List.length_take]; have h_ : (x5_2 : Int) ≤ (l0.length : Int) := of_decide_eq_true (by first | (with_reducible assumption) | assumption); omega)] <;> rfl) | rfl | (simp only [List.length_drop, List.length_take]; rfl)) ?_; (with_reducible refine (impl_IsPalindrome.calls k2 _ _ ((l0.take (x5_2 : Int).toNat).drop (x13_1 : Int).toNat) true _ ?side1 ?side2 A11.out).mono ?_); (case side1 => repeat (first | exact (Kd.C_below HR220.out HB.out) | (with_reducible refine Kd.C_alloc ?_ _) | (with_reducible refine Kd.C_drewN ?_ _) | (with_reducible refine Kd.C_drew ?_))); (case side2 => exact HC220.out); rintro e w' ⟨rfl, ⟨nd, rfl⟩⟩; refine ⟨_, rfl, ?_⟩) | ((with_reducible refine gate_dst (N := 30) rfl ?_); refine Kd.R_lit (Kd.int .i64) _ 3 ?hg (N := 30) ?hd (xs := ([] : List Int)) (inner := []) (ok := fun _ => True) (okp := fun _ => True) ?hr ?hp (fun _ hk => hk) trivial (Below.refl _ _) (Nat.le_refl _) (by simp) ?_; (case hd => rfl); (case hg => rfl); (case hr => first | (go_simp; done) | (go_simp; rfl)); (case hp => exact (Reps.none _ _)); intro v223 w19 ho20 hb hg_ hnew_; clear hg_ hnew_; (first | rw [← Ny222.out] at ho20 | (simp only [Int.reduceToNat] at ho20; rw [← Ny222.out] at ho20)); have n0_ := Aside0.mk (Kd.S_elder' (by (with_reducible repeat (first | apply Kd.S_alloc | apply Kd.S_drewN | apply Kd.S_drew)); exact HO_3.out) (Kd.R_base ho20) hb); have n1_ := Aside0.mk (Kd.R_lower ho20 (below_size (by repeat (first | (with_reducible first | exact HB.out | apply below_alloc | apply pw_below_drewN | apply below_drew1) | exact HB.out)))); have n2_ := Aside0.mk (below_step (by repeat (first | (with_reducible first | exact HB.out | apply below_alloc | apply pw_below_drewN | apply below_drew1) | exact HB.out)) hb); clear HO_3; clear HB; have HO_3 := n0_; have HO224 := n1_; have HB := n2_; clear n0_ n1_ n2_; clear hb ho20) | ((with_reducible refine gate_builtin (b := .append) (xs := #[.tmp 30, .tmp 34]) rfl ?_); at_builtin; refine Kd.R_append_rows (Kd.int .i64) (w0 := w) w.heap.size rfl (.tmp 30) (.tmp 34) 22 3 (.int .i64 0) 8 rfl Try.underlying22 info3 rfl (by decide) (by omega) v223 y222 ((l0.take (x5_2 : Int).toNat).drop (x13_1 : Int).toNat) _ _ _ (fun _ => True) (fun _ => False) rfl rfl ?aO ?aR (fun _ _ h => h) (fun _ h => h.elim) ?aF ?aB ?aS ?aL ?_; (case aR => first | (rw [← show ((l0.take (x5_2 : Int).toNat).drop (x13_1 : Int).toNat).length = (x5_2.toNat - x13_1.toNat) from (by rw [List.length_drop, List.length_take]; have h_ : (x5_2 : Int) ≤ (l0.length : Int) := of_decide_eq_true (by first | (with_reducible assumption) | assumption); omega)]; repeat (first | exact (Kd.C_below HR220.out HB.out) | (with_reducible refine Kd.C_alloc ?_ _) | (with_reducible refine Kd.C_drewN ?_ _) | (with_reducible refine Kd.C_drew ?_))) | (repeat (first | exact (Kd.C_below HR220.out HB.out) | (with_reducible refine Kd.C_alloc ?_ _) | (with_reducible refine Kd.C_drewN ?_ _) | (with_reducible refine Kd.C_drew ?_)))); (case aB => exact (by repeat (first | (with_reducible first | exact HB.out | apply below_alloc | apply pw_below_drewN | apply below_drew1) | exact HB.out))); (case aF => exact (fun _ _ => trivial)); (case aO => exact (by (with_reducible repeat (first | apply Kd.R_alloc | apply Kd.R_drewN | apply Kd.R_drew)); exact HO224.out)); (case aS => exact (below_size (by repeat (first | (with_reducible first | exact HB.out | apply below_alloc | apply pw_below_drewN | apply below_drew1) | exact HB.out)))); (case aL => have := LMc16.out; have hlx_ := (show ((l0.take (x5_2 : Int).toNat).drop (x13_1 : Int).toNat).length = (x5_2.toNat - x13_1.toNat) from (by rw [List.length_drop, List.length_take]; have h_ : (x5_2 : Int) ≤ (l0.length : Int) := of_decide_eq_true (by first | (with_reducible assumption) | assumption); omega)); omega); intro v227 w22 ho hb hg hat; rw [← Ny226.out] at ho; have n0_ := Aside0.mk (Kd.S_after (ok := (fun _ => True)) (by (with_reducible repeat (first | apply Kd.S_alloc | apply Kd.S_drewN | apply Kd.S_drew)); exact HO_3.out) hg hat); have n1_ := Aside0.mk (hb); have n2_ := Aside0.mk (ho); clear HO_3; clear HB; clear HO224; have HO_3 := n0_; have HB := n1_; have HO228 := n2_; clear n0_ n1_ n2_; clear ho hb hg hat; obtain ⟨Ao24, co24, eo24⟩ := Kd.R_slice HO228.out; subst eo24) | ((with_reducible refine gate_builtin (b := .append) (xs := #[.tmp 29, .tmp 36]) rfl ?_); at_builtin; refine Kd.S_append (Kd.slice 3 (Kd.int .i64)) (w0 := w) w.heap.size rfl (.tmp 29) (.tmp 36) 23 22 (.slice none 0 0) 24 rfl Try.underlying23 info22 rfl (by decide) (by omega) u3 x3_2 y226 [.slice Ao24 y226.length co24] (fun _ => True) (fun k_ => some k_ = (.slice Ao24 y226.length co24 : Value).ownBlock) rfl rfl ?aP (fun k_ hk_ => ((Kd.R_mono (ok' := fun k_ => ((fun _ => True)) k_ ∧ some k_ ≠ (u3 : Value).ownBlock) (Kd.R_apart' (HO228.out) (Kd.S_typed HO_3.out) (by decide)) (fun k_ hk => ⟨trivial, hk.2⟩))).1 k_ hk_.symm) ?aF ?aO ?aB ?aS ?aL ?_; (case aP => exact Kd.M_row (Kd.R_mono (Kd.R_tight rfl (Kd.R_mono (ok' := fun k_ => ((fun _ => True)) k_ ∧ some k_ ≠ (u3 : Value).ownBlock) (Kd.R_apart' (HO228.out) (Kd.S_typed HO_3.out) (by decide)) (fun k_ hk => ⟨trivial, hk.2⟩))) (fun _ h_ => h_))); (case aB => exact (by repeat (first | (with_reducible first | exact HB.out | apply below_alloc | apply pw_below_drewN | apply below_drew1) | exact HB.out))); (case aF => exact (fun _ _ => trivial)); (case aO => exact (by (with_reducible repeat (first | apply Kd.S_alloc | apply Kd.S_drewN | apply Kd.S_drew)); exact Kd.S_mono HO_3.out (fun k_ hk => ⟨trivial, fun e_ => hk.2 e_⟩))); (case aS => exact (below_size (by repeat (first | (with_reducible first | exact HB.out | apply below_alloc | apply pw_below_drewN | apply below_drew1) | exact HB.out)))); (case aL => have := LMc17.out; omega); intro v230 w23 ho hb hg hat; rw [← Ny229.out] at ho; have n0_ := Aside0.mk (hb); have n1_ := Aside0.mk (ho); clear HB; clear HO_3; clear HO228; have HB := n0_; have HO231 := n1_; clear n0_ n1_; clear ho hb hg hat))
                          go_roundg k2
                          case measure => have := HK1.out; have := HK2.out; omega
                          case rel => exact ⟨(y229), (wrap64 (x5_2 + 1)), (by first | rfl | (simp; done) | (simp [*]; done)), H', ⟨by have := HK1.out; have := HK2.out; omega⟩, ⟨by (with_reducible repeat (first | apply Kd.S_alloc | apply Kd.S_drewN | apply Kd.S_drew)); exact HO231.out⟩, ⟨by repeat (first | (with_reducible first | exact HB.out | apply below_alloc | apply pw_below_drewN | apply below_drew1) | exact HB.out)⟩⟩
                        · rw [if_neg c17] at H
                          exact absurd H (by simp)
                      · rw [if_neg c16] at H
                        exact absurd H (by simp)
                    · replace c12 := Bool.eq_false_iff.mpr c12
                      subst c12
                      have H1 : (impl_PalindromesOf.l1 k2 l0 x3_2 x13_1 (wrap64 (x5_2 + 1)) (l0.length : Int) x13_1) = some r := by rw [if_neg (show ¬ (false = true) by decide)] at H; exact H
                      clear H
                      have H := H1
                      clear H1
                      have H' := Aside0.mk H
                      clear H
                      obtain ⟨i025, hi025, _, hsz25, _⟩ := info_parts info3
                      obtain ⟨A25, hcut25, hA25, hC25⟩ := print_mid_of (P := Try.prog) (Value.int .i64) 0 22 3 .i64 .i64 Try.underlying22 hi025 hsz25 A0 c0 l0 x13_1 x5_2 (of_decide_eq_true (by first | (with_reducible assumption) | assumption)) (by first | omega | exact of_decide_eq_true (by first | (with_reducible assumption) | assumption)) (of_decide_eq_true (by first | (with_reducible assumption) | assumption)) HC0.out
                      have HR220 := Aside0.mk (Kd.C_of_reads (h1 := fun _ => rfl) (hA25 _ (Kd.reads_of_C HR0.out)))
                      have HC220 := Aside0.mk hC25
                      clear hA25 hC25 hi025 hsz25
                      go_wp2_with (first | ((with_reducible refine gate_callee (f := 113) rfl ?_); refine goesL_ (some 28) rfl rfl Try.func113 (by kernel_rfl) rfl #[.slice A25 ((l0.take (x5_2 : Int).toNat).drop (x13_1 : Int).toNat).length (c0 - x13_1.toNat)] rfl (by (try simp only [List.map_toArray, List.map_cons, List.map_nil]); first | done | (rw [show ((l0.take (x5_2 : Int).toNat).drop (x13_1 : Int).toNat).length = (x5_2.toNat - x13_1.toNat) from (by rw [List.length_drop, List.length_take]; have h_ : (x5_2 : Int) ≤ (l0.length : Int) := of_decide_eq_true (by first | (with_reducible assumption) | assumption); omega)] <;> rfl) | rfl | (simp only [List.length_drop, List.length_take]; rfl)) ?_; (with_reducible refine (impl_IsPalindrome.calls k2 _ _ ((l0.take (x5_2 : Int).toNat).drop (x13_1 : Int).toNat) false _ ?side1 ?side2 A11.out).mono ?_); (case side1 => repeat (first | exact (Kd.C_below HR220.out HB.out) | (with_reducible refine Kd.C_alloc ?_ _) | (with_reducible refine Kd.C_drewN ?_ _) | (with_reducible refine Kd.C_drew ?_))); (case side2 => exact HC220.out); rintro e w' ⟨rfl, ⟨nd, rfl⟩⟩; refine ⟨_, rfl, ?_⟩))
                      go_roundg k2
                      case measure => have := HK1.out; have := HK2.out; omega
                      case rel => exact ⟨(x3_2), (wrap64 (x5_2 + 1)), (by first | rfl | (simp; done) | (simp [*]; done)), H', ⟨by have := HK1.out; have := HK2.out; omega⟩, ⟨by (with_reducible repeat (first | apply Kd.S_alloc | apply Kd.S_drewN | apply Kd.S_drew)); exact HO_3.out⟩, ⟨by repeat (first | (with_reducible first | exact HB.out | apply below_alloc | apply pw_below_drewN | apply below_drew1) | exact HB.out)⟩⟩
                  · rw [if_neg c9] at H
                    exact absurd H (by simp)
                · rw [if_neg c8] at H
                  exact absurd H (by simp)
              · rw [if_neg c7] at H
                have c7b0 : decide (x5_2 ≤ (l0.length : Int)) = false := decide_eq_false c7
                clear c7
                have H' := Aside0.mk H
                clear H
                go_wp2
                go_roundg k2
                case measure => have := HK1.out; have := HK2.out; omega
                case rel => exact ⟨(x3_2), (wrap64 (x13_1 + 1)), (by first | rfl | (simp; done) | (simp [*]; done)), H', ⟨by have := HK1.out; have := HK2.out; omega⟩, ⟨by (with_reducible repeat (first | apply Kd.S_alloc | apply Kd.S_drewN | apply Kd.S_drew)); exact HO_3.out⟩, ⟨by repeat (first | (with_reducible first | exact HB.out | apply below_alloc | apply pw_below_drewN | apply below_drew1) | exact HB.out)⟩⟩
        · rw [if_neg c6] at H
          have c6b0 : decide (x13_1 < (l0.length : Int)) = false := decide_eq_false c6
          clear c6
          have HSO_ := Aside0.mk (show palO x3_1 = some r from H)
          clear H
          obtain ⟨Ao26, co26, eo26⟩ := Kd.S_slice HO_3.out
          subst eo26
          go_wp2_with (first | (go_at_call 114; (with_reducible refine (pal_end _ x3_1 r w _ ?side1 ?side2 HSO_.out).mono ?_); (case side1 => repeat (first | (with_reducible first | exact HB.out | apply below_alloc | apply pw_below_drewN | apply below_drew1) | exact HB.out)); (case side2 => (with_reducible repeat (first | apply Kd.S_alloc | apply Kd.S_drewN | apply Kd.S_drew)); exact HO_3.out); rintro e ws_ ⟨rfl, hcc_⟩; have HCC_ := Aside0.mk hcc_; clear hcc_ HO_3 HB) | (go_at_call 117; refine HCC_.out.mono ?_; rintro e wc_ ⟨Ar_, nr_, cr_, rfl, hy0, hb⟩; have ny_ := Aside0.mk hy0; have nb_ := Aside0.mk hb; have HO_3 := ny_; have HB := nb_; clear ny_ nb_ hy0 hb HCC_))
          go_ret
          exact ⟨_, by first | rfl | (simp [errW_none, errW_some] <;> rfl) | (simp [*, errW_none, errW_some] <;> rfl), by (with_reducible repeat (first | apply Kd.S_alloc | apply Kd.S_drewN | apply Kd.S_drew)); exact HO_3.out, by repeat (first | (with_reducible first | exact HB.out | apply below_alloc | apply pw_below_drewN | apply below_drew1) | exact HB.out)⟩
  · replace c3 := Bool.eq_false_iff.mpr c3
    subst c3
    have H1 : (some y216) = some r := by rw [if_neg (show ¬ (false = true) by decide)] at H; exact H
    clear H
    have H := H1
    clear H1
    obtain rfl := Option.some.inj H
    go_enter Try.func35, Try.ntmps35
    go_wp2_with (first | ((with_reducible refine gate_dst (N := 6) rfl ?_); refine Kd.S_lit (Kd.slice 3 (Kd.int .i64)) _ 22 ?hg (N := 6) ?hd (xs := ([] : List (List Int))) (inner := []) (ok := fun _ => True) (okp := fun _ => True) ?hr ?hp (fun _ hk => hk) trivial (Below.refl _ _) (Nat.le_refl _) (by simp) ?_; (case hd => rfl); (case hg => rfl); (case hr => first | (go_simp; done) | (go_simp; rfl)); (case hp => exact (Reps.none _ _)); intro v217 w27 ho28 hb hg_ hnew_; clear hg_ hnew_; (first | rw [← Ny216.out] at ho28 | (simp only [Int.reduceToNat] at ho28; rw [← Ny216.out] at ho28)); have n0_ := Aside0.mk (Kd.S_lower ho28 (below_size (by repeat (first | (with_reducible first | exact HB.out | apply below_alloc | apply pw_below_drewN | apply below_drew1) | exact HB.out)))); have n1_ := Aside0.mk (below_step (by repeat (first | (with_reducible first | exact HB.out | apply below_alloc | apply pw_below_drewN | apply below_drew1) | exact HB.out)) hb); clear HB; have HO218 := n0_; have HB := n1_; clear n0_ n1_; clear hb ho28) | ((with_reducible refine gate_callee (f := 101) rfl ?_); refine goesL_ (some 8) rfl rfl Try.func101 (by kernel_rfl) rfl #[.slice A0 l0.length c0, .int .i64 64] rfl (by (try simp only [List.map_toArray, List.map_cons, List.map_nil]); first | done | rfl | (simp only [List.length_drop, List.length_take]; rfl)) ?_; (with_reducible refine (impl_isShort.calls k _ _ l0 64 false _ ?side1 ?side2 A2.out).mono ?_); (case side1 => repeat (first | exact (Kd.C_below HR0.out HB.out) | (with_reducible refine Kd.C_alloc ?_ _) | (with_reducible refine Kd.C_drewN ?_ _) | (with_reducible refine Kd.C_drew ?_))); (case side2 => exact HC0.out); rintro e w' ⟨rfl, ⟨nd, rfl⟩⟩; refine ⟨_, rfl, ?_⟩))
    go_ret
    exact ⟨_, by first | rfl | (simp [errW_none, errW_some] <;> rfl) | (simp [*, errW_none, errW_some] <;> rfl), by (with_reducible repeat (first | apply Kd.S_alloc | apply Kd.S_drewN | apply Kd.S_drew)); exact HO218.out, by repeat (first | (with_reducible first | exact HB.out | apply below_alloc | apply pw_below_drewN | apply below_drew1) | exact HB.out)⟩

end Go.Proofs.Ytolikggioekalab.PFnExactPalindromesOf
