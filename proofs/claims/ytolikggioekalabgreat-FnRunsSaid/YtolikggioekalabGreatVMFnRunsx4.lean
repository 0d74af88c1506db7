/- The Go functions that the law FnRuns reaches (part 4): each as a Lean function, and that its code comes to these answers. No condition beyond those written. -/
import Derived.Test.YtolikggioekalabGreatVMFnRunsx3
namespace Go.Proofs.YtolikggioekalabGreat.PFnRuns
open Go.RowKit Go.Proofs.YtolikggioekalabGreatW.PrintWords Go.Proofs.YtolikggioekalabGreatW.PrintLast Go.Proofs.YtolikggioekalabGreatW.PrintMore
attribute [local go_sem] max2_int min2_int max_two min_two max_three min_three max_four min_four
set_option maxHeartbeats 8000000
set_option maxRecDepth 100000
set_option linter.unusedVariables false
set_option linter.unusedSimpArgs false
def spec_AreDigits.l0 : Nat → List Int → Int → Int → Option (Bool)
 | 0, _, _, _ => none
 | k + 1, x0, x1, x5 => if x5 < (x0.length : Int) then (if 0 ≤ x5 then (if (rd x0 x5) < 0 then (some false) else (if (rd x0 x5) ≥ x1 then (some false) else (spec_AreDigits.l0 k x0 x1 (wrap64 (x5 + 1))))) else (none)) else ((spec_l1In.f x1 2 4).bind fun t261 => (if t261 = true then (some (decide ((x0.length : Int) ≤ 16))) else (some false)))
def spec_AreDigits.f (k : Nat) (l0 : List Int) (a1 : Int) : Option (Bool) := spec_AreDigits.l0 k l0 a1 0
theorem spec_AreDigits.calls (k : Nat) (A0 : Option Addr) (c0 : Nat) (l0 : List Int) (a1 : Int) (r : Bool) (w : World) (hr0 : Kd.C (Kd.int .i64) w A0 l0.length l0) (hc0 : l0.length ≤ c0) (h : spec_AreDigits.f k l0 a1 = some r) :
  Calls Tryz.prog 93 #[.slice A0 l0.length c0, .int .i64 a1] w fun e w' => e = .returned (.bool r) ∧ Drawn0 w w' := by
 have HR0 := G.a hr0
 have HC0 := G.a hc0
 clear hr0 hc0
 have H : (spec_AreDigits.l0 k l0 a1 0) = some r := h
 clear h
 have H' := G.a H
 clear H
 go_enter Tryz.func93, Tryz.ntmps93
 go_wp2
 go_loopg [5] k (fun kq v5 w' => ∃ (x5_1 : Int), v5 = .int .i64 x5_1 ∧ Aside0 (spec_AreDigits.l0 kq l0 a1 x5_1 = some r) ∧ Aside0 (kq ≤ k) ∧ Drawn0 w w')
 case atStart => exact ⟨(0), G.tr, H', ⟨Nat.le_refl _⟩, G.dn⟩
 case round =>
  clear H'
  try clear p2
  obtain ⟨x5_1, rfl, HA, HK1, ⟨m1, rfl⟩⟩ := hrel
  cases gk with
  | zero => exact absurd HA.out (by simp [spec_AreDigits.l0])
  | succ k1 =>
   have H := HA.out
   clear HA
   simp only [spec_AreDigits.l0] at H
   by_cases c3 : x5_1 < (l0.length : Int)
   ·rw [if_pos c3] at H
    have c3b0 : decide (x5_1 < (l0.length : Int)) = true := decide_eq_true c3
    clear c3
    by_cases c4 : 0 ≤ x5_1
    ·rw [if_pos c4] at H
     have c4b0 : decide (0 ≤ x5_1) = true := decide_eq_true c4
     clear c4
     by_cases c5 : (rd l0 x5_1) < 0
     ·rw [if_pos c5] at H
      have c5b0 : decide ((rd l0 x5_1) < 0) = true := decide_eq_true c5
      clear c5
      obtain rfl := Option.some.inj H
      have p259 : 0 ≤ (x5_1 : Int) := G.odt
      have q259 : x5_1 < (l0.length : Int) := G.odt
      obtain ⟨ad259, e259, hx259_0⟩ := Kd.at_int HR0.out x5_1 p259 q259
      cases e259
      replace p259 := eq_true p259
      replace q259 := eq_true q259
      go_wp2
      go_ret
      exact ⟨G.tr, G.dn⟩
     ·rw [if_neg c5] at H
      have c5b0 : decide ((rd l0 x5_1) < 0) = false := decide_eq_false c5
      clear c5
      by_cases c6 : (rd l0 x5_1) ≥ a1
      ·rw [if_pos c6] at H
       have c6b0 : decide (a1 ≤ (rd l0 x5_1)) = true := decide_eq_true c6
       clear c6
       obtain rfl := Option.some.inj H
       have p259 : 0 ≤ (x5_1 : Int) := G.odt
       have q259 : x5_1 < (l0.length : Int) := G.odt
       obtain ⟨ad259, e259, hx259_0⟩ := Kd.at_int HR0.out x5_1 p259 q259
       cases e259
       replace p259 := eq_true p259
       replace q259 := eq_true q259
       have p260 : 0 ≤ (x5_1 : Int) := G.odt
       have q260 : x5_1 < (l0.length : Int) := G.odt
       obtain ⟨ad260, e260, hx260_0⟩ := Kd.at_int HR0.out x5_1 p260 q260
       obtain rfl : ad259 = ad260 := (by injection e260)
       replace p260 := eq_true p260
       replace q260 := eq_true q260
       go_wp2
       go_ret
       exact ⟨G.tr, G.dn⟩
      ·rw [if_neg c6] at H
       have c6b0 : decide (a1 ≤ (rd l0 x5_1)) = false := decide_eq_false c6
       clear c6
       have H' := G.a H
       clear H
       have p259 : 0 ≤ (x5_1 : Int) := G.odt
       have q259 : x5_1 < (l0.length : Int) := G.odt
       obtain ⟨ad259, e259, hx259_0⟩ := Kd.at_int HR0.out x5_1 p259 q259
       cases e259
       replace p259 := eq_true p259
       replace q259 := eq_true q259
       have p260 : 0 ≤ (x5_1 : Int) := G.odt
       have q260 : x5_1 < (l0.length : Int) := G.odt
       obtain ⟨ad260, e260, hx260_0⟩ := Kd.at_int HR0.out x5_1 p260 q260
       obtain rfl : ad259 = ad260 := (by injection e260)
       replace p260 := eq_true p260
       replace q260 := eq_true q260
       go_wp2
       go_roundg k1
       case measure => have := HK1.out; omega
       case rel => exact ⟨(wrap64 (x5_1 + 1)), G.tr, H', ⟨by have := HK1.out; omega⟩, G.dn⟩
    ·rw [if_neg c4] at H
     exact absurd H (by simp)
   ·rw [if_neg c3] at H
    have c3b0 : decide (x5_1 < (l0.length : Int)) = false := decide_eq_false c3
    clear c3
    obtain ⟨t261, A7, H⟩ := G.bx H
    by_cases c8 : t261 = true
    ·subst c8
     rw [if_pos rfl] at H
     obtain rfl := Option.some.inj H
     go_wp2_with (first | ((with_reducible refine gate_callee (f := 75) rfl ?_); refine goesL_ (some 26) rfl rfl Tryz.func75 (by kernel_rfl) rfl #[.int .i64 a1, .int .i64 2, .int .i64 4] rfl G.ar ?_; (with_reducible refine (spec_l1In.calls a1 2 4 true _ A7.out).mono ?_); rintro e w' ⟨rfl, ⟨nd, rfl⟩⟩; refine ⟨_, rfl, ?_⟩))
     go_ret
     exact ⟨G.tr, G.dn⟩
    ·replace c8 := Bool.eq_false_iff.mpr c8
     subst c8
     rw [if_neg (show ¬ (false = true) by decide)] at H
     obtain rfl := Option.some.inj H
     go_wp2_with (first | ((with_reducible refine gate_callee (f := 75) rfl ?_); refine goesL_ (some 26) rfl rfl Tryz.func75 (by kernel_rfl) rfl #[.int .i64 a1, .int .i64 2, .int .i64 4] rfl G.ar ?_; (with_reducible refine (spec_l1In.calls a1 2 4 false _ A7.out).mono ?_); rintro e w' ⟨rfl, ⟨nd, rfl⟩⟩; refine ⟨_, rfl, ?_⟩))
     go_ret
     exact ⟨G.tr, G.dn⟩
section
open Go.Proofs.YtolikggioekalabGreat.G
theorem spec_StateAfter.any (b : Int) (A1 : Option Addr) (c1 : Nat) (rows : List (List Int)) (A2 : Option Addr) (c2 : Nat) (out : List Int) (A3 : Option Addr) (c3 : Nat) (d : List Int) (k : Nat) (w : World)
  (hr1 : Kd.C (Kd.slice 3 (Kd.int .i64)) w A1 rows.length rows) (hr2 : Kd.C (Kd.int .i64) w A2 out.length out) (hW : SeqW b rows out)
  (hr3 : Kd.C (Kd.int .i64) w A3 d.length d) (hc3 : d.length ≤ c3) (hd : ∀ x ∈ d, 0 ≤ x ∧ x < b) (hl : d.length ≤ 16) (hA : spec_AreDigits.f k d b = some true) :
  Calls Tryz.prog 87 #[.agg #[.int .i64 b, .slice A1 rows.length c1, .slice A2 out.length c2], .slice A3 d.length c3] w fun e w' => e = .returned (.int .i64 (stA rows d)) ∧ Below w.heap.size w w' := by
 have huSq := Tryz.underlying68
 have HR1 := G.a hr1
 have HR2 := G.a hr2
 have HR3 := G.a hr3
 have HW := G.a hW
 have HD := G.a hd
 have HA := G.a hA
 have HL := G.a hl
 have HC3 := G.a hc3
 clear hr1 hr2 hW hr3 hd hA hl hc3
 go_enter Tryz.func87, Tryz.ntmps87
 go_upto_region 1 with (first | ((with_reducible refine gate_dst (N := 2) rfl ?_); refine box_event ?hg (N := 2) ?hd (cs := #[.int .i64 b, .slice A1 rows.length c1, .slice A2 out.length c2]) (t := 68) ?hr ?_; (case hd => rfl); (case hg => rfl); (case hr => first | (go_simp; done) | (go_simp; rfl)); intro gb hg w2 hbox hb; have BX := G.a (box3 hbox); have H0 := G.a hb; clear hg hbox hb))
 have HB := G.a (Below.refl w2.heap.size w2)
 obtain ⟨z0, z1, z2, y0, y1, y2⟩ := BX.out _ HB.out
 go_wp2_with (first | (go_at_call 72; refine (spec_IsSequence.any _ _ _ _ _ _ _ _ (Kd.C_below HR1.out (below_step H0.out bel)) (Kd.C_below HR2.out (below_step H0.out bel)) HW.out).mono ?_; rintro e w3 ⟨rfl, hb⟩; have n_ := G.a (below_step HB.out hb); clear HB hb; have HB := n_; clear n_; obtain ⟨z0, z1, z2, y0, y1, y2⟩ := BX.out _ HB.out) | (go_at_call 93; refine (spec_AreDigits.calls k _ _ d b true _ (Kd.C_below HR3.out (below_step H0.out bel)) HC3.out HA.out).mono ?_; rintro e w' ⟨rfl, ⟨nd, rfl⟩⟩))
 clear z0 z1 z2 y0 y1 y2
 go_loopg [5, 6] d.length (fun kq v5 v6 w' => ∃ s y : Int, v5 = .int .i64 s ∧ v6 = .int .i64 y ∧ Aside0 (0 ≤ y ∧ y ≤ (d.length : Int) ∧ (d.length : Int) ≤ y + kq) ∧ Aside0 (s = stA rows (d.take y.toNat)) ∧ Aside0 (Below w2.heap.size w2 w'))
 case atStart => exact ⟨0, 0, rfl, rfl, ⟨by omega⟩, ⟨rfl⟩, ⟨bel⟩⟩
 case round =>
  clear HB
  obtain ⟨s, y, rfl, rfl, HY, HS, HB⟩ := hrel
  obtain ⟨z0, z1, z2, y0, y1, y2⟩ := BX.out _ HB.out
  by_cases c : y < (d.length : Int)
  ·have cb : decide (y < (d.length : Int)) = true := decide_eq_true c
   have hs := HW.out.stA (mem_take_of HD.out y.toNat)
   rw [← HS.out] at hs
   have hdy := HD.out (rd d y) (mem_getD (by have := HY.out; omega))
   have hlen : ((rd_L2 rows s).length : Int) = b := HW.out.len hs.1 hs.2
   obtain ⟨ad, Ar, cr, e1, hx1, _, hi1⟩ := at_L2 HR1.out s hs.1 hs.2
   cases e1
   obtain ⟨ad2, e2, hx2⟩ := Kd.at_int HR3.out y HY.out.1 c
   cases e2
   obtain ⟨ad3, e3, hx3⟩ := Kd.at_int hi1 (rd d y) hdy.1 (by omega)
   cases e3
   replace hx1 := pw_cell_below (below_step H0.out HB.out) hx1
   replace hx2 := pw_cell_below (below_step H0.out HB.out) hx2
   replace hx3 := pw_cell_below (below_step H0.out HB.out) hx3
   have HC := G.a c
   have p1 := eq_true hs.1
   have q1 := eq_true hs.2
   have p2 := eq_true HY.out.1
   have q2 := eq_true HC.out
   have p3 := eq_true hdy.1
   have q3 := eq_true (show rd d y < ((rd_L2 rows s).length : Int) by omega)
   clear c hs hdy hlen hi1
   go_wp2
   repeat (go_quiet (fail); try go_wp2)
   go_roundg (gk - 1)
   case measure => have := HY.out; have := HC.out; omega
   case rel =>
    refine ⟨rd (rd_L2 rows s) (rd d y), wrap64 (y + 1), rfl, rfl, ?_, ?_, ⟨bel⟩⟩
    ·constructor
     have := HY.out; have := HC.out; have := HL.out
     rw [wsx (n := 1099511627776) (by omega) (by omega) (by omega)]; omega
    ·constructor
     have := HY.out; have := HC.out; have := HL.out
     rw [wsx (n := 1099511627776) (by omega) (by omega) (by omega), stA_take rows d (by omega) HC.out, ← HS.out]
     rfl
  ·have cb : decide (y < (d.length : Int)) = false := decide_eq_false c
   have e : s = stA rows d := by
    have := HY.out
    rw [HS.out, List.take_of_length_le (by omega)]
   have E := G.a e
   clear c e
   go_wp2
   go_ret
   exact ⟨by rw [E.out]; rfl, below_step H0.out bel⟩
end
mutual
def spec_DigitsOf.j0 : Nat → Int → Int → List Int → Bool → Option (List Int)
 | 0, _, _, _, _ => none
 | k + 1, x0, x1, x5, x19 => if x19 = true then (some x5) else (spec_DigitsOf.l0 k x0 x1 x5)
def spec_DigitsOf.l0 : Nat → Int → Int → List Int → Option (List Int)
 | 0, _, _, _ => none
 | k + 1, x0, x1, x5 => if x0 > 0 then (if x1 = 0 then (none) else ((some (([Int.tmod x0 x1] : List Int) : List Int)).bind fun y273 => (if y273.length + x5.length < 17592186044416 then (spec_DigitsOf.l0 k (wrap64 (Int.tdiv x0 x1)) x1 (y273 ++ x5)) else (none)))) else (some x5)
end
def spec_DigitsOf.f (k : Nat) (a0 : Int) (a1 : Int) : Option (List Int) := (some (([] : List Int) : List Int)).bind fun y268 => (if a0 < 0 then (spec_DigitsOf.j0 k a0 a1 y268 true) else ((spec_l1In.f a1 2 4).bind fun t271 => (if t271 = true then ((spec_PowerOf.f k a1 16).bind fun t272 => (spec_DigitsOf.j0 k a0 a1 y268 (decide (a0 ≥ t272)))) else (spec_DigitsOf.j0 k a0 a1 y268 true))))
theorem spec_DigitsOf.calls (k : Nat) (a0 : Int) (a1 : Int) (r : List Int) (w : World) (h : spec_DigitsOf.f k a0 a1 = some r) :
  Calls Tryz.prog 88 #[.int .i64 a0, .int .i64 a1] w fun e w' => ∃ v0_ : Value, e = .returned (v0_) ∧ Kd.R (Kd.int .i64) 3 w' w.heap.size (fun _ => True) v0_ r ∧ Below w.heap.size w w' := by
 have HB := G.a (Below.refl w.heap.size w)
 have H : ((some (([] : List Int) : List Int)).bind fun y268 => (if a0 < 0 then (spec_DigitsOf.j0 k a0 a1 y268 true) else ((spec_l1In.f a1 2 4).bind fun t271 => (if t271 = true then ((spec_PowerOf.f k a1 16).bind fun t272 => (spec_DigitsOf.j0 k a0 a1 y268 (decide (a0 ≥ t272)))) else (spec_DigitsOf.j0 k a0 a1 y268 true))))) = some r := h
 clear h
 obtain ⟨y268, hy268⟩ : ∃ y_ : List Int, y_ = (([] : List Int)) := ⟨_, rfl⟩
 replace H : (if a0 < 0 then (spec_DigitsOf.j0 k a0 a1 y268 true) else ((spec_l1In.f a1 2 4).bind fun t271 => (if t271 = true then ((spec_PowerOf.f k a1 16).bind fun t272 => (spec_DigitsOf.j0 k a0 a1 y268 (decide (a0 ≥ t272)))) else (spec_DigitsOf.j0 k a0 a1 y268 true)))) = some r := by first | (rw [hy268]; with_reducible exact H) | (have H2_ := (Option.bind_some _ _).symm.trans H; rw [hy268]; with_reducible exact H2_) | (have H2_ := (Option.bind_some _ _).symm.trans H; with_reducible exact H2_) | with_reducible exact H | (rw [hy268]; exact H) | exact H
 have Ny268 := G.a hy268
 clear hy268
 have HC3 := G.a H
 clear H
 go_enter Tryz.func88, Tryz.ntmps88
 go_upto_region 2 with (first | ((with_reducible refine gate_dst (N := 6) rfl ?_); refine Kd.R_lit (Kd.int .i64) _ 3 ?hg (N := 6) ?hd (xs := ([] : List Int)) (inner := []) (ok := fun _ => True) (okp := fun _ => True) ?hr ?hp (fun _ hk => hk) trivial (Below.refl _ _) (Nat.le_refl _) (by simp) ?_; (case hd => rfl); (case hg => rfl); (case hr => first | (go_simp; done) | (go_simp; rfl)); (case hp => exact (Reps.none _ _)); intro v269 w4 ho5 hb hg_ hnew_; clear hg_ hnew_; (first | rw [← Ny268.out] at ho5 | (simp only [Int.reduceToNat] at ho5; rw [← Ny268.out] at ho5)); have n0_ := G.a (Kd.R_lower ho5 (below_size G.bel)); have n1_ := G.a (below_step G.bel hb); clear HB; have HO270 := n0_; have HB := n1_; clear n0_ n1_; clear hb ho5))
 (try simp only [Act.put, List.setIfInBounds_toArray, List.set_cons_zero, List.set_cons_succ])
 go_cut [19] (fun v19 wc => ∃ (kq : Nat) (x19_2 : Bool), v19 = .bool x19_2 ∧ Aside0 (spec_DigitsOf.j0 kq a0 a1 y268 x19_2 = some r) ∧ Aside0 (kq ≤ k) ∧ Aside0 (Kd.R (Kd.int .i64) 3 wc w.heap.size (fun _ => True) v269 y268) ∧ Aside0 (Below w.heap.size w wc))
 case first =>
  have H := HC3.out
  clear HC3
  by_cases c6 : a0 < 0
  ·rw [if_pos c6] at H
   have c6b0 : decide (a0 < 0) = true := decide_eq_true c6
   clear c6
   (first | rw [c6b0] | (simp only [i64_w, i32_w]; rw [c6b0]) | skip)
   have H' := G.a H
   clear H
   go_wp2
   go_meet
   case rel => exact ⟨_, (true), G.tr, H', ⟨by first | omega | exact Nat.le_refl _⟩, ⟨G.kR HO270.out⟩, ⟨G.bel⟩⟩
  ·rw [if_neg c6] at H
   have c6b0 : decide (a0 < 0) = false := decide_eq_false c6
   clear c6
   (first | rw [c6b0] | (simp only [i64_w, i32_w]; rw [c6b0]) | skip)
   obtain ⟨t271, A7, H⟩ := G.bx H
   by_cases c8 : t271 = true
   ·subst c8
    rw [if_pos rfl] at H
    obtain ⟨t272, A9, H⟩ := G.bx H
    have H' := G.a H
    clear H
    go_wp2_with (first | (go_at_call 75; (with_reducible refine (spec_l1In.calls a1 2 4 true _ A7.out).mono ?_); rintro e w' ⟨rfl, ⟨nd, rfl⟩⟩) | (go_at_call 86; (with_reducible refine (spec_PowerOf.calls k a1 16 t272 _ A9.out).mono ?_); rintro e w' ⟨rfl, ⟨nd, rfl⟩⟩))
    go_meet
    case rel => exact ⟨_, (decide (a0 ≥ t272)), G.tr, H', ⟨by first | omega | exact Nat.le_refl _⟩, ⟨G.kR HO270.out⟩, ⟨G.bel⟩⟩
   ·replace c8 := Bool.eq_false_iff.mpr c8
    subst c8
    rw [if_neg (show ¬ (false = true) by decide)] at H
    have H' := G.a H
    clear H
    go_wp2_with (first | (go_at_call 75; (with_reducible refine (spec_l1In.calls a1 2 4 false _ A7.out).mono ?_); rintro e w' ⟨rfl, ⟨nd, rfl⟩⟩))
    go_meet
    case rel => exact ⟨_, (true), G.tr, H', ⟨by first | omega | exact Nat.le_refl _⟩, ⟨G.kR HO270.out⟩, ⟨G.bel⟩⟩
 case rest =>
  clear HC3
  try clear p2; try clear c6; try clear c6b0; try clear c8
  obtain ⟨kq, x19_2, rfl, HA, HJ2, HO_5, HB⟩ := hcut
  cases kq with
  | zero => exact absurd HA.out (by simp [spec_DigitsOf.j0])
  | succ kj2 =>
   have H := HA.out
   clear HA
   simp only [spec_DigitsOf.j0] at H
   by_cases c10 : x19_2 = true
   ·subst c10
    rw [if_pos rfl] at H
    obtain rfl := Option.some.inj H
    go_wp2
    go_ret
    exact ⟨_, G.er, G.kR HO_5.out, G.bel⟩
   ·replace c10 := Bool.eq_false_iff.mpr c10
    subst c10
    rw [if_neg (show ¬ (false = true) by decide)] at H
    have H' := G.a H
    clear H
    go_wp2
    go_loopg [0, 5] kj2 (fun kq v0 v5 w' => ∃ (x0_2 : Int) (x5_2 : List Int), v0 = .int .i64 x0_2 ∧ Aside0 (spec_DigitsOf.l0 kq x0_2 a1 x5_2 = some r) ∧ Aside0 (kq ≤ kj2) ∧ Aside0 (Kd.R (Kd.int .i64) 3 w' w.heap.size (fun _ => True) v5 x5_2) ∧ Aside0 (Below w.heap.size w w'))
    case atStart => exact ⟨(a0), (y268), G.tr, H', ⟨Nat.le_refl _⟩, ⟨G.kR HO_5.out⟩, ⟨G.bel⟩⟩
    case round =>
     clear H'
     try clear c1; try clear p2; try clear c6; try clear c6b0; try clear c8; try clear c10; try clear p2
     obtain ⟨x0_2, x5_2, rfl, HA, HK2, HO_5, HB⟩ := hrel
     cases gk with
     | zero => exact absurd HA.out (by simp [spec_DigitsOf.l0])
     | succ k2 =>
      have H := HA.out
      clear HA
      simp only [spec_DigitsOf.l0] at H
      by_cases c11 : x0_2 > 0
      ·rw [if_pos c11] at H
       have c11b0 : decide (0 < x0_2) = true := decide_eq_true c11
       clear c11
       by_cases c12 : a1 = 0
       ·rw [if_pos c12] at H
        exact absurd H (by simp)
       ·rw [if_neg c12] at H
        have c12b0 : (a1 == 0) = false := beq_eq_false_iff_ne.mpr c12
        have c12b1 : (a1 != 0) = true := bne_iff_ne.mpr c12
        obtain ⟨y273, hy273⟩ : ∃ y_ : List Int, y_ = (([Int.tmod x0_2 a1] : List Int)) := ⟨_, rfl⟩
        replace H : (if y273.length + x5_2.length < 17592186044416 then (spec_DigitsOf.l0 k2 (wrap64 (Int.tdiv x0_2 a1)) a1 (y273 ++ x5_2)) else (none)) = some r := by first | (rw [hy273]; with_reducible exact H) | (have H2_ := (Option.bind_some _ _).symm.trans H; rw [hy273]; with_reducible exact H2_) | (have H2_ := (Option.bind_some _ _).symm.trans H; with_reducible exact H2_) | with_reducible exact H | (rw [hy273]; exact H) | exact H
        have Ny273 := G.a hy273
        clear hy273
        by_cases c13 : y273.length + x5_2.length < 17592186044416
        ·rw [if_pos c13] at H
         have LMc13 := G.a c13
         clear c13
         obtain ⟨y276, hy276⟩ : ∃ y_ : List Int, y_ = (y273 ++ x5_2) := ⟨_, rfl⟩
         replace H : (spec_DigitsOf.l0 k2 (wrap64 (Int.tdiv x0_2 a1)) a1 y276) = some r := by first | (rw [hy276]; with_reducible exact H) | (have H2_ := (Option.bind_some _ _).symm.trans H; rw [hy276]; with_reducible exact H2_) | (have H2_ := (Option.bind_some _ _).symm.trans H; with_reducible exact H2_) | with_reducible exact H | (rw [hy276]; exact H) | exact H
         have Ny276 := G.a hy276
         clear hy276
         have H' := G.a H
         clear H
         go_wp2_with (first | ((with_reducible refine gate_dst (N := 26) rfl ?_); refine Kd.R_lit (Kd.int .i64) _ 3 ?hg (N := 26) ?hd (xs := ([Int.tmod x0_2 a1] : List Int)) (inner := [.int .i64 (Int.tmod x0_2 a1)]) (ok := fun _ => True) (okp := fun _ => True) ?hr ?hp (fun _ hk => hk) trivial (Below.refl _ _) (Nat.le_refl _) (by simp) ?_; (case hd => rfl); (case hg => rfl); (case hr => first | (go_simp; done) | (go_simp; rfl)); (case hp => exact (Reps.one (show Kd.M (Kd.int .i64) _ _ _ (Int.tmod x0_2 a1) [.int .i64 (Int.tmod x0_2 a1)] from rfl) (Reps.none _ _))); intro v274 w14 ho15 hb hg_ hnew_; clear hg_ hnew_; (first | rw [← Ny273.out] at ho15 | (simp only [Int.reduceToNat] at ho15; rw [← Ny273.out] at ho15)); have n0_ := G.a (Kd.R_elder' (G.kR HO_5.out) (Kd.R_base ho15) hb); have n1_ := G.a (Kd.R_lower (Kd.R_new' ho15 (Kd.R_lt (G.kR HO_5.out))) (below_size G.bel)); have n2_ := G.a (below_step G.bel hb); clear HO_5; clear HB; have HO_5 := n0_; have HO275 := n1_; have HB := n2_; clear n0_ n1_ n2_; clear hb ho15; obtain ⟨Ao17, co17, eo17⟩ := Kd.R_slice HO_5.out; subst eo17) | ((with_reducible refine gate_builtin (b := .append) (xs := #[.tmp 26, .tmp 27]) rfl ?_); at_builtin; refine Kd.R_append_rows (Kd.int .i64) (w0 := w) w.heap.size rfl (.tmp 26) (.tmp 27) 24 3 (.int .i64 0) 8 rfl Tryz.underlying24 info3 rfl (by decide) (by omega) v274 y273 x5_2 _ _ _ (fun k_ => some k_ ≠ (.slice Ao17 x5_2.length co17 : Value).ownBlock) (fun _ => False) rfl rfl ?aO ?aR (fun _ _ h => h) (fun _ h => h.elim) ?aF ?aB ?aS ?aL ?_; (case aR => repeat (first | exact (Kd.R_reads' HO_5.out).2.2 | (with_reducible refine Kd.C_alloc ?_ _) | (with_reducible refine Kd.C_drewN ?_ _) | (with_reducible refine Kd.C_drew ?_))); (case aB => exact G.bel); (case aF => exact (fun k_ hk => Kd.fresh' (Kd.R_lt (G.kR HO_5.out)) k_ hk)); (case aO => exact (by (with_reducible repeat (first | apply Kd.R_alloc | apply Kd.R_drewN | apply Kd.R_drew)); exact Kd.R_mono HO275.out (fun _ hk => hk.2))); (case aS => exact (below_size G.bel)); (case aL => have := LMc13.out; omega); intro v277 w16 ho hb hg hat; rw [← Ny276.out] at ho; have n0_ := G.a (Kd.R_after (ok := (fun _ => True)) (G.kR HO_5.out) hg hat); have n1_ := G.a (hb); have n2_ := G.a (ho); clear HO_5; clear HB; clear HO275; have HO_5 := n0_; have HB := n1_; have HO278 := n2_; clear n0_ n1_ n2_; clear ho hb hg hat))
         go_roundg k2
         case measure => have := HJ2.out; have := HK2.out; omega
         case rel => exact ⟨(wrap64 (Int.tdiv x0_2 a1)), (y276), G.tr, H', ⟨by have := HJ2.out; have := HK2.out; omega⟩, ⟨by (with_reducible repeat (first | apply Kd.R_alloc | apply Kd.R_drewN | apply Kd.R_drew)); exact Kd.R_mono HO278.out (fun _ hk => trivial)⟩, ⟨G.bel⟩⟩
        ·rw [if_neg c13] at H
         exact absurd H (by simp)
      ·rw [if_neg c11] at H
       have c11b0 : decide (0 < x0_2) = false := decide_eq_false c11
       clear c11
       obtain rfl := Option.some.inj H
       go_wp2
       go_ret
       exact ⟨_, G.er, G.kR HO_5.out, G.bel⟩
end Go.Proofs.YtolikggioekalabGreat.PFnRuns
