/- The Go functions that the law FnRuns reaches (part 3): each as a Lean function, and that its code comes to these answers. No condition beyond those written. -/
import Derived.Test.YtolikggioekalabGreatVMFnRunsx2
namespace Go.Proofs.YtolikggioekalabGreat.PFnRuns
open Go.RowKit Go.Proofs.YtolikggioekalabGreatW.PrintWords Go.Proofs.YtolikggioekalabGreatW.PrintLast Go.Proofs.YtolikggioekalabGreatW.PrintMore
attribute [local go_sem] max2_int min2_int max_two min_two max_three min_three max_four min_four
set_option maxHeartbeats 8000000
set_option maxRecDepth 100000
set_option linter.unusedVariables false
set_option linter.unusedSimpArgs false
section
open Go.Proofs.YtolikggioekalabGreat.G
theorem l1In_yes {x a b : Int} (h1 : a ≤ x) (h2 : x ≤ b) : spec_l1In.f x a b = some true := by
 unfold spec_l1In.f
 rw [if_pos (by omega)]
 simp [h2]
theorem spec_IsSequence.any (b : Int) (A1 : Option Addr) (c1 : Nat) (rows : List (List Int)) (A2 : Option Addr) (c2 : Nat) (out : List Int) (w : World)
  (hr1 : Kd.C (Kd.slice 3 (Kd.int .i64)) w A1 rows.length rows) (hr2 : Kd.C (Kd.int .i64) w A2 out.length out) (hW : SeqW b rows out) :
  Calls Tryz.prog 72 #[.agg #[.int .i64 b, .slice A1 rows.length c1, .slice A2 out.length c2]] w fun e w' => e = .returned (.bool true) ∧ Below w.heap.size w w' := by
 have huSq := Tryz.underlying68
 have HR1 := G.a hr1
 have HR2 := G.a hr2
 have HW := G.a hW
 clear hr1 hr2 hW
 go_enter Tryz.func72, Tryz.ntmps72
 go_wp2_with (first | ((with_reducible refine gate_dst (N := 1) rfl ?_); refine box_event ?hg (N := 1) ?hd (cs := #[.int .i64 b, .slice A1 rows.length c1, .slice A2 out.length c2]) (t := 68) ?hr ?_; (case hd => rfl); (case hg => rfl); (case hr => first | (go_simp; done) | (go_simp; rfl)); intro gb hg w2 hbox hb; have BX := G.a (box3 hbox); have H0 := G.a hb; clear hg hbox hb))
 have HB := G.a (Below.refl w2.heap.size w2)
 go_loopg [3] rows.length (fun kq v3 w' => ∃ x : Int, v3 = .int .i64 x ∧ Aside0 (0 ≤ x ∧ (rows.length : Int) ≤ x + kq) ∧ Aside0 (Below w2.heap.size w2 w'))
 case atStart => exact ⟨0, rfl, ⟨by omega⟩, ⟨bel⟩⟩
 case round =>
  clear HB
  obtain ⟨x, rfl, HX, HB⟩ := hrel
  obtain ⟨z0, z1, z2, y0, y1, y2⟩ := BX.out _ HB.out
  by_cases c : x < (rows.length : Int)
  ·have cb : decide (x < (rows.length : Int)) = true := decide_eq_true c
   obtain ⟨ad, Ar, cr, e1, hx1, _, _⟩ := at_L2 HR1.out x HX.out.1 c
   cases e1
   replace hx1 := pw_cell_below (below_step H0.out HB.out) hx1
   have HC := G.a c
   clear c
   obtain ⟨k1, rfl⟩ : ∃ k1, gk = k1 + 1 := ⟨gk - 1, by have := HX.out; have := HC.out; omega⟩
   have p1 := eq_true HX.out.1
   have q1 := eq_true HC.out
   have hl : (((rd_L2 rows x).length : Int) != b) = false := bne_eq_false_iff_eq.mpr (HW.out.len HX.out.1 HC.out)
   go_wp2
   repeat (go_quiet (fail); try go_wp2)
   clear z0 z1 z2 y0 y1 y2 cb hx1 p1 q1 hl
   go_loopg [4] (rd_L2 rows x).length (fun kq v4 w' => ∃ y : Int, v4 = .int .i64 y ∧ Aside0 (0 ≤ y ∧ ((rd_L2 rows x).length : Int) ≤ y + kq) ∧ Aside0 (Below w2.heap.size w2 w'))
   case atStart => exact ⟨0, rfl, ⟨by omega⟩, ⟨bel⟩⟩
   case round =>
    clear HB
    obtain ⟨y, rfl, HY, HB⟩ := hrel
    obtain ⟨z0, z1, z2, y0, y1, y2⟩ := BX.out _ HB.out
    obtain ⟨ad2, Ar2, cr2, e1, hx1, _, hi1⟩ := at_L2 HR1.out x HX.out.1 HC.out
    cases e1
    replace hx1 := pw_cell_below (below_step H0.out HB.out) hx1
    have p1 := eq_true HX.out.1
    have q1 := eq_true HC.out
    by_cases c : y < ((rd_L2 rows x).length : Int)
    ·obtain ⟨ad3, e3, hx3⟩ := Kd.at_int hi1 y HY.out.1 c
     cases e3
     replace hx3 := pw_cell_below (below_step H0.out HB.out) hx3
     have cb : decide (y < ((rd_L2 rows x).length : Int)) = true := decide_eq_true c
     have hv := HW.out.at_ HX.out.1 HC.out HY.out.1 (by have := HW.out.len HX.out.1 HC.out; change ((rd_L2 rows x).length : Int) = b at this; omega)
     have d0 : decide (rd (rd_L2 rows x) y < 0) = false := decide_eq_false (Int.not_lt.2 hv.1)
     have d1 : decide ((rows.length : Int) ≤ rd (rd_L2 rows x) y) = false := decide_eq_false (Int.not_le.2 hv.2)
     have HCy := G.a c
     clear hv c hi1
     have p2 := eq_true HY.out.1
     have q2 := eq_true HCy.out
     go_wp2
     repeat (go_quiet (fail); try go_wp2)
     go_roundg (gk - 1)
     case measure => have := HY.out; have := HCy.out; omega
     case rel => exact ⟨wrap64 (y + 1), rfl, ⟨by have := HY.out; have := HCy.out; rw [wsx (n := 1099511627776) (by omega) (by have h_ : ((rd_L2 rows x).length : Int) = b := HW.out.len HX.out.1 HC.out; have := HW.out.b4; omega) (by omega)]; omega⟩, ⟨bel⟩⟩
    ·have cb : decide (y < ((rd_L2 rows x).length : Int)) = false := decide_eq_false c
     clear c hi1
     go_wp2
     go_roundg k1
     case measure => omega
     case rel => exact ⟨wrap64 (x + 1), rfl, ⟨by have := HX.out; have := HC.out; have := HW.out.n16; rw [wsx (n := 1099511627776) (by omega) (by omega) (by omega)]; omega⟩, ⟨bel⟩⟩
  ·have cb : decide (x < (rows.length : Int)) = false := decide_eq_false c
   clear c
   go_wp2
   clear z0 z1 z2 y0 y1 y2 cb
   go_loopg [5] out.length (fun kq v5 w' => ∃ y : Int, v5 = .int .i64 y ∧ Aside0 (0 ≤ y ∧ (out.length : Int) ≤ y + kq) ∧ Aside0 (Below w2.heap.size w2 w'))
   case atStart => exact ⟨0, rfl, ⟨by omega⟩, ⟨bel⟩⟩
   case round =>
    clear HB
    obtain ⟨y, rfl, HY, HB⟩ := hrel
    obtain ⟨z0, z1, z2, y0, y1, y2⟩ := BX.out _ HB.out
    by_cases c : y < (out.length : Int)
    ·obtain ⟨ad3, e3, hx3⟩ := Kd.at_int HR2.out y HY.out.1 c
     cases e3
     replace hx3 := pw_cell_below (below_step H0.out HB.out) hx3
     have cb : decide (y < (out.length : Int)) = true := decide_eq_true c
     have hv := G.a (HW.out.out_ HY.out.1 (by rw [← HW.out.olen]; exact c))
     have HCy := G.a c
     clear c
     have p2 := eq_true HY.out.1
     have q2 := eq_true HCy.out
     go_wp2_with (go_at_call 75; refine (spec_l1In.calls _ _ _ true _ (l1In_yes hv.out.1 hv.out.2)).mono ?_; rintro e w' ⟨rfl, ⟨nd, rfl⟩⟩)
     go_roundg (gk - 1)
     case measure => have := HY.out; have := HCy.out; omega
     case rel => exact ⟨wrap64 (y + 1), rfl, ⟨by have := HY.out; have := HCy.out; have := HW.out.n16; have := HW.out.olen; rw [wsx (n := 1099511627776) (by omega) (by omega) (by omega)]; omega⟩, ⟨bel⟩⟩
    ·have cb : decide (y < (out.length : Int)) = false := decide_eq_false c
     clear c
     have hq : ((out.length : Int) == (rows.length : Int)) = true := beq_iff_eq.mpr (by rw [HW.out.olen])
     go_wp2_with (go_at_call 75; refine (spec_l1In.calls _ _ _ true _ (by first | exact l1In_yes HW.out.b2 HW.out.b4 | exact l1In_yes (by have := HW.out.n1; omega) (by have := HW.out.n16; omega))).mono ?_; rintro e w' ⟨rfl, ⟨nd, rfl⟩⟩)
     go_ret
     exact ⟨rfl, below_step H0.out bel⟩
end
mutual
def spec_PowerOf.j0 : Nat → Int → Int → Bool → Option (Int)
 | 0, _, _, _ => none
 | k + 1, x0, x1, x14 => if x14 = true then (some 0) else (spec_PowerOf.l0 k x0 x1 1 0)
def spec_PowerOf.l0 : Nat → Int → Int → Int → Int → Option (Int)
 | 0, _, _, _, _ => none
 | k + 1, x0, x1, x5, x6 => if x6 < x1 then (spec_PowerOf.l0 k x0 x1 (wrap64 (x5 * x0)) (wrap64 (x6 + 1))) else (some x5)
end
def spec_PowerOf.f (k : Nat) (a0 : Int) (a1 : Int) : Option (Int) := (spec_l1In.f a0 2 4).bind fun t257 => (if t257 = true then ((spec_l1In.f a1 0 16).bind fun t258 => (spec_PowerOf.j0 k a0 a1 (!t258))) else (spec_PowerOf.j0 k a0 a1 true))
theorem spec_PowerOf.calls (k : Nat) (a0 : Int) (a1 : Int) (r : Int) (w : World) (h : spec_PowerOf.f k a0 a1 = some r) :
  Calls Tryz.prog 86 #[.int .i64 a0, .int .i64 a1] w fun e w' => e = .returned (.int .i64 r) ∧ Drawn0 w w' := by
 have H : ((spec_l1In.f a0 2 4).bind fun t257 => (if t257 = true then ((spec_l1In.f a1 0 16).bind fun t258 => (spec_PowerOf.j0 k a0 a1 (!t258))) else (spec_PowerOf.j0 k a0 a1 true))) = some r := h
 clear h
 have HC3 := G.a H
 clear H
 go_enter Tryz.func86, Tryz.ntmps86
 go_upto_region 1 with (fail)
 go_cut [14] (fun v14 wc => ∃ (kq : Nat) (x14_2 : Bool), v14 = .bool x14_2 ∧ Aside0 (spec_PowerOf.j0 kq a0 a1 x14_2 = some r) ∧ Aside0 (kq ≤ k) ∧ Drawn0 w wc)
 case first =>
  have H := HC3.out
  clear HC3
  obtain ⟨t257, A4, H⟩ := G.bx H
  by_cases c5 : t257 = true
  ·subst c5
   rw [if_pos rfl] at H
   obtain ⟨t258, A6, H⟩ := G.bx H
   have H' := G.a H
   clear H
   go_wp2_with (first | ((with_reducible refine gate_callee (f := 75) rfl ?_); refine goesL_ (some 8) rfl rfl Tryz.func75 (by kernel_rfl) rfl #[.int .i64 a0, .int .i64 2, .int .i64 4] rfl G.ar ?_; (with_reducible refine (spec_l1In.calls a0 2 4 true _ A4.out).mono ?_); rintro e w' ⟨rfl, ⟨nd, rfl⟩⟩; refine ⟨_, rfl, ?_⟩) | (go_at_call 75; (with_reducible refine (spec_l1In.calls a1 0 16 t258 _ A6.out).mono ?_); rintro e w' ⟨rfl, ⟨nd, rfl⟩⟩))
   go_meet
   case rel => exact ⟨_, (!t258), G.tr, H', ⟨by first | omega | exact Nat.le_refl _⟩, G.dn⟩
  ·replace c5 := Bool.eq_false_iff.mpr c5
   subst c5
   rw [if_neg (show ¬ (false = true) by decide)] at H
   have H' := G.a H
   clear H
   go_wp2_with (first | ((with_reducible refine gate_callee (f := 75) rfl ?_); refine goesL_ (some 8) rfl rfl Tryz.func75 (by kernel_rfl) rfl #[.int .i64 a0, .int .i64 2, .int .i64 4] rfl G.ar ?_; (with_reducible refine (spec_l1In.calls a0 2 4 false _ A4.out).mono ?_); rintro e w' ⟨rfl, ⟨nd, rfl⟩⟩; refine ⟨_, rfl, ?_⟩))
   go_meet
   case rel => exact ⟨_, (true), G.tr, H', ⟨by first | omega | exact Nat.le_refl _⟩, G.dn⟩
 case rest =>
  clear HC3
  try clear p2; try clear c5
  obtain ⟨kq, x14_2, rfl, HA, HJ2, ⟨mc2, rfl⟩⟩ := hcut
  cases kq with
  | zero => exact absurd HA.out (by simp [spec_PowerOf.j0])
  | succ kj2 =>
   have H := HA.out
   clear HA
   simp only [spec_PowerOf.j0] at H
   by_cases c7 : x14_2 = true
   ·subst c7
    rw [if_pos rfl] at H
    obtain rfl := Option.some.inj H
    go_wp2
    go_ret
    exact ⟨G.tr, G.dn⟩
   ·replace c7 := Bool.eq_false_iff.mpr c7
    subst c7
    rw [if_neg (show ¬ (false = true) by decide)] at H
    have H' := G.a H
    clear H
    go_wp2
    go_loopg [5, 6] kj2 (fun kq v5 v6 w' => ∃ (x5_2 : Int) (x6_2 : Int), v5 = .int .i64 x5_2 ∧ v6 = .int .i64 x6_2 ∧ Aside0 (spec_PowerOf.l0 kq a0 a1 x5_2 x6_2 = some r) ∧ Aside0 (kq ≤ kj2) ∧ Drawn0 w w')
    case atStart => exact ⟨(1), (0), G.tr, G.tr, H', ⟨Nat.le_refl _⟩, G.dn⟩
    case round =>
     clear H'
     try clear c2; try clear p2; try clear c5; try clear c7; try clear p2
     obtain ⟨x5_2, x6_2, rfl, rfl, HA, HK2, ⟨m2, rfl⟩⟩ := hrel
     cases gk with
     | zero => exact absurd HA.out (by simp [spec_PowerOf.l0])
     | succ k2 =>
      have H := HA.out
      clear HA
      simp only [spec_PowerOf.l0] at H
      by_cases c8 : x6_2 < a1
      ·rw [if_pos c8] at H
       have c8b0 : decide (x6_2 < a1) = true := decide_eq_true c8
       clear c8
       have H' := G.a H
       clear H
       go_wp2
       go_roundg k2
       case measure => have := HJ2.out; have := HK2.out; omega
       case rel => exact ⟨(wrap64 (x5_2 * a0)), (wrap64 (x6_2 + 1)), G.tr, G.tr, H', ⟨by have := HJ2.out; have := HK2.out; omega⟩, G.dn⟩
      ·rw [if_neg c8] at H
       have c8b0 : decide (x6_2 < a1) = false := decide_eq_false c8
       clear c8
       obtain rfl := Option.some.inj H
       go_wp2
       go_ret
       exact ⟨G.tr, G.dn⟩
end Go.Proofs.YtolikggioekalabGreat.PFnRuns
