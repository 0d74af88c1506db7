/- The Go functions that the law FnRuns reaches (part 19): each as a Lean function, and that its code comes to these answers. No condition beyond those written. -/
import Derived.Test.YtolikggioekalabGreatVMFnRunsx18
namespace Go.Proofs.YtolikggioekalabGreat.PFnRuns
open Go.RowKit Go.Proofs.YtolikggioekalabGreatW.PrintWords Go.Proofs.YtolikggioekalabGreatW.PrintLast Go.Proofs.YtolikggioekalabGreatW.PrintMore
attribute [local go_sem] max2_int min2_int max_two min_two max_three min_three max_four min_four
set_option maxHeartbeats 8000000
set_option maxRecDepth 100000
set_option linter.unusedVariables false
set_option linter.unusedSimpArgs false
section
open Go.Proofs.YtolikggioekalabGreat.G
def spec_DrawSquaresInRun.Ok (t : Int × Int × Int) : Prop := (-1048576 ≤ t.1 ∧ t.1 ≤ 1048576) ∧ (-1048576 ≤ t.2.1 ∧ t.2.1 ≤ 1048576) ∧ (-1048576 ≤ t.2.2 ∧ t.2.2 ≤ 1048576)
theorem spec_DrawSquaresInRun.any (A0 : Option Addr) (c0 : Nat) (l0 : List Int) (w : World) (hr0 : Kd.C (Kd.int .u8) w A0 l0.length l0) (hc0 : l0.length ≤ c0) (hl0 : l0.length ≤ 1048576) (hRN : RNok) :
  Calls Tryz.prog 19 #[.slice A0 l0.length c0] w fun e w' => ∃ (r1 : Int) (r2 : Int) (r3 : Int), ((-1048576 ≤ r1 ∧ r1 ≤ 1048576) ∧ (-1048576 ≤ r2 ∧ r2 ≤ 1048576) ∧ (-1048576 ≤ r3 ∧ r3 ≤ 1048576)) ∧ e = .returned (.agg #[.int .i64 r1, .int .i64 r2, .int .i64 r3]) ∧ Below w.heap.size w w' := by
 have hu32 := Tryz.underlying32
 have HR0 := G.a hr0
 have HC0 := G.a hc0
 clear hr0 hc0
 have HB := G.a (Below.refl w.heap.size w)
 have HL_ := G.a hl0
 have HRN_ := G.a hRN
 clear hl0 hRN
 go_enter Tryz.func19, Tryz.ntmps19
 go_wp2_with (first | ((with_reducible refine gate_dst (N := 2) rfl ?_); refine box_event ?hg (N := 2) ?hd (cs := #[.int .i64 0, .int .i64 0, .int .i64 0]) (t := 32) ?hr ?_; (case hd => rfl); (case hg => rfl); (case hr => first | (go_simp; done) | (go_simp; rfl)); intro gb797 hg w3 hbox hb; have n0_ := G.a (below_step G.bel hb); have n1_ := G.a (hbox); have n2_ := G.a ((by rw [hg]; exact (below_size G.bel) : w.heap.size ≤ gb797)); have n3_ := G.a ((by rw [hg]; exact (below_size G.bel) : w.heap.size ≤ gb797)); clear HB; have HB := n0_; have BK797 := n1_; have GW797 := n2_; have GE797 := n3_; clear n0_ n1_ n2_ n3_; clear hb hbox hg) | ((with_reducible refine gate_callee (f := 35) rfl ?_); refine goesL_ (some 7) rfl rfl Tryz.func35 (by kernel_rfl) rfl #[.slice A0 l0.length c0] rfl G.ar ?_; (with_reducible refine (spec_l12Both.any A0 c0 l0 _ ?side1 ?side2 HL_.out HRN_.out).mono ?_); (case side1 => exact G.kC (Kd.C_below HR0.out HB.out)); (case side2 => exact HC0.out); rintro e w4 ⟨t798, t801, t802, t803, v799, hok_, rfl, ho0, hb⟩; refine ⟨_, rfl, ?_⟩; have HOK_ := G.a hok_; clear hok_; have n0_ := G.a (Kd.R_lower ho0 (below_size (G.bes GE797.out))); have n1_ := G.a (blk_below (g := gb797) (o := .cells #[.int .i64 0, .int .i64 0, .int .i64 0] 32 (0, 0)) (G.kB BK797.out) hb); have n2_ := G.a (below_step (G.bes GE797.out) hb); clear BK797; clear HB; have HO800 := n0_; have BK797 := n1_; have HB := n2_; clear n0_ n1_ n2_; (try clear hb); (try clear hb2); (try clear hk); (try clear hi); (try clear ho0)) | ((with_reducible refine gate_dst (N := 4) rfl ?_); refine box_event ?hg (N := 4) ?hd (cs := #[.int .i64 0, .int .i64 0, .int .i64 0]) (t := 32) ?hr ?_; (case hd => rfl); (case hg => rfl); (case hr => first | (go_simp; done) | (go_simp; rfl)); intro gb804 hg w5 hbox hb; have n0_ := G.a (Kd.R_below (G.kR HO800.out) hb); have n1_ := G.a (blk_below (g := gb797) (o := .cells #[.int .i64 0, .int .i64 0, .int .i64 0] 32 (0, 0)) (G.kB BK797.out) hb); have n2_ := G.a (below_step (G.bes GE797.out) hb); have n3_ := G.a (hbox); have n4_ := G.a ((by rw [hg]; exact (below_size (G.bes GE797.out)) : w.heap.size ≤ gb804)); have n5_ := G.a ((by rw [hg]; exact (below_size (G.bes GE797.out)) : w.heap.size ≤ gb804)); have n6_ := G.a ((by rw [hg]; exact Nat.ne_of_lt (blk_lt (g := gb797) (o := .cells #[.int .i64 0, .int .i64 0, .int .i64 0] 32 (0, 0)) (G.kB BK797.out)) : gb797 ≠ gb804)); have n7_ := G.a ((by rw [hg]; exact Nat.ne_of_gt (blk_lt (g := gb797) (o := .cells #[.int .i64 0, .int .i64 0, .int .i64 0] 32 (0, 0)) (G.kB BK797.out)) : gb804 ≠ gb797)); clear HO800; clear BK797; clear HB; have HO800 := n0_; have BK797 := n1_; have HB := n2_; have BK804 := n3_; have GW804 := n4_; have GE804 := n5_; have NB797_804 := n6_; have NB804_797 := n7_; clear n0_ n1_ n2_ n3_ n4_ n5_ n6_ n7_; clear hb hbox hg; have hnb6 := NB804_797.out; have hnc6 := NB797_804.out; have hcz7_0 : w5.cell? ⟨gb804, 0, none⟩ = some (.int .i64 0) := (blk_cell BK804.out 0).trans rfl; have hcz7_1 : w5.cell? ⟨gb804, 1, none⟩ = some (.int .i64 0) := (blk_cell BK804.out 1).trans rfl; have hcz7_2 : w5.cell? ⟨gb804, 2, none⟩ = some (.int .i64 0) := (blk_cell BK804.out 2).trans rfl; have hfz7_0 := blk_frozen BK804.out 0; have hfz7_1 := blk_frozen BK804.out 1; have hfz7_2 := blk_frozen BK804.out 2; have hcz8_0 : w5.cell? ⟨gb797, 0, none⟩ = some (.int .i64 0) := (blk_cell BK797.out 0).trans rfl; have hcz8_1 : w5.cell? ⟨gb797, 1, none⟩ = some (.int .i64 0) := (blk_cell BK797.out 1).trans rfl; have hcz8_2 : w5.cell? ⟨gb797, 2, none⟩ = some (.int .i64 0) := (blk_cell BK797.out 2).trans rfl; have hfz8_0 := blk_frozen BK797.out 0; have hfz8_1 := blk_frozen BK797.out 1; have hfz8_2 := blk_frozen BK797.out 2))
 refine bodyPost_ret (results_cell_row rfl _ _ gb797 32 #[.int .i64 t801, .int .i64 t802, .int .i64 t803] (0, 0) _ rfl (by (with_reducible repeat (first | refine blk_drewN ?_ _ | refine blk_drew ?_ | refine blk_alloc ?_ _)); refine blk_put (cs := #[.int .i64 t801, .int .i64 t802, .int .i64 0]) ?_ 2 _ rfl; (with_reducible repeat (first | refine blk_drewN ?_ _ | refine blk_drew ?_ | refine blk_alloc ?_ _)); refine blk_put (cs := #[.int .i64 t801, .int .i64 0, .int .i64 0]) ?_ 1 _ rfl; (with_reducible repeat (first | refine blk_drewN ?_ _ | refine blk_drew ?_ | refine blk_alloc ?_ _)); refine blk_put (cs := #[.int .i64 0, .int .i64 0, .int .i64 0]) ?_ 0 _ rfl; (with_reducible repeat (first | refine blk_drewN ?_ _ | refine blk_drew ?_ | refine blk_alloc ?_ _)); refine blk_far ?_ NB797_804.out _; (with_reducible repeat (first | refine blk_drewN ?_ _ | refine blk_drew ?_ | refine blk_alloc ?_ _)); refine blk_far ?_ NB797_804.out _; (with_reducible repeat (first | refine blk_drewN ?_ _ | refine blk_drew ?_ | refine blk_alloc ?_ _)); refine blk_far ?_ NB797_804.out _; (with_reducible repeat (first | refine blk_drewN ?_ _ | refine blk_drew ?_ | refine blk_alloc ?_ _)); exact BK797.out) Tryz.underlying32 rfl (by kernel_rfl)) rfl ?_
 first | exact ⟨_, _, _, HOK_.out.2, G.er, by repeat (first | (with_reducible first | exact HB.out | apply below_alloc | apply pw_below_drewN | apply below_drew1 | refine below_set ?_ GE797.out | refine below_set ?_ GE804.out) | exact HB.out)⟩ | exact ⟨_, _, _, HOK_.out.2, G.er, by repeat (first | (with_reducible first | exact HB.out | apply below_alloc | apply pw_below_drewN | apply below_drew1 | refine below_set ?_ GE797.out | refine below_set ?_ GE804.out) | exact HB.out)⟩
end
def laws_sameInts.l0 : Nat → List Int → List Int → Int → Option (Bool)
 | 0, _, _, _ => none
 | k + 1, x0, x1, x5 => if x5 < (x0.length : Int) then (if 0 ≤ x5 then (if x5 < (x1.length : Int) then (if (rd x0 x5) = (rd x1 x5) then (laws_sameInts.l0 k x0 x1 (wrap64 (x5 + 1))) else (some false)) else (none)) else (none)) else (some true)
def laws_sameInts.f (k : Nat) (l0 : List Int) (l1 : List Int) : Option (Bool) := if (l0.length : Int) = (l1.length : Int) then (laws_sameInts.l0 k l0 l1 0) else (some false)
theorem laws_sameInts.calls (k : Nat) (A0 : Option Addr) (c0 : Nat) (l0 : List Int) (A1 : Option Addr) (c1 : Nat) (l1 : List Int) (r : Bool) (w : World) (hr0 : Kd.C (Kd.int .i64) w A0 l0.length l0) (hc0 : l0.length ≤ c0) (hr1 : Kd.C (Kd.int .i64) w A1 l1.length l1) (hc1 : l1.length ≤ c1) (h : laws_sameInts.f k l0 l1 = some r) :
  Calls Tryz.prog 21 #[.slice A0 l0.length c0, .slice A1 l1.length c1] w fun e w' => e = .returned (.bool r) ∧ Drawn0 w w' := by
 have HR0 := G.a hr0
 have HC0 := G.a hc0
 clear hr0 hc0
 have HR1 := G.a hr1
 have HC1 := G.a hc1
 clear hr1 hc1
 have H : (if (l0.length : Int) = (l1.length : Int) then (laws_sameInts.l0 k l0 l1 0) else (some false)) = some r := h
 clear h
 by_cases c3 : (l0.length : Int) = (l1.length : Int)
 ·rw [if_pos c3] at H
  have c3b0 : ((l0.length : Int) == (l1.length : Int)) = true := beq_iff_eq.mpr c3
  have c3b1 : ((l0.length : Int) != (l1.length : Int)) = false := bne_eq_false_iff_eq.mpr c3
  have c3b2 : (l0.length == l1.length) = true := by first | simpa using c3 | (simp at c3 ⊢; omega)
  clear c3
  have H' := G.a H
  clear H
  go_enter Tryz.func21, Tryz.ntmps21
  go_wp2
  repeat (go_quiet (fail); try go_wp2)
  go_loopg [5] k (fun kq v5 w' => ∃ (x5_1 : Int), v5 = .int .i64 x5_1 ∧ Aside0 (laws_sameInts.l0 kq l0 l1 x5_1 = some r) ∧ Aside0 (kq ≤ k) ∧ Drawn0 w w')
  case atStart => exact ⟨(0), G.tr, H', ⟨Nat.le_refl _⟩, G.dn⟩
  case round =>
   clear H'
   try clear c1; try clear c2; try clear p2; try clear c3; try clear c3b0; try clear c3b1; try clear c3b2
   obtain ⟨x5_1, rfl, HA, HK1, ⟨m1, rfl⟩⟩ := hrel
   cases gk with
   | zero => exact absurd HA.out (by simp [laws_sameInts.l0])
   | succ k1 =>
    have H := HA.out
    clear HA
    simp only [laws_sameInts.l0] at H
    by_cases c4 : x5_1 < (l0.length : Int)
    ·rw [if_pos c4] at H
     have c4b0 : decide (x5_1 < (l0.length : Int)) = true := decide_eq_true c4
     clear c4
     by_cases c5 : 0 ≤ x5_1
     ·rw [if_pos c5] at H
      have c5b0 : decide (0 ≤ x5_1) = true := decide_eq_true c5
      clear c5
      by_cases c6 : x5_1 < (l1.length : Int)
      ·rw [if_pos c6] at H
       have c6b0 : decide (x5_1 < (l1.length : Int)) = true := decide_eq_true c6
       clear c6
       by_cases c7 : (rd l0 x5_1) = (rd l1 x5_1)
       ·rw [if_pos c7] at H
        have c7b0 : ((rd l0 x5_1) == (rd l1 x5_1)) = true := beq_iff_eq.mpr c7
        have c7b1 : ((rd l0 x5_1) != (rd l1 x5_1)) = false := bne_eq_false_iff_eq.mpr c7
        clear c7
        have H' := G.a H
        clear H
        have p805 : 0 ≤ (x5_1 : Int) := G.odt
        have q805 : x5_1 < (l0.length : Int) := G.odt
        obtain ⟨ad805, e805, hx805_0⟩ := Kd.at_int HR0.out x5_1 p805 q805
        cases e805
        replace p805 := eq_true p805
        replace q805 := eq_true q805
        have p806 : 0 ≤ (x5_1 : Int) := G.odt
        have q806 : x5_1 < (l1.length : Int) := G.odt
        obtain ⟨ad806, e806, hx806_0⟩ := Kd.at_int HR1.out x5_1 p806 q806
        cases e806
        replace p806 := eq_true p806
        replace q806 := eq_true q806
        go_wp2
        repeat (go_quiet (fail); try go_wp2)
        go_roundg k1
        case measure => have := HK1.out; omega
        case rel => exact ⟨(wrap64 (x5_1 + 1)), G.tr, H', ⟨by have := HK1.out; omega⟩, G.dn⟩
       ·rw [if_neg c7] at H
        have c7b0 : ((rd l0 x5_1) == (rd l1 x5_1)) = false := beq_eq_false_iff_ne.mpr c7
        have c7b1 : ((rd l0 x5_1) != (rd l1 x5_1)) = true := bne_iff_ne.mpr c7
        obtain rfl := Option.some.inj H
        have p805 : 0 ≤ (x5_1 : Int) := G.odt
        have q805 : x5_1 < (l0.length : Int) := G.odt
        obtain ⟨ad805, e805, hx805_0⟩ := Kd.at_int HR0.out x5_1 p805 q805
        cases e805
        replace p805 := eq_true p805
        replace q805 := eq_true q805
        have p806 : 0 ≤ (x5_1 : Int) := G.odt
        have q806 : x5_1 < (l1.length : Int) := G.odt
        obtain ⟨ad806, e806, hx806_0⟩ := Kd.at_int HR1.out x5_1 p806 q806
        cases e806
        replace p806 := eq_true p806
        replace q806 := eq_true q806
        go_wp2
        repeat (go_quiet (fail); try go_wp2)
        go_ret
        exact ⟨G.tr, G.dn⟩
      ·rw [if_neg c6] at H
       exact absurd H (by simp)
     ·rw [if_neg c5] at H
      exact absurd H (by simp)
    ·rw [if_neg c4] at H
     have c4b0 : decide (x5_1 < (l0.length : Int)) = false := decide_eq_false c4
     clear c4
     obtain rfl := Option.some.inj H
     go_wp2
     repeat (go_quiet (fail); try go_wp2)
     go_ret
     exact ⟨G.tr, G.dn⟩
 ·rw [if_neg c3] at H
  have c3b0 : ((l0.length : Int) == (l1.length : Int)) = false := beq_eq_false_iff_ne.mpr c3
  have c3b1 : ((l0.length : Int) != (l1.length : Int)) = true := bne_iff_ne.mpr c3
  have c3b2 : (l0.length == l1.length) = false := by first | simpa using c3 | (simp at c3 ⊢; omega)
  obtain rfl := Option.some.inj H
  go_enter Tryz.func21, Tryz.ntmps21
  go_wp2
  repeat (go_quiet (fail); try go_wp2)
  go_ret
  exact ⟨G.tr, G.dn⟩
def spec_SquaresInRun.f (a0_0 : Int) (a0_1 : Int) (a0_2 : Int) : Option (Int) := if a0_0 < 0 then (some 0) else (if a0_1 < a0_0 then (some 0) else (if a0_1 > 64 then (some 0) else (if a0_2 < 1 then (some 0) else (if a0_2 > 64 then (some 0) else (some (mx 0 (wrap64 ((wrap64 ((wrap64 (a0_1 - a0_0)) - (wrap64 (2 * a0_2)))) + 1))))))))
theorem spec_SquaresInRun.calls (a0_0 : Int) (a0_1 : Int) (a0_2 : Int) (r : Int) (w : World) (h : spec_SquaresInRun.f a0_0 a0_1 a0_2 = some r) :
  Calls Tryz.prog 22 #[.agg #[.int .i64 a0_0, .int .i64 a0_1, .int .i64 a0_2]] w fun e w' => e = .returned (.int .i64 r) ∧ Below w.heap.size w w' := by
 have hu32 := Tryz.underlying32
 have HB := G.a (Below.refl w.heap.size w)
 have H : (if a0_0 < 0 then (some 0) else (if a0_1 < a0_0 then (some 0) else (if a0_1 > 64 then (some 0) else (if a0_2 < 1 then (some 0) else (if a0_2 > 64 then (some 0) else (some (mx 0 (wrap64 ((wrap64 ((wrap64 (a0_1 - a0_0)) - (wrap64 (2 * a0_2)))) + 1))))))))) = some r := h
 clear h
 by_cases c2 : a0_0 < 0
 ·rw [if_pos c2] at H
  have c2b0 : decide (a0_0 < 0) = true := decide_eq_true c2
  clear c2
  obtain rfl := Option.some.inj H
  go_enter Tryz.func22, Tryz.ntmps22
  go_wp2_with (first | ((with_reducible refine gate_dst (N := 1) rfl ?_); refine box_event ?hg (N := 1) ?hd (cs := #[.int .i64 a0_0, .int .i64 a0_1, .int .i64 a0_2]) (t := 32) ?hr ?_; (case hd => rfl); (case hg => rfl); (case hr => first | (go_simp; done) | (go_simp; rfl)); intro gb807 hg w3 hbox hb; have n0_ := G.a (below_step G.bel hb); have n1_ := G.a (hbox); have n2_ := G.a ((by rw [hg]; exact (below_size G.bel) : w.heap.size ≤ gb807)); have n3_ := G.a ((by rw [hg]; exact (below_size G.bel) : w.heap.size ≤ gb807)); clear HB; have HB := n0_; have BK807 := n1_; have GW807 := n2_; have GE807 := n3_; clear n0_ n1_ n2_ n3_; clear hb hbox hg; have hcz4_0 : w3.cell? ⟨gb807, 0, none⟩ = some (.int .i64 a0_0) := (blk_cell BK807.out 0).trans rfl; have hcz4_1 : w3.cell? ⟨gb807, 1, none⟩ = some (.int .i64 a0_1) := (blk_cell BK807.out 1).trans rfl; have hcz4_2 : w3.cell? ⟨gb807, 2, none⟩ = some (.int .i64 a0_2) := (blk_cell BK807.out 2).trans rfl; have hfz4_0 := blk_frozen BK807.out 0; have hfz4_1 := blk_frozen BK807.out 1; have hfz4_2 := blk_frozen BK807.out 2))
  go_ret
  exact ⟨G.er, G.bes GE807.out⟩
 ·rw [if_neg c2] at H
  have c2b0 : decide (a0_0 < 0) = false := decide_eq_false c2
  clear c2
  by_cases c5 : a0_1 < a0_0
  ·rw [if_pos c5] at H
   have c5b0 : decide (a0_1 < a0_0) = true := decide_eq_true c5
   clear c5
   obtain rfl := Option.some.inj H
   go_enter Tryz.func22, Tryz.ntmps22
   go_wp2_with (first | ((with_reducible refine gate_dst (N := 1) rfl ?_); refine box_event ?hg (N := 1) ?hd (cs := #[.int .i64 a0_0, .int .i64 a0_1, .int .i64 a0_2]) (t := 32) ?hr ?_; (case hd => rfl); (case hg => rfl); (case hr => first | (go_simp; done) | (go_simp; rfl)); intro gb807 hg w6 hbox hb; have n0_ := G.a (below_step G.bel hb); have n1_ := G.a (hbox); have n2_ := G.a ((by rw [hg]; exact (below_size G.bel) : w.heap.size ≤ gb807)); have n3_ := G.a ((by rw [hg]; exact (below_size G.bel) : w.heap.size ≤ gb807)); clear HB; have HB := n0_; have BK807 := n1_; have GW807 := n2_; have GE807 := n3_; clear n0_ n1_ n2_ n3_; clear hb hbox hg; have hcz7_0 : w6.cell? ⟨gb807, 0, none⟩ = some (.int .i64 a0_0) := (blk_cell BK807.out 0).trans rfl; have hcz7_1 : w6.cell? ⟨gb807, 1, none⟩ = some (.int .i64 a0_1) := (blk_cell BK807.out 1).trans rfl; have hcz7_2 : w6.cell? ⟨gb807, 2, none⟩ = some (.int .i64 a0_2) := (blk_cell BK807.out 2).trans rfl; have hfz7_0 := blk_frozen BK807.out 0; have hfz7_1 := blk_frozen BK807.out 1; have hfz7_2 := blk_frozen BK807.out 2))
   go_ret
   exact ⟨G.er, G.bes GE807.out⟩
  ·rw [if_neg c5] at H
   have c5b0 : decide (a0_1 < a0_0) = false := decide_eq_false c5
   clear c5
   by_cases c8 : a0_1 > 64
   ·rw [if_pos c8] at H
    have c8b0 : decide (64 < a0_1) = true := decide_eq_true c8
    clear c8
    obtain rfl := Option.some.inj H
    go_enter Tryz.func22, Tryz.ntmps22
    go_wp2_with (first | ((with_reducible refine gate_dst (N := 1) rfl ?_); refine box_event ?hg (N := 1) ?hd (cs := #[.int .i64 a0_0, .int .i64 a0_1, .int .i64 a0_2]) (t := 32) ?hr ?_; (case hd => rfl); (case hg => rfl); (case hr => first | (go_simp; done) | (go_simp; rfl)); intro gb807 hg w9 hbox hb; have n0_ := G.a (below_step G.bel hb); have n1_ := G.a (hbox); have n2_ := G.a ((by rw [hg]; exact (below_size G.bel) : w.heap.size ≤ gb807)); have n3_ := G.a ((by rw [hg]; exact (below_size G.bel) : w.heap.size ≤ gb807)); clear HB; have HB := n0_; have BK807 := n1_; have GW807 := n2_; have GE807 := n3_; clear n0_ n1_ n2_ n3_; clear hb hbox hg; have hcz10_0 : w9.cell? ⟨gb807, 0, none⟩ = some (.int .i64 a0_0) := (blk_cell BK807.out 0).trans rfl; have hcz10_1 : w9.cell? ⟨gb807, 1, none⟩ = some (.int .i64 a0_1) := (blk_cell BK807.out 1).trans rfl; have hcz10_2 : w9.cell? ⟨gb807, 2, none⟩ = some (.int .i64 a0_2) := (blk_cell BK807.out 2).trans rfl; have hfz10_0 := blk_frozen BK807.out 0; have hfz10_1 := blk_frozen BK807.out 1; have hfz10_2 := blk_frozen BK807.out 2))
    go_ret
    exact ⟨G.er, G.bes GE807.out⟩
   ·rw [if_neg c8] at H
    have c8b0 : decide (64 < a0_1) = false := decide_eq_false c8
    clear c8
    by_cases c11 : a0_2 < 1
    ·rw [if_pos c11] at H
     have c11b0 : decide (a0_2 < 1) = true := decide_eq_true c11
     clear c11
     obtain rfl := Option.some.inj H
     go_enter Tryz.func22, Tryz.ntmps22
     go_wp2_with (first | ((with_reducible refine gate_dst (N := 1) rfl ?_); refine box_event ?hg (N := 1) ?hd (cs := #[.int .i64 a0_0, .int .i64 a0_1, .int .i64 a0_2]) (t := 32) ?hr ?_; (case hd => rfl); (case hg => rfl); (case hr => first | (go_simp; done) | (go_simp; rfl)); intro gb807 hg w12 hbox hb; have n0_ := G.a (below_step G.bel hb); have n1_ := G.a (hbox); have n2_ := G.a ((by rw [hg]; exact (below_size G.bel) : w.heap.size ≤ gb807)); have n3_ := G.a ((by rw [hg]; exact (below_size G.bel) : w.heap.size ≤ gb807)); clear HB; have HB := n0_; have BK807 := n1_; have GW807 := n2_; have GE807 := n3_; clear n0_ n1_ n2_ n3_; clear hb hbox hg; have hcz13_0 : w12.cell? ⟨gb807, 0, none⟩ = some (.int .i64 a0_0) := (blk_cell BK807.out 0).trans rfl; have hcz13_1 : w12.cell? ⟨gb807, 1, none⟩ = some (.int .i64 a0_1) := (blk_cell BK807.out 1).trans rfl; have hcz13_2 : w12.cell? ⟨gb807, 2, none⟩ = some (.int .i64 a0_2) := (blk_cell BK807.out 2).trans rfl; have hfz13_0 := blk_frozen BK807.out 0; have hfz13_1 := blk_frozen BK807.out 1; have hfz13_2 := blk_frozen BK807.out 2))
     go_ret
     exact ⟨G.er, G.bes GE807.out⟩
    ·rw [if_neg c11] at H
     have c11b0 : decide (a0_2 < 1) = false := decide_eq_false c11
     clear c11
     by_cases c14 : a0_2 > 64
     ·rw [if_pos c14] at H
      have c14b0 : decide (64 < a0_2) = true := decide_eq_true c14
      clear c14
      obtain rfl := Option.some.inj H
      go_enter Tryz.func22, Tryz.ntmps22
      go_wp2_with (first | ((with_reducible refine gate_dst (N := 1) rfl ?_); refine box_event ?hg (N := 1) ?hd (cs := #[.int .i64 a0_0, .int .i64 a0_1, .int .i64 a0_2]) (t := 32) ?hr ?_; (case hd => rfl); (case hg => rfl); (case hr => first | (go_simp; done) | (go_simp; rfl)); intro gb807 hg w15 hbox hb; have n0_ := G.a (below_step G.bel hb); have n1_ := G.a (hbox); have n2_ := G.a ((by rw [hg]; exact (below_size G.bel) : w.heap.size ≤ gb807)); have n3_ := G.a ((by rw [hg]; exact (below_size G.bel) : w.heap.size ≤ gb807)); clear HB; have HB := n0_; have BK807 := n1_; have GW807 := n2_; have GE807 := n3_; clear n0_ n1_ n2_ n3_; clear hb hbox hg; have hcz16_0 : w15.cell? ⟨gb807, 0, none⟩ = some (.int .i64 a0_0) := (blk_cell BK807.out 0).trans rfl; have hcz16_1 : w15.cell? ⟨gb807, 1, none⟩ = some (.int .i64 a0_1) := (blk_cell BK807.out 1).trans rfl; have hcz16_2 : w15.cell? ⟨gb807, 2, none⟩ = some (.int .i64 a0_2) := (blk_cell BK807.out 2).trans rfl; have hfz16_0 := blk_frozen BK807.out 0; have hfz16_1 := blk_frozen BK807.out 1; have hfz16_2 := blk_frozen BK807.out 2))
      go_ret
      exact ⟨G.er, G.bes GE807.out⟩
     ·rw [if_neg c14] at H
      have c14b0 : decide (64 < a0_2) = false := decide_eq_false c14
      clear c14
      obtain ⟨ji17, hji17⟩ : ∃ j_ : Int, (mx 0 (wrap64 ((wrap64 ((wrap64 (a0_1 - a0_0)) - (wrap64 (2 * a0_2)))) + 1))) = j_ := ⟨_, rfl⟩
      replace H : (some ji17) = some r := by first | (rw [hji17] at H; exact H) | (simp only [hji17] at H ⊢; exact H)
      (try (have hji17l : 0 ≤ ji17 := by (rw [← hji17]; unfold mx; (repeat' split) <;> omega)))
      (try (have hji17m : 0 ≤ ji17 := by omega))
      have hji17_ : (if 0 < (wrap64 ((wrap64 ((wrap64 (a0_1 - a0_0)) - (wrap64 (2 * a0_2)))) + 1)) then (wrap64 ((wrap64 ((wrap64 (a0_1 - a0_0)) - (wrap64 (2 * a0_2)))) + 1)) else 0) = ji17 := hji17
      obtain rfl := Option.some.inj H
      go_enter Tryz.func22, Tryz.ntmps22
      go_wp2_with (first | ((with_reducible refine gate_dst (N := 1) rfl ?_); refine box_event ?hg (N := 1) ?hd (cs := #[.int .i64 a0_0, .int .i64 a0_1, .int .i64 a0_2]) (t := 32) ?hr ?_; (case hd => rfl); (case hg => rfl); (case hr => first | (go_simp; done) | (go_simp; rfl)); intro gb807 hg w18 hbox hb; have n0_ := G.a (below_step G.bel hb); have n1_ := G.a (hbox); have n2_ := G.a ((by rw [hg]; exact (below_size G.bel) : w.heap.size ≤ gb807)); have n3_ := G.a ((by rw [hg]; exact (below_size G.bel) : w.heap.size ≤ gb807)); clear HB; have HB := n0_; have BK807 := n1_; have GW807 := n2_; have GE807 := n3_; clear n0_ n1_ n2_ n3_; clear hb hbox hg; have hcz19_0 : w18.cell? ⟨gb807, 0, none⟩ = some (.int .i64 a0_0) := (blk_cell BK807.out 0).trans rfl; have hcz19_1 : w18.cell? ⟨gb807, 1, none⟩ = some (.int .i64 a0_1) := (blk_cell BK807.out 1).trans rfl; have hcz19_2 : w18.cell? ⟨gb807, 2, none⟩ = some (.int .i64 a0_2) := (blk_cell BK807.out 2).trans rfl; have hfz19_0 := blk_frozen BK807.out 0; have hfz19_1 := blk_frozen BK807.out 1; have hfz19_2 := blk_frozen BK807.out 2))
      go_ret
      exact ⟨by first | rfl | (simp [errW_none, errW_some] <;> rfl) | (simp only [← hji17]; first | rfl | (simp [errW_none, errW_some] <;> rfl)) | (simp [*, errW_none, errW_some] <;> rfl), G.bes GE807.out⟩
end Go.Proofs.YtolikggioekalabGreat.PFnRuns
