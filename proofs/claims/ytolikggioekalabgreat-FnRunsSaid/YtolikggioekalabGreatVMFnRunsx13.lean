/- The Go functions that the law FnRuns reaches (part 13): each as a Lean function, and that its code comes to these answers. No condition beyond those written. -/
import Derived.Test.YtolikggioekalabGreatVMFnRunsx12
namespace Go.Proofs.YtolikggioekalabGreat.PFnRuns
open Go.RowKit Go.Proofs.YtolikggioekalabGreatW.PrintWords Go.Proofs.YtolikggioekalabGreatW.PrintLast Go.Proofs.YtolikggioekalabGreatW.PrintMore
attribute [local go_sem] max2_int min2_int max_two min_two max_three min_three max_four min_four
set_option linter.unusedVariables false
set_option linter.unusedSimpArgs false
def spec_IsRun.j0 : Nat → List Int → Bool → Int → Int → Int → Option (Bool)
 | 0, _, _, _, _, _ => none
 | k + 1, x0, x51, x561000, x561001, x561002 => if x51 = true then (some false) else (if 0 ≤ x561000 then (if x561000 ≤ x561001 then (if x561001 ≤ (x0.length : Int) then ((spec_LeastPeriod.f k ((x0.take (x561001 : Int).toNat).drop (x561000 : Int).toNat)).bind fun t562 => (if t562 = x561002 then (if x561000 > 0 then (if 0 ≤ (wrap64 (x561000 - 1)) then (if (wrap64 (x561000 - 1)) < (x0.length : Int) then (if 0 ≤ (wrap64 ((wrap64 (x561000 - 1)) + x561002)) then (if (wrap64 ((wrap64 (x561000 - 1)) + x561002)) < (x0.length : Int) then (if x561001 < (x0.length : Int) then (if 0 ≤ x561001 then (if 0 ≤ (wrap64 (x561001 - x561002)) then (if (wrap64 (x561001 - x561002)) < (x0.length : Int) then (if ((rd x0 (wrap64 (x561000 - 1))) = (rd x0 (wrap64 ((wrap64 (x561000 - 1)) + x561002)))) then (some false) else (some (!((rd x0 x561001) == (rd x0 (wrap64 (x561001 - x561002))))))) else (none)) else (none)) else (none)) else (if ((rd x0 (wrap64 (x561000 - 1))) = (rd x0 (wrap64 ((wrap64 (x561000 - 1)) + x561002)))) then (some false) else (some (!false)))) else (none)) else (none)) else (none)) else (none)) else (if x561001 < (x0.length : Int) then (if 0 ≤ x561001 then (if 0 ≤ (wrap64 (x561001 - x561002)) then (if (wrap64 (x561001 - x561002)) < (x0.length : Int) then (some (!((rd x0 x561001) == (rd x0 (wrap64 (x561001 - x561002)))))) else (none)) else (none)) else (none)) else (some (!false)))) else (some false))) else (none)) else (none)) else (none))
def spec_IsRun.f (k : Nat) (l0 : List Int) (a1_0 : Int) (a1_1 : Int) (a1_2 : Int) : Option (Bool) := if a1_0 < 0 then (spec_IsRun.j0 k l0 true a1_0 a1_1 a1_2) else (if a1_1 < a1_0 then (spec_IsRun.j0 k l0 true a1_0 a1_1 a1_2) else (if a1_1 > (l0.length : Int) then (spec_IsRun.j0 k l0 true a1_0 a1_1 a1_2) else (if a1_2 < 1 then (spec_IsRun.j0 k l0 true a1_0 a1_1 a1_2) else (if a1_2 > (l0.length : Int) then (spec_IsRun.j0 k l0 true a1_0 a1_1 a1_2) else (if (wrap64 (a1_1 - a1_0)) < (wrap64 (2 * a1_2)) then (spec_IsRun.j0 k l0 true a1_0 a1_1 a1_2) else (spec_IsRun.j0 k l0 (decide ((l0.length : Int) > 64)) a1_0 a1_1 a1_2))))))
def spec_IsRun.T3 : Bool × List (List Nat × List Nat) := (true, [([], []), ([], []), ([1], [1]), ([], []), ([3], [3]), ([0, 2, 4], [0, 2, 4]), ([5], [5]), ([], []), ([7], [7]), ([6, 8], [6, 8])])
def spec_IsRun.B3 : List Nat := [0, 0, 2, 0, 8, 31, 63, 0, 128, 511]
theorem spec_IsRun.tab3 : rtab .any (opsOf Tryz.f20 3) = spec_IsRun.T3 := by kernel_rfl
theorem spec_IsRun.bits3 : waitsOk spec_IsRun.T3.2 spec_IsRun.B3 = true := by kernel_rfl
def spec_IsRun.T5 : Bool × List (List Nat × List Nat) := (true, [([], []), ([0], [0]), ([1], [1]), ([2], [2]), ([3], [3]), ([3], [3]), ([5, 3], [3, 5]), ([6, 3], [3, 6]), ([4, 7, 3], [3, 4, 7]), ([8, 3], [3, 8]), ([3], [3]), ([3], [3]), ([11, 3], [3, 11]), ([12, 3], [3, 12]), ([3], [3]), ([14, 3], [3, 14]), ([13, 15, 3], [3, 13, 15]), ([10, 16, 3], [3, 10, 16]), ([17, 3], [3, 17]), ([9, 18, 3], [3, 9, 18]), ([3, 19], [3, 19]), ([20, 3, 0, 1, 2, 3, 4, 5, 6, 7, 8, 9, 10, 11, 12, 13, 14, 15, 16, 17, 18, 19, 20], [20])])
def spec_IsRun.B5 : List Nat := [0, 1, 3, 7, 15, 15, 47, 111, 255, 511, 15, 15, 2063, 6159, 15, 16399, 63503, 130063, 261135, 524287, 1048575, 2097151]
theorem spec_IsRun.tab5 : rtab .any (opsOf Tryz.f20 5) = spec_IsRun.T5 := by kernel_rfl
theorem spec_IsRun.bits5 : waitsOk spec_IsRun.T5.2 spec_IsRun.B5 = true := by kernel_rfl
def spec_IsRun.T6 : Bool × List (List Nat × List Nat) := (true, [([], []), ([0], [0]), ([], []), ([2], [2]), ([1, 3], [1, 3]), ([4], [4]), ([5], [5]), ([5], [5]), ([7, 5], [5, 7]), ([6, 8, 5], [5, 6, 8]), ([9, 5], [5, 9]), ([5], [5]), ([5], [5]), ([12, 5], [5, 12]), ([5], [5]), ([14, 5], [5, 14]), ([13, 15, 5], [5, 13, 15]), ([11, 16, 5], [5, 11, 16]), ([17, 5], [5, 17]), ([10, 18, 5], [5, 10, 18]), ([5, 19], [5, 19]), ([20, 5, 0, 1, 2, 3, 4, 5, 6, 7, 8, 9, 10, 11, 12, 13, 14, 15, 16, 17, 18, 19, 20], [20])])
def spec_IsRun.B6 : List Nat := [0, 1, 0, 4, 15, 31, 63, 63, 191, 511, 1023, 63, 63, 4159, 63, 16447, 61503, 129087, 260159, 524287, 1048575, 2097151]
theorem spec_IsRun.tab6 : rtab .any (opsOf Tryz.f20 6) = spec_IsRun.T6 := by kernel_rfl
theorem spec_IsRun.bits6 : waitsOk spec_IsRun.T6.2 spec_IsRun.B6 = true := by kernel_rfl
set_option maxHeartbeats 8000000 in
set_option maxRecDepth 100000 in
theorem spec_IsRun.calls (k : Nat) (A0 : Option Addr) (c0 : Nat) (l0 : List Int) (a1_0 : Int) (a1_1 : Int) (a1_2 : Int) (r : Bool) (w : World) (hr0 : Kd.C (Kd.int .i64) w A0 l0.length l0) (hc0 : l0.length ≤ c0) (h : spec_IsRun.f k l0 a1_0 a1_1 a1_2 = some r) :
  Calls Tryz.prog 20 #[.slice A0 l0.length c0, .agg #[.int .i64 a1_0, .int .i64 a1_1, .int .i64 a1_2]] w fun e w' => e = .returned (.bool r) ∧ Below w.heap.size w w' := by
 have hu32 := Tryz.underlying32
 have HR0 := G.a hr0
 have HC0 := G.a hc0
 clear hr0 hc0
 have HB := G.a (Below.refl w.heap.size w)
 have H : (if a1_0 < 0 then (spec_IsRun.j0 k l0 true a1_0 a1_1 a1_2) else (if a1_1 < a1_0 then (spec_IsRun.j0 k l0 true a1_0 a1_1 a1_2) else (if a1_1 > (l0.length : Int) then (spec_IsRun.j0 k l0 true a1_0 a1_1 a1_2) else (if a1_2 < 1 then (spec_IsRun.j0 k l0 true a1_0 a1_1 a1_2) else (if a1_2 > (l0.length : Int) then (spec_IsRun.j0 k l0 true a1_0 a1_1 a1_2) else (if (wrap64 (a1_1 - a1_0)) < (wrap64 (2 * a1_2)) then (spec_IsRun.j0 k l0 true a1_0 a1_1 a1_2) else (spec_IsRun.j0 k l0 (decide ((l0.length : Int) > 64)) a1_0 a1_1 a1_2))))))) = some r := h
 clear h
 have HC3 := G.a H
 clear H
 go_enter Tryz.func20, Tryz.ntmps20
 go_upto_region 1 with (first | ((with_reducible refine gate_dst (N := 3) rfl ?_); (try (refine gate_guard (by rfl) ?_; dsimp only)); refine box_event ?hg (N := 3) ?hd (cs := #[.int .i64 a1_0, .int .i64 a1_1, .int .i64 a1_2]) (t := 32) ?hr ?_; (case hd => rfl); (case hg => rfl); (case hr => first | (go_simp; done) | (go_simp; rfl)); intro gb560 hg w4 hbox hb; have n0_ := G.a (below_step G.bel hb); have n1_ := G.a (hbox); have n2_ := G.a ((by rw [hg]; exact (below_size G.bel) : w.heap.size ≤ gb560)); have n3_ := G.a ((by rw [hg]; exact (below_size G.bel) : w.heap.size ≤ gb560)); clear HB; have HB := n0_; have BK560 := n1_; have GW560 := n2_; have GE560 := n3_; clear n0_ n1_ n2_ n3_; clear hb hbox hg))
 (try simp only [Act.put, List.setIfInBounds_toArray, List.set_cons_zero, List.set_cons_succ])
 go_cut [51] (fun v51 wc => ∃ (kq : Nat) (x51_2 : Bool), v51 = .bool x51_2 ∧ Aside0 (spec_IsRun.j0 kq l0 x51_2 a1_0 a1_1 a1_2 = some r) ∧ Aside0 (kq ≤ k) ∧ Aside0 (wc.heap[gb560]? = some (.cells #[.int .i64 a1_0, .int .i64 a1_1, .int .i64 a1_2] 32 (0, 0))) ∧ Aside0 (Below w.heap.size w wc))
 case first =>
  have H := HC3.out
  clear HC3
  by_cases c5 : a1_0 < 0
  ·rw [if_pos c5] at H
   have c5b0 : decide (a1_0 < 0) = true := decide_eq_true c5
   clear c5
   (first | rw [c5b0] | (simp only [i64_w, i32_w]; rw [c5b0]) | skip)
   have H' := G.a H
   clear H
   have hcz6_0 : w4.cell? ⟨gb560, 0, none⟩ = some (.int .i64 a1_0) := (blk_cell BK560.out 0).trans rfl
   have hcz6_1 : w4.cell? ⟨gb560, 1, none⟩ = some (.int .i64 a1_1) := (blk_cell BK560.out 1).trans rfl
   have hcz6_2 : w4.cell? ⟨gb560, 2, none⟩ = some (.int .i64 a1_2) := (blk_cell BK560.out 2).trans rfl
   have hfz6_0 := blk_frozen BK560.out 0
   have hfz6_1 := blk_frozen BK560.out 1
   have hfz6_2 := blk_frozen BK560.out 2
   go_wp2
   go_meet
   case rel => exact ⟨_, (true), G.tr, H', ⟨by first | omega | exact Nat.le_refl _⟩, ⟨G.kB BK560.out⟩, ⟨G.bes GE560.out⟩⟩
  ·rw [if_neg c5] at H
   have c5b0 : decide (a1_0 < 0) = false := decide_eq_false c5
   clear c5
   (first | rw [c5b0] | (simp only [i64_w, i32_w]; rw [c5b0]) | skip)
   by_cases c7 : a1_1 < a1_0
   ·rw [if_pos c7] at H
    have c7b0 : decide (a1_1 < a1_0) = true := decide_eq_true c7
    clear c7
    have H' := G.a H
    clear H
    have hcz8_0 : w4.cell? ⟨gb560, 0, none⟩ = some (.int .i64 a1_0) := (blk_cell BK560.out 0).trans rfl
    have hcz8_1 : w4.cell? ⟨gb560, 1, none⟩ = some (.int .i64 a1_1) := (blk_cell BK560.out 1).trans rfl
    have hcz8_2 : w4.cell? ⟨gb560, 2, none⟩ = some (.int .i64 a1_2) := (blk_cell BK560.out 2).trans rfl
    have hfz8_0 := blk_frozen BK560.out 0
    have hfz8_1 := blk_frozen BK560.out 1
    have hfz8_2 := blk_frozen BK560.out 2
    go_wp2
    go_meet
    case rel => exact ⟨_, (true), G.tr, H', ⟨by first | omega | exact Nat.le_refl _⟩, ⟨G.kB BK560.out⟩, ⟨G.bes GE560.out⟩⟩
   ·rw [if_neg c7] at H
    have c7b0 : decide (a1_1 < a1_0) = false := decide_eq_false c7
    clear c7
    by_cases c9 : a1_1 > (l0.length : Int)
    ·rw [if_pos c9] at H
     have c9b0 : decide ((l0.length : Int) < a1_1) = true := decide_eq_true c9
     clear c9
     have H' := G.a H
     clear H
     have hcz10_0 : w4.cell? ⟨gb560, 0, none⟩ = some (.int .i64 a1_0) := (blk_cell BK560.out 0).trans rfl
     have hcz10_1 : w4.cell? ⟨gb560, 1, none⟩ = some (.int .i64 a1_1) := (blk_cell BK560.out 1).trans rfl
     have hcz10_2 : w4.cell? ⟨gb560, 2, none⟩ = some (.int .i64 a1_2) := (blk_cell BK560.out 2).trans rfl
     have hfz10_0 := blk_frozen BK560.out 0
     have hfz10_1 := blk_frozen BK560.out 1
     have hfz10_2 := blk_frozen BK560.out 2
     go_wp2
     go_meet
     case rel => exact ⟨_, (true), G.tr, H', ⟨by first | omega | exact Nat.le_refl _⟩, ⟨G.kB BK560.out⟩, ⟨G.bes GE560.out⟩⟩
    ·rw [if_neg c9] at H
     have c9b0 : decide ((l0.length : Int) < a1_1) = false := decide_eq_false c9
     clear c9
     by_cases c11 : a1_2 < 1
     ·rw [if_pos c11] at H
      have c11b0 : decide (a1_2 < 1) = true := decide_eq_true c11
      clear c11
      have H' := G.a H
      clear H
      have hcz12_0 : w4.cell? ⟨gb560, 0, none⟩ = some (.int .i64 a1_0) := (blk_cell BK560.out 0).trans rfl
      have hcz12_1 : w4.cell? ⟨gb560, 1, none⟩ = some (.int .i64 a1_1) := (blk_cell BK560.out 1).trans rfl
      have hcz12_2 : w4.cell? ⟨gb560, 2, none⟩ = some (.int .i64 a1_2) := (blk_cell BK560.out 2).trans rfl
      have hfz12_0 := blk_frozen BK560.out 0
      have hfz12_1 := blk_frozen BK560.out 1
      have hfz12_2 := blk_frozen BK560.out 2
      go_wp2
      go_meet
      case rel => exact ⟨_, (true), G.tr, H', ⟨by first | omega | exact Nat.le_refl _⟩, ⟨G.kB BK560.out⟩, ⟨G.bes GE560.out⟩⟩
     ·rw [if_neg c11] at H
      have c11b0 : decide (a1_2 < 1) = false := decide_eq_false c11
      clear c11
      by_cases c13 : a1_2 > (l0.length : Int)
      ·rw [if_pos c13] at H
       have c13b0 : decide ((l0.length : Int) < a1_2) = true := decide_eq_true c13
       clear c13
       have H' := G.a H
       clear H
       have hcz14_0 : w4.cell? ⟨gb560, 0, none⟩ = some (.int .i64 a1_0) := (blk_cell BK560.out 0).trans rfl
       have hcz14_1 : w4.cell? ⟨gb560, 1, none⟩ = some (.int .i64 a1_1) := (blk_cell BK560.out 1).trans rfl
       have hcz14_2 : w4.cell? ⟨gb560, 2, none⟩ = some (.int .i64 a1_2) := (blk_cell BK560.out 2).trans rfl
       have hfz14_0 := blk_frozen BK560.out 0
       have hfz14_1 := blk_frozen BK560.out 1
       have hfz14_2 := blk_frozen BK560.out 2
       go_wp2
       go_meet
       case rel => exact ⟨_, (true), G.tr, H', ⟨by first | omega | exact Nat.le_refl _⟩, ⟨G.kB BK560.out⟩, ⟨G.bes GE560.out⟩⟩
      ·rw [if_neg c13] at H
       have c13b0 : decide ((l0.length : Int) < a1_2) = false := decide_eq_false c13
       clear c13
       by_cases c15 : (wrap64 (a1_1 - a1_0)) < (wrap64 (2 * a1_2))
       ·rw [if_pos c15] at H
        have c15b0 : decide ((wrap64 (a1_1 - a1_0)) < (wrap64 (2 * a1_2))) = true := decide_eq_true c15
        clear c15
        have H' := G.a H
        clear H
        have hcz16_0 : w4.cell? ⟨gb560, 0, none⟩ = some (.int .i64 a1_0) := (blk_cell BK560.out 0).trans rfl
        have hcz16_1 : w4.cell? ⟨gb560, 1, none⟩ = some (.int .i64 a1_1) := (blk_cell BK560.out 1).trans rfl
        have hcz16_2 : w4.cell? ⟨gb560, 2, none⟩ = some (.int .i64 a1_2) := (blk_cell BK560.out 2).trans rfl
        have hfz16_0 := blk_frozen BK560.out 0
        have hfz16_1 := blk_frozen BK560.out 1
        have hfz16_2 := blk_frozen BK560.out 2
        go_wp2
        go_meet
        case rel => exact ⟨_, (true), G.tr, H', ⟨by first | omega | exact Nat.le_refl _⟩, ⟨G.kB BK560.out⟩, ⟨G.bes GE560.out⟩⟩
       ·rw [if_neg c15] at H
        have c15b0 : decide ((wrap64 (a1_1 - a1_0)) < (wrap64 (2 * a1_2))) = false := decide_eq_false c15
        clear c15
        have H' := G.a H
        clear H
        have hcz17_0 : w4.cell? ⟨gb560, 0, none⟩ = some (.int .i64 a1_0) := (blk_cell BK560.out 0).trans rfl
        have hcz17_1 : w4.cell? ⟨gb560, 1, none⟩ = some (.int .i64 a1_1) := (blk_cell BK560.out 1).trans rfl
        have hcz17_2 : w4.cell? ⟨gb560, 2, none⟩ = some (.int .i64 a1_2) := (blk_cell BK560.out 2).trans rfl
        have hfz17_0 := blk_frozen BK560.out 0
        have hfz17_1 := blk_frozen BK560.out 1
        have hfz17_2 := blk_frozen BK560.out 2
        go_wp2
        go_meet
        case rel => exact ⟨_, (decide ((l0.length : Int) > 64)), G.tr, H', ⟨by first | omega | exact Nat.le_refl _⟩, ⟨G.kB BK560.out⟩, ⟨G.bes GE560.out⟩⟩
 case rest =>
  clear HC3
  try clear c1; try clear c2; try clear p2; try clear c5; try clear c5b0; try clear p6; try clear c7; try clear c7b0; try clear c9; try clear c9b0; try clear c11; try clear c11b0; try clear c13; try clear c13b0; try clear c15; try clear c15b0; try clear hcz10_0; try clear hcz10_1; try clear hcz10_2; try clear hcz12_0; try clear hcz12_1; try clear hcz12_2; try clear hcz14_0; try clear hcz14_1; try clear hcz14_2; try clear hcz16_0; try clear hcz16_1; try clear hcz16_2; try clear hcz17_0; try clear hcz17_1; try clear hcz17_2; try clear hcz6_0; try clear hcz6_1; try clear hcz6_2; try clear hcz8_0; try clear hcz8_1; try clear hcz8_2; try clear hfz10_0; try clear hfz10_1; try clear hfz10_2; try clear hfz12_0; try clear hfz12_1; try clear hfz12_2; try clear hfz14_0; try clear hfz14_1; try clear hfz14_2; try clear hfz16_0; try clear hfz16_1; try clear hfz16_2; try clear hfz17_0; try clear hfz17_1; try clear hfz17_2; try clear hfz6_0; try clear hfz6_1; try clear hfz6_2; try clear hfz8_0; try clear hfz8_1; try clear hfz8_2
  obtain ⟨kq, x51_2, rfl, HA, HJ2, BK560, HB⟩ := hcut
  cases kq with
  | zero => exact absurd HA.out (by simp [spec_IsRun.j0])
  | succ kj2 =>
   have H := HA.out
   clear HA
   simp only [spec_IsRun.j0] at H
   by_cases c18 : x51_2 = true
   ·subst c18
    rw [if_pos rfl] at H
    obtain rfl := Option.some.inj H
    go_wp2
    go_ret
    exact ⟨G.er, G.bes GE560.out⟩
   ·replace c18 := Bool.eq_false_iff.mpr c18
    subst c18
    rw [if_neg (show ¬ (false = true) by decide)] at H
    by_cases c19 : 0 ≤ a1_0
    ·rw [if_pos c19] at H
     have c19b0 := eq_true c19
     have c19b1 : decide (0 ≤ a1_0) = true := decide_eq_true c19
     clear c19
     by_cases c20 : a1_0 ≤ a1_1
     ·rw [if_pos c20] at H
      have c20b0 := eq_true c20
      have c20b1 : decide (a1_0 ≤ a1_1) = true := decide_eq_true c20
      clear c20
      by_cases c21 : a1_1 ≤ (l0.length : Int)
      ·rw [if_pos c21] at H
       have c21b0 := eq_true c21
       have c21b1 : decide (a1_1 ≤ (l0.length : Int)) = true := decide_eq_true c21
       clear c21
       obtain ⟨t562, A22, H⟩ := G.bx H
       by_cases c23 : t562 = a1_2
       ·rw [if_pos c23] at H
        have c23b0 : (t562 == a1_2) = true := beq_iff_eq.mpr c23
        have c23b1 : (t562 != a1_2) = false := bne_eq_false_iff_eq.mpr c23
        clear c23
        by_cases c24 : a1_0 > 0
        ·rw [if_pos c24] at H
         have c24b0 : decide (0 < a1_0) = true := decide_eq_true c24
         clear c24
         obtain ⟨ji25, hji25⟩ : ∃ j_ : Int, (wrap64 (a1_0 - 1)) = j_ := ⟨_, rfl⟩
         replace H : (if 0 ≤ (ji25) then (if (ji25) < (l0.length : Int) then (if 0 ≤ (wrap64 ((ji25) + a1_2)) then (if (wrap64 ((ji25) + a1_2)) < (l0.length : Int) then (if a1_1 < (l0.length : Int) then (if 0 ≤ a1_1 then (if 0 ≤ (wrap64 (a1_1 - a1_2)) then (if (wrap64 (a1_1 - a1_2)) < (l0.length : Int) then (if ((rd l0 (ji25)) = (rd l0 (wrap64 ((ji25) + a1_2)))) then (some false) else (some (!((rd l0 a1_1) == (rd l0 (wrap64 (a1_1 - a1_2))))))) else (none)) else (none)) else (none)) else (if ((rd l0 (ji25)) = (rd l0 (wrap64 ((ji25) + a1_2)))) then (some false) else (some (!false)))) else (none)) else (none)) else (none)) else (none)) = some r := by first | (rw [hji25] at H; exact H) | (simp only [hji25] at H ⊢; exact H)
         (try rw [hji25] at A22)
         have hji25w : (IntKind.i64.wrap (a1_0 - 1)) = ji25 := (i64_w _).trans hji25
         by_cases c26 : 0 ≤ (ji25)
         ·rw [if_pos c26] at H
          have c26b0 : decide (0 ≤ (ji25)) = true := decide_eq_true c26
          clear c26
          by_cases c27 : (ji25) < (l0.length : Int)
          ·rw [if_pos c27] at H
           have c27b0 : decide ((ji25) < (l0.length : Int)) = true := decide_eq_true c27
           clear c27
           obtain ⟨ji28, hji28⟩ : ∃ j_ : Int, (wrap64 ((ji25) + a1_2)) = j_ := ⟨_, rfl⟩
           replace H : (if 0 ≤ (ji28) then (if (ji28) < (l0.length : Int) then (if a1_1 < (l0.length : Int) then (if 0 ≤ a1_1 then (if 0 ≤ (wrap64 (a1_1 - a1_2)) then (if (wrap64 (a1_1 - a1_2)) < (l0.length : Int) then (if ((rd l0 (ji25)) = (rd l0 (ji28))) then (some false) else (some (!((rd l0 a1_1) == (rd l0 (wrap64 (a1_1 - a1_2))))))) else (none)) else (none)) else (none)) else (if ((rd l0 (ji25)) = (rd l0 (ji28))) then (some false) else (some (!false)))) else (none)) else (none)) = some r := by first | (rw [hji28] at H; exact H) | (simp only [hji28] at H ⊢; exact H)
           (try rw [hji28] at A22)
           have hji28w : (IntKind.i64.wrap ((ji25) + a1_2)) = ji28 := (i64_w _).trans hji28
           by_cases c29 : 0 ≤ (ji28)
           ·rw [if_pos c29] at H
            have c29b0 : decide (0 ≤ (ji28)) = true := decide_eq_true c29
            clear c29
            by_cases c30 : (ji28) < (l0.length : Int)
            ·rw [if_pos c30] at H
             have c30b0 : decide ((ji28) < (l0.length : Int)) = true := decide_eq_true c30
             clear c30
             by_cases c31 : a1_1 < (l0.length : Int)
             ·rw [if_pos c31] at H
              have c31b0 : decide (a1_1 < (l0.length : Int)) = true := decide_eq_true c31
              clear c31
              by_cases c32 : 0 ≤ a1_1
              ·rw [if_pos c32] at H
               have c32b0 : decide (0 ≤ a1_1) = true := decide_eq_true c32
               clear c32
               obtain ⟨ji33, hji33⟩ : ∃ j_ : Int, (wrap64 (a1_1 - a1_2)) = j_ := ⟨_, rfl⟩
               replace H : (if 0 ≤ (ji33) then (if (ji33) < (l0.length : Int) then (if ((rd l0 (ji25)) = (rd l0 (ji28))) then (some false) else (some (!((rd l0 a1_1) == (rd l0 (ji33)))))) else (none)) else (none)) = some r := by first | (rw [hji33] at H; exact H) | (simp only [hji33] at H ⊢; exact H)
               (try rw [hji33] at A22)
               have hji33w : (IntKind.i64.wrap (a1_1 - a1_2)) = ji33 := (i64_w _).trans hji33
               by_cases c34 : 0 ≤ (ji33)
               ·rw [if_pos c34] at H
                have c34b0 : decide (0 ≤ (ji33)) = true := decide_eq_true c34
                clear c34
                by_cases c35 : (ji33) < (l0.length : Int)
                ·rw [if_pos c35] at H
                 have c35b0 : decide ((ji33) < (l0.length : Int)) = true := decide_eq_true c35
                 clear c35
                 by_cases c36 : ((rd l0 (ji25)) = (rd l0 (ji28)))
                 ·rw [if_pos c36] at H
                  have c36b0 : ((rd l0 (ji25)) == (rd l0 (ji28))) = true := beq_iff_eq.mpr c36
                  have c36b1 : ((rd l0 (ji25)) != (rd l0 (ji28))) = false := bne_eq_false_iff_eq.mpr c36
                  clear c36
                  obtain rfl := Option.some.inj H
                  try go_wp2
                  have n0_ := G.a (blk_drew BK560.out)
                  have n1_ := G.a (below_drew1 HB.out)
                  clear BK560
                  clear HB
                  have BK560 := n0_
                  have HB := n1_
                  clear n0_ n1_
                  obtain ⟨i038, hi038, _, hsz38, _⟩ := info_parts info3
                  obtain ⟨A38, hcut38, hA38, hC38⟩ := print_mid_of (P := Tryz.prog) (Value.int .i64) 0 24 3 .i64 .i64 Tryz.underlying24 hi038 hsz38 A0 c0 l0 a1_0 a1_1 G.odt (by first | omega | exact G.odt) G.odt HC0.out
                  have HR561 := G.a (Kd.C_of_reads (h1 := fun _ => rfl) (hA38 _ (Kd.reads_of_C HR0.out)))
                  have HC561 := G.a hC38
                  clear hA38 hC38 hi038 hsz38
                  refine start_ (n := 10) (S := fun w' => w'.cell? ⟨gb560, 0, none⟩ = some (.int .i64 a1_0) ∧ w'.cell? ⟨gb560, 1, none⟩ = some (.int .i64 a1_1) ∧ w'.cell? ⟨gb560, 2, none⟩ = some (.int .i64 a1_2)) (ds := []) #[false, false, false, false, false, false, false, false, false, false] (by kernel_rfl) rfl rfl ⟨(blk_cell BK560.out 0).trans rfl, (blk_cell BK560.out 1).trans rfl, (blk_cell BK560.out 2).trans rfl⟩ (fun hHeld => ?_); refine with_tabW spec_IsRun.tab3 spec_IsRun.bits3 (fun HT_ HW_ => ?_)
                  generalize wc.drew = w37 at BK560 HB HR561 hHeld ⊢
                  refine G.pu 0 52 (G.bs 10 1) ?_
                  refine G.pu 1 53 (G.bs 10 3) ?_
                  refine G.pu 3 55 (G.bs 10 11) ?_
                  refine G.pu 7 59 (G.bs 10 139) ?_
                  refine G.tk 2 54 (G.bs 10 143) rfl (by rintro w' ⟨s0, s1, s2⟩; go_simp; with_reducible rfl) ?_
                  refine G.tk 4 56 (G.bs 10 159) rfl (by rintro w' ⟨s0, s1, s2⟩; go_simp; with_reducible rfl) ?_
                  refine G.pu 5 57 (G.bs 10 191) ?_
                  refine G.tk 8 60 (G.bs 10 447) rfl (by rintro w' ⟨s0, s1, s2⟩; go_simp; with_reducible rfl) ?_
                  refine one_ (i := 6) (N := some 58) (G.bs 10 511) rfl rfl (one_of HT_.out (by kernel_rfl)) (by decide) (fun K hK => ?_)
                  refine goes_ Tryz.func30 (by kernel_rfl) rfl #[.slice A38 ((l0.take (a1_1 : Int).toNat).drop (a1_0 : Int).toNat).length (c0 - a1_0.toNat)] (by rfl) rfl rfl (by (try simp only [List.map_toArray, List.map_cons, List.map_nil]); first | done | (rw [show ((l0.take (a1_1 : Int).toNat).drop (a1_0 : Int).toNat).length = (a1_1.toNat - a1_0.toNat) from (by rw [List.length_drop, List.length_take]; have h_ : (a1_1 : Int) ≤ (l0.length : Int) := G.odt; omega)] <;> rfl) | rfl | (simp only [List.length_drop, List.length_take]; rfl)) ?_
                  with_reducible refine (spec_LeastPeriod.calls kj2 _ _ ((l0.take (a1_1 : Int).toNat).drop (a1_0 : Int).toNat) t562 _ ?side1 ?side2 A22.out).mono ?_
                  (case side1 => exact G.kC (Kd.C_below HR561.out HB.out))
                  (case side2 => exact HC561.out)
                  rintro e w39 ⟨rfl, hb⟩
                  refine ⟨_, rfl, ?_⟩
                  have n0_ := G.a (blk_below (g := gb560) (o := .cells #[.int .i64 a1_0, .int .i64 a1_1, .int .i64 a1_2] 32 (0, 0)) (G.kB BK560.out) hb)
                  have n1_ := G.a (below_step (G.bes GE560.out) hb)
                  clear BK560
                  clear HB
                  have BK560 := n0_
                  have HB := n1_
                  clear n0_ n1_
                  (try clear hb)
                  (try clear hb2)
                  (try clear hk)
                  (try clear hi)
                  refine hK.out _ _ ⟨(blk_cell BK560.out 0).trans rfl, (blk_cell BK560.out 1).trans rfl, (blk_cell BK560.out 2).trans rfl⟩ (fun hHeld => ?_)
                  clear hK K
                  refine norm_ (a' := ?_) ?_ ?_
                  rotate_left
                  ·show Act.put _ (some 58) _ = _
                   simp only [Act.put, List.setIfInBounds_toArray, List.set_cons_zero, List.set_cons_succ, i64_w, i32_w]
                   rfl
                  refine G.pu 9 61 (G.bs 10 1023) ?_
                  refine done_ (done_of HT_.out (by kernel_rfl)) ?_
                  try go_wp2
                  have n0_ := G.a (blk_drew BK560.out)
                  have n1_ := G.a (below_drew1 HB.out)
                  clear BK560
                  clear HB
                  have BK560 := n0_
                  have HB := n1_
                  clear n0_ n1_
                  have p563 : 0 ≤ ((ji25) : Int) := G.odt
                  have q563 : (ji25) < (l0.length : Int) := G.odt
                  obtain ⟨ad563, e563, hx563_0⟩ := Kd.at_int HR0.out (ji25) p563 q563
                  have hw563_0 := hx563_0
                  cases e563
                  replace hx563_0 := (HB.out.cell (World.block_lt_of_cell? w _ hx563_0)).trans hx563_0
                  replace p563 := eq_true p563
                  replace q563 := eq_true q563
                  have p564 : 0 ≤ ((ji28) : Int) := G.odt
                  have q564 : (ji28) < (l0.length : Int) := G.odt
                  obtain ⟨ad564, e564, hx564_0⟩ := Kd.at_int HR0.out (ji28) p564 q564
                  have hw564_0 := hx564_0
                  obtain rfl : ad563 = ad564 := (by injection e564)
                  replace hx564_0 := (HB.out.cell (World.block_lt_of_cell? w _ hx564_0)).trans hx564_0
                  replace p564 := eq_true p564
                  replace q564 := eq_true q564
                  refine start_ (n := 22) (S := fun w' => w'.cell? ⟨gb560, 0, none⟩ = some (.int .i64 a1_0) ∧ w'.cell? ⟨gb560, 1, none⟩ = some (.int .i64 a1_1) ∧ w'.cell? ⟨gb560, 2, none⟩ = some (.int .i64 a1_2) ∧ w'.cell? (ad563.add ((ji25)).toNat) = some (.int .i64 (rd l0 (ji25))) ∧ w'.cell? (ad563.add ((ji28)).toNat) = some (.int .i64 (rd l0 (ji28)))) (ds := []) #[false, false, false, false, false, false, false, false, false, false, false, false, false, false, false, false, false, false, false, false, false, false] (by kernel_rfl) rfl rfl ⟨(blk_cell BK560.out 0).trans rfl, (blk_cell BK560.out 1).trans rfl, (blk_cell BK560.out 2).trans rfl, ((HB.out.cell (World.block_lt_of_cell? w _ hw563_0)).trans hw563_0), ((HB.out.cell (World.block_lt_of_cell? w _ hw564_0)).trans hw564_0)⟩ (fun hHeld => ?_); refine with_tabW spec_IsRun.tab5 spec_IsRun.bits5 (fun HT_ HW_ => ?_)
                  generalize w39.drew = w40 at BK560 HB hx563_0 hx564_0 hHeld ⊢
                  refine G.pu 0 62 (G.bs 22 1) ?_
                  refine G.tk 1 63 (G.bs 22 3) rfl (by rintro w' ⟨s0, s1, s2, s3, s4⟩; go_simp; with_reducible rfl) ?_
                  refine G.pu 2 64 (G.bs 22 7) ?_
                  refine G.pu 3 65 (G.bs 22 15) ?_
                  refine G.pu 4 66 (G.bs 22 31) ?_
                  refine G.pu 5 67 (G.bs 22 63) ?_
                  refine G.pu 10 72 (G.bs 22 1087) ?_
                  refine G.pu 11 73 (G.bs 22 3135) ?_
                  refine G.pu 14 76 (G.bs 22 19519) ?_
                  refine G.tk 6 68 (G.bs 22 19583) rfl (by rintro w' ⟨s0, s1, s2, s3, s4⟩; go_simp; with_reducible rfl) ?_
                  refine G.pu 7 69 (G.bs 22 19711) ?_
                  refine G.pu 8 70 (G.bs 22 19967) ?_
                  refine G.tk 9 71 (G.bs 22 20479) rfl (by rintro w' ⟨s0, s1, s2, s3, s4⟩; go_simp; with_reducible rfl) ?_
                  refine G.tk 12 74 (G.bs 22 24575) rfl (by rintro w' ⟨s0, s1, s2, s3, s4⟩; go_simp; with_reducible rfl) ?_
                  refine G.pu 13 75 (G.bs 22 32767) ?_
                  refine G.tk 15 77 (G.bs 22 65535) rfl (by rintro w' ⟨s0, s1, s2, s3, s4⟩; go_simp; with_reducible rfl) ?_
                  refine G.pu 16 78 (G.bs 22 131071) ?_
                  refine G.pu 17 79 (G.bs 22 262143) ?_
                  refine G.tk 18 80 (G.bs 22 524287) rfl (by rintro w' ⟨s0, s1, s2, s3, s4⟩; go_simp; with_reducible rfl) ?_
                  refine G.pu 19 81 (G.bs 22 1048575) ?_
                  refine G.pu 20 82 (G.bs 22 2097151) ?_
                  refine G.pu 21 5 (G.bs 22 4194303) ?_
                  refine done_ (done_of HT_.out (by kernel_rfl)) ?_
                  try go_wp2
                  have n0_ := G.a (blk_drew BK560.out)
                  have n1_ := G.a (below_drew1 HB.out)
                  clear BK560
                  clear HB
                  have BK560 := n0_
                  have HB := n1_
                  clear n0_ n1_
                  have p565 : 0 ≤ (a1_1 : Int) := G.odt
                  have q565 : a1_1 < (l0.length : Int) := G.odt
                  obtain ⟨ad565, e565, hx565_0⟩ := Kd.at_int HR0.out a1_1 p565 q565
                  have hw565_0 := hx565_0
                  obtain rfl : ad563 = ad565 := (by injection e565)
                  replace hx565_0 := (HB.out.cell (World.block_lt_of_cell? w _ hx565_0)).trans hx565_0
                  replace p565 := eq_true p565
                  replace q565 := eq_true q565
                  have p566 : 0 ≤ ((ji33) : Int) := G.odt
                  have q566 : (ji33) < (l0.length : Int) := G.odt
                  obtain ⟨ad566, e566, hx566_0⟩ := Kd.at_int HR0.out (ji33) p566 q566
                  have hw566_0 := hx566_0
                  obtain rfl : ad563 = ad566 := (by injection e566)
                  replace hx566_0 := (HB.out.cell (World.block_lt_of_cell? w _ hx566_0)).trans hx566_0
                  replace p566 := eq_true p566
                  replace q566 := eq_true q566
                  refine start_ (n := 22) (S := fun w' => w'.cell? ⟨gb560, 0, none⟩ = some (.int .i64 a1_0) ∧ w'.cell? ⟨gb560, 1, none⟩ = some (.int .i64 a1_1) ∧ w'.cell? ⟨gb560, 2, none⟩ = some (.int .i64 a1_2) ∧ w'.cell? (ad563.add (a1_1).toNat) = some (.int .i64 (rd l0 a1_1)) ∧ w'.cell? (ad563.add ((ji33)).toNat) = some (.int .i64 (rd l0 (ji33)))) (ds := []) #[false, false, false, false, false, false, false, false, false, false, false, false, false, false, false, false, false, false, false, false, false, false] (by kernel_rfl) rfl rfl ⟨(blk_cell BK560.out 0).trans rfl, (blk_cell BK560.out 1).trans rfl, (blk_cell BK560.out 2).trans rfl, ((HB.out.cell (World.block_lt_of_cell? w _ hw565_0)).trans hw565_0), ((HB.out.cell (World.block_lt_of_cell? w _ hw566_0)).trans hw566_0)⟩ (fun hHeld => ?_); refine with_tabW spec_IsRun.tab6 spec_IsRun.bits6 (fun HT_ HW_ => ?_)
                  generalize w40.drew = w41 at BK560 HB hx565_0 hx566_0 hHeld ⊢
                  refine G.pu 0 83 (G.bs 22 1) ?_
                  refine G.pu 2 85 (G.bs 22 5) ?_
                  refine G.pu 3 86 (G.bs 22 13) ?_
                  refine G.tk 1 84 (G.bs 22 15) rfl (by rintro w' ⟨s0, s1, s2, s3, s4⟩; go_simp; with_reducible rfl) ?_
                  refine G.pu 4 87 (G.bs 22 31) ?_
                  refine G.pu 5 88 (G.bs 22 63) ?_
                  refine G.pu 6 89 (G.bs 22 127) ?_
                  refine G.pu 7 90 (G.bs 22 255) ?_
                  refine G.pu 11 94 (G.bs 22 2303) ?_
                  refine G.pu 12 95 (G.bs 22 6399) ?_
                  refine G.pu 14 97 (G.bs 22 22783) ?_
                  refine G.tk 8 91 (G.bs 22 23039) rfl (by rintro w' ⟨s0, s1, s2, s3, s4⟩; go_simp; with_reducible rfl) ?_
                  refine G.pu 9 92 (G.bs 22 23551) ?_
                  refine G.tk 10 93 (G.bs 22 24575) rfl (by rintro w' ⟨s0, s1, s2, s3, s4⟩; go_simp; with_reducible rfl) ?_
                  refine G.tk 13 96 (G.bs 22 32767) rfl (by rintro w' ⟨s0, s1, s2, s3, s4⟩; go_simp; with_reducible rfl) ?_
                  refine G.tk 15 98 (G.bs 22 65535) rfl (by rintro w' ⟨s0, s1, s2, s3, s4⟩; go_simp; with_reducible rfl) ?_
                  refine G.pu 16 99 (G.bs 22 131071) ?_
                  refine G.pu 17 100 (G.bs 22 262143) ?_
                  refine G.tk 18 101 (G.bs 22 524287) rfl (by rintro w' ⟨s0, s1, s2, s3, s4⟩; go_simp; with_reducible rfl) ?_
                  refine G.pu 19 102 (G.bs 22 1048575) ?_
                  refine G.pu 20 103 (G.bs 22 2097151) ?_
                  refine G.pu 21 6 (G.bs 22 4194303) ?_
                  refine done_ (done_of HT_.out (by kernel_rfl)) ?_
                  try go_wp2
                  go_ret
                  exact ⟨by first | rfl | (simp [errW_none, errW_some] <;> rfl) | (simp only [← hji25, ← hji28, ← hji33]; first | rfl | (simp [errW_none, errW_some] <;> rfl)) | (simp [*, errW_none, errW_some] <;> rfl), G.bes GE560.out⟩
                 ·rw [if_neg c36] at H
                  have c36b0 : ((rd l0 (ji25)) == (rd l0 (ji28))) = false := beq_eq_false_iff_ne.mpr c36
                  have c36b1 : ((rd l0 (ji25)) != (rd l0 (ji28))) = true := bne_iff_ne.mpr c36
                  obtain rfl := Option.some.inj H
                  try go_wp2
                  have n0_ := G.a (blk_drew BK560.out)
                  have n1_ := G.a (below_drew1 HB.out)
                  clear BK560
                  clear HB
                  have BK560 := n0_
                  have HB := n1_
                  clear n0_ n1_
                  obtain ⟨i043, hi043, _, hsz43, _⟩ := info_parts info3
                  obtain ⟨A43, hcut43, hA43, hC43⟩ := print_mid_of (P := Tryz.prog) (Value.int .i64) 0 24 3 .i64 .i64 Tryz.underlying24 hi043 hsz43 A0 c0 l0 a1_0 a1_1 G.odt (by first | omega | exact G.odt) G.odt HC0.out
                  have HR561 := G.a (Kd.C_of_reads (h1 := fun _ => rfl) (hA43 _ (Kd.reads_of_C HR0.out)))
                  have HC561 := G.a hC43
                  clear hA43 hC43 hi043 hsz43
                  refine start_ (n := 10) (S := fun w' => w'.cell? ⟨gb560, 0, none⟩ = some (.int .i64 a1_0) ∧ w'.cell? ⟨gb560, 1, none⟩ = some (.int .i64 a1_1) ∧ w'.cell? ⟨gb560, 2, none⟩ = some (.int .i64 a1_2)) (ds := []) #[false, false, false, false, false, false, false, false, false, false] (by kernel_rfl) rfl rfl ⟨(blk_cell BK560.out 0).trans rfl, (blk_cell BK560.out 1).trans rfl, (blk_cell BK560.out 2).trans rfl⟩ (fun hHeld => ?_); refine with_tabW spec_IsRun.tab3 spec_IsRun.bits3 (fun HT_ HW_ => ?_)
                  generalize wc.drew = w42 at BK560 HB HR561 hHeld ⊢
                  refine G.pu 0 52 (G.bs 10 1) ?_
                  refine G.pu 1 53 (G.bs 10 3) ?_
                  refine G.pu 3 55 (G.bs 10 11) ?_
                  refine G.pu 7 59 (G.bs 10 139) ?_
                  refine G.tk 2 54 (G.bs 10 143) rfl (by rintro w' ⟨s0, s1, s2⟩; go_simp; with_reducible rfl) ?_
                  refine G.tk 4 56 (G.bs 10 159) rfl (by rintro w' ⟨s0, s1, s2⟩; go_simp; with_reducible rfl) ?_
                  refine G.pu 5 57 (G.bs 10 191) ?_
                  refine G.tk 8 60 (G.bs 10 447) rfl (by rintro w' ⟨s0, s1, s2⟩; go_simp; with_reducible rfl) ?_
                  refine one_ (i := 6) (N := some 58) (G.bs 10 511) rfl rfl (one_of HT_.out (by kernel_rfl)) (by decide) (fun K hK => ?_)
                  refine goes_ Tryz.func30 (by kernel_rfl) rfl #[.slice A43 ((l0.take (a1_1 : Int).toNat).drop (a1_0 : Int).toNat).length (c0 - a1_0.toNat)] (by rfl) rfl rfl (by (try simp only [List.map_toArray, List.map_cons, List.map_nil]); first | done | (rw [show ((l0.take (a1_1 : Int).toNat).drop (a1_0 : Int).toNat).length = (a1_1.toNat - a1_0.toNat) from (by rw [List.length_drop, List.length_take]; have h_ : (a1_1 : Int) ≤ (l0.length : Int) := G.odt; omega)] <;> rfl) | rfl | (simp only [List.length_drop, List.length_take]; rfl)) ?_
                  with_reducible refine (spec_LeastPeriod.calls kj2 _ _ ((l0.take (a1_1 : Int).toNat).drop (a1_0 : Int).toNat) t562 _ ?side1 ?side2 A22.out).mono ?_
                  (case side1 => exact G.kC (Kd.C_below HR561.out HB.out))
                  (case side2 => exact HC561.out)
                  rintro e w44 ⟨rfl, hb⟩
                  refine ⟨_, rfl, ?_⟩
                  have n0_ := G.a (blk_below (g := gb560) (o := .cells #[.int .i64 a1_0, .int .i64 a1_1, .int .i64 a1_2] 32 (0, 0)) (G.kB BK560.out) hb)
                  have n1_ := G.a (below_step (G.bes GE560.out) hb)
                  clear BK560
                  clear HB
                  have BK560 := n0_
                  have HB := n1_
                  clear n0_ n1_
                  (try clear hb)
                  (try clear hb2)
                  (try clear hk)
                  (try clear hi)
                  refine hK.out _ _ ⟨(blk_cell BK560.out 0).trans rfl, (blk_cell BK560.out 1).trans rfl, (blk_cell BK560.out 2).trans rfl⟩ (fun hHeld => ?_)
                  clear hK K
                  refine norm_ (a' := ?_) ?_ ?_
                  rotate_left
                  ·show Act.put _ (some 58) _ = _
                   simp only [Act.put, List.setIfInBounds_toArray, List.set_cons_zero, List.set_cons_succ, i64_w, i32_w]
                   rfl
                  refine G.pu 9 61 (G.bs 10 1023) ?_
                  refine done_ (done_of HT_.out (by kernel_rfl)) ?_
                  try go_wp2
                  have n0_ := G.a (blk_drew BK560.out)
                  have n1_ := G.a (below_drew1 HB.out)
                  clear BK560
                  clear HB
                  have BK560 := n0_
                  have HB := n1_
                  clear n0_ n1_
                  have p563 : 0 ≤ ((ji25) : Int) := G.odt
                  have q563 : (ji25) < (l0.length : Int) := G.odt
                  obtain ⟨ad563, e563, hx563_0⟩ := Kd.at_int HR0.out (ji25) p563 q563
                  have hw563_0 := hx563_0
                  cases e563
                  replace hx563_0 := (HB.out.cell (World.block_lt_of_cell? w _ hx563_0)).trans hx563_0
                  replace p563 := eq_true p563
                  replace q563 := eq_true q563
                  have p564 : 0 ≤ ((ji28) : Int) := G.odt
                  have q564 : (ji28) < (l0.length : Int) := G.odt
                  obtain ⟨ad564, e564, hx564_0⟩ := Kd.at_int HR0.out (ji28) p564 q564
                  have hw564_0 := hx564_0
                  obtain rfl : ad563 = ad564 := (by injection e564)
                  replace hx564_0 := (HB.out.cell (World.block_lt_of_cell? w _ hx564_0)).trans hx564_0
                  replace p564 := eq_true p564
                  replace q564 := eq_true q564
                  refine start_ (n := 22) (S := fun w' => w'.cell? ⟨gb560, 0, none⟩ = some (.int .i64 a1_0) ∧ w'.cell? ⟨gb560, 1, none⟩ = some (.int .i64 a1_1) ∧ w'.cell? ⟨gb560, 2, none⟩ = some (.int .i64 a1_2) ∧ w'.cell? (ad563.add ((ji25)).toNat) = some (.int .i64 (rd l0 (ji25))) ∧ w'.cell? (ad563.add ((ji28)).toNat) = some (.int .i64 (rd l0 (ji28)))) (ds := []) #[false, false, false, false, false, false, false, false, false, false, false, false, false, false, false, false, false, false, false, false, false, false] (by kernel_rfl) rfl rfl ⟨(blk_cell BK560.out 0).trans rfl, (blk_cell BK560.out 1).trans rfl, (blk_cell BK560.out 2).trans rfl, ((HB.out.cell (World.block_lt_of_cell? w _ hw563_0)).trans hw563_0), ((HB.out.cell (World.block_lt_of_cell? w _ hw564_0)).trans hw564_0)⟩ (fun hHeld => ?_); refine with_tabW spec_IsRun.tab5 spec_IsRun.bits5 (fun HT_ HW_ => ?_)
                  generalize w44.drew = w45 at BK560 HB hx563_0 hx564_0 hHeld ⊢
                  refine G.pu 0 62 (G.bs 22 1) ?_
                  refine G.tk 1 63 (G.bs 22 3) rfl (by rintro w' ⟨s0, s1, s2, s3, s4⟩; go_simp; with_reducible rfl) ?_
                  refine G.pu 2 64 (G.bs 22 7) ?_
                  refine G.pu 3 65 (G.bs 22 15) ?_
                  refine G.pu 4 66 (G.bs 22 31) ?_
                  refine G.pu 5 67 (G.bs 22 63) ?_
                  refine G.pu 10 72 (G.bs 22 1087) ?_
                  refine G.pu 11 73 (G.bs 22 3135) ?_
                  refine G.pu 14 76 (G.bs 22 19519) ?_
                  refine G.tk 6 68 (G.bs 22 19583) rfl (by rintro w' ⟨s0, s1, s2, s3, s4⟩; go_simp; with_reducible rfl) ?_
                  refine G.pu 7 69 (G.bs 22 19711) ?_
                  refine G.pu 8 70 (G.bs 22 19967) ?_
                  refine G.tk 9 71 (G.bs 22 20479) rfl (by rintro w' ⟨s0, s1, s2, s3, s4⟩; go_simp; with_reducible rfl) ?_
                  refine G.tk 12 74 (G.bs 22 24575) rfl (by rintro w' ⟨s0, s1, s2, s3, s4⟩; go_simp; with_reducible rfl) ?_
                  refine G.pu 13 75 (G.bs 22 32767) ?_
                  refine G.tk 15 77 (G.bs 22 65535) rfl (by rintro w' ⟨s0, s1, s2, s3, s4⟩; go_simp; with_reducible rfl) ?_
                  refine G.pu 16 78 (G.bs 22 131071) ?_
                  refine G.pu 17 79 (G.bs 22 262143) ?_
                  refine G.tk 18 80 (G.bs 22 524287) rfl (by rintro w' ⟨s0, s1, s2, s3, s4⟩; go_simp; with_reducible rfl) ?_
                  refine G.pu 19 81 (G.bs 22 1048575) ?_
                  refine G.pu 20 82 (G.bs 22 2097151) ?_
                  refine G.pu 21 5 (G.bs 22 4194303) ?_
                  refine done_ (done_of HT_.out (by kernel_rfl)) ?_
                  try go_wp2
                  have n0_ := G.a (blk_drew BK560.out)
                  have n1_ := G.a (below_drew1 HB.out)
                  clear BK560
                  clear HB
                  have BK560 := n0_
                  have HB := n1_
                  clear n0_ n1_
                  have p565 : 0 ≤ (a1_1 : Int) := G.odt
                  have q565 : a1_1 < (l0.length : Int) := G.odt
                  obtain ⟨ad565, e565, hx565_0⟩ := Kd.at_int HR0.out a1_1 p565 q565
                  have hw565_0 := hx565_0
                  obtain rfl : ad563 = ad565 := (by injection e565)
                  replace hx565_0 := (HB.out.cell (World.block_lt_of_cell? w _ hx565_0)).trans hx565_0
                  replace p565 := eq_true p565
                  replace q565 := eq_true q565
                  have p566 : 0 ≤ ((ji33) : Int) := G.odt
                  have q566 : (ji33) < (l0.length : Int) := G.odt
                  obtain ⟨ad566, e566, hx566_0⟩ := Kd.at_int HR0.out (ji33) p566 q566
                  have hw566_0 := hx566_0
                  obtain rfl : ad563 = ad566 := (by injection e566)
                  replace hx566_0 := (HB.out.cell (World.block_lt_of_cell? w _ hx566_0)).trans hx566_0
                  replace p566 := eq_true p566
                  replace q566 := eq_true q566
                  refine start_ (n := 22) (S := fun w' => w'.cell? ⟨gb560, 0, none⟩ = some (.int .i64 a1_0) ∧ w'.cell? ⟨gb560, 1, none⟩ = some (.int .i64 a1_1) ∧ w'.cell? ⟨gb560, 2, none⟩ = some (.int .i64 a1_2) ∧ w'.cell? (ad563.add (a1_1).toNat) = some (.int .i64 (rd l0 a1_1)) ∧ w'.cell? (ad563.add ((ji33)).toNat) = some (.int .i64 (rd l0 (ji33)))) (ds := []) #[false, false, false, false, false, false, false, false, false, false, false, false, false, false, false, false, false, false, false, false, false, false] (by kernel_rfl) rfl rfl ⟨(blk_cell BK560.out 0).trans rfl, (blk_cell BK560.out 1).trans rfl, (blk_cell BK560.out 2).trans rfl, ((HB.out.cell (World.block_lt_of_cell? w _ hw565_0)).trans hw565_0), ((HB.out.cell (World.block_lt_of_cell? w _ hw566_0)).trans hw566_0)⟩ (fun hHeld => ?_); refine with_tabW spec_IsRun.tab6 spec_IsRun.bits6 (fun HT_ HW_ => ?_)
                  generalize w45.drew = w46 at BK560 HB hx565_0 hx566_0 hHeld ⊢
                  refine G.pu 0 83 (G.bs 22 1) ?_
                  refine G.pu 2 85 (G.bs 22 5) ?_
                  refine G.pu 3 86 (G.bs 22 13) ?_
                  refine G.tk 1 84 (G.bs 22 15) rfl (by rintro w' ⟨s0, s1, s2, s3, s4⟩; go_simp; with_reducible rfl) ?_
                  refine G.pu 4 87 (G.bs 22 31) ?_
                  refine G.pu 5 88 (G.bs 22 63) ?_
                  refine G.pu 6 89 (G.bs 22 127) ?_
                  refine G.pu 7 90 (G.bs 22 255) ?_
                  refine G.pu 11 94 (G.bs 22 2303) ?_
                  refine G.pu 12 95 (G.bs 22 6399) ?_
                  refine G.pu 14 97 (G.bs 22 22783) ?_
                  refine G.tk 8 91 (G.bs 22 23039) rfl (by rintro w' ⟨s0, s1, s2, s3, s4⟩; go_simp; with_reducible rfl) ?_
                  refine G.pu 9 92 (G.bs 22 23551) ?_
                  refine G.tk 10 93 (G.bs 22 24575) rfl (by rintro w' ⟨s0, s1, s2, s3, s4⟩; go_simp; with_reducible rfl) ?_
                  refine G.tk 13 96 (G.bs 22 32767) rfl (by rintro w' ⟨s0, s1, s2, s3, s4⟩; go_simp; with_reducible rfl) ?_
                  refine G.tk 15 98 (G.bs 22 65535) rfl (by rintro w' ⟨s0, s1, s2, s3, s4⟩; go_simp; with_reducible rfl) ?_
                  refine G.pu 16 99 (G.bs 22 131071) ?_
                  refine G.pu 17 100 (G.bs 22 262143) ?_
                  refine G.tk 18 101 (G.bs 22 524287) rfl (by rintro w' ⟨s0, s1, s2, s3, s4⟩; go_simp; with_reducible rfl) ?_
                  refine G.pu 19 102 (G.bs 22 1048575) ?_
                  refine G.pu 20 103 (G.bs 22 2097151) ?_
                  refine G.pu 21 6 (G.bs 22 4194303) ?_
                  refine done_ (done_of HT_.out (by kernel_rfl)) ?_
                  try go_wp2
                  go_ret
                  exact ⟨by first | rfl | (simp [errW_none, errW_some] <;> rfl) | (simp only [← hji25, ← hji28, ← hji33]; first | rfl | (simp [errW_none, errW_some] <;> rfl)) | (simp [*, errW_none, errW_some] <;> rfl), G.bes GE560.out⟩
                ·rw [if_neg c35] at H
                 exact absurd H (by simp)
               ·rw [if_neg c34] at H
                exact absurd H (by simp)
              ·rw [if_neg c32] at H
               exact absurd H (by simp)
             ·rw [if_neg c31] at H
              have c31b0 : decide (a1_1 < (l0.length : Int)) = false := decide_eq_false c31
              clear c31
              by_cases c47 : ((rd l0 (ji25)) = (rd l0 (ji28)))
              ·rw [if_pos c47] at H
               have c47b0 : ((rd l0 (ji25)) == (rd l0 (ji28))) = true := beq_iff_eq.mpr c47
               have c47b1 : ((rd l0 (ji25)) != (rd l0 (ji28))) = false := bne_eq_false_iff_eq.mpr c47
               clear c47
               obtain rfl := Option.some.inj H
               try go_wp2
               have n0_ := G.a (blk_drew BK560.out)
               have n1_ := G.a (below_drew1 HB.out)
               clear BK560
               clear HB
               have BK560 := n0_
               have HB := n1_
               clear n0_ n1_
               obtain ⟨i049, hi049, _, hsz49, _⟩ := info_parts info3
               obtain ⟨A49, hcut49, hA49, hC49⟩ := print_mid_of (P := Tryz.prog) (Value.int .i64) 0 24 3 .i64 .i64 Tryz.underlying24 hi049 hsz49 A0 c0 l0 a1_0 a1_1 G.odt (by first | omega | exact G.odt) G.odt HC0.out
               have HR561 := G.a (Kd.C_of_reads (h1 := fun _ => rfl) (hA49 _ (Kd.reads_of_C HR0.out)))
               have HC561 := G.a hC49
               clear hA49 hC49 hi049 hsz49
               refine start_ (n := 10) (S := fun w' => w'.cell? ⟨gb560, 0, none⟩ = some (.int .i64 a1_0) ∧ w'.cell? ⟨gb560, 1, none⟩ = some (.int .i64 a1_1) ∧ w'.cell? ⟨gb560, 2, none⟩ = some (.int .i64 a1_2)) (ds := []) #[false, false, false, false, false, false, false, false, false, false] (by kernel_rfl) rfl rfl ⟨(blk_cell BK560.out 0).trans rfl, (blk_cell BK560.out 1).trans rfl, (blk_cell BK560.out 2).trans rfl⟩ (fun hHeld => ?_); refine with_tabW spec_IsRun.tab3 spec_IsRun.bits3 (fun HT_ HW_ => ?_)
               generalize wc.drew = w48 at BK560 HB HR561 hHeld ⊢
               refine G.pu 0 52 (G.bs 10 1) ?_
               refine G.pu 1 53 (G.bs 10 3) ?_
               refine G.pu 3 55 (G.bs 10 11) ?_
               refine G.pu 7 59 (G.bs 10 139) ?_
               refine G.tk 2 54 (G.bs 10 143) rfl (by rintro w' ⟨s0, s1, s2⟩; go_simp; with_reducible rfl) ?_
               refine G.tk 4 56 (G.bs 10 159) rfl (by rintro w' ⟨s0, s1, s2⟩; go_simp; with_reducible rfl) ?_
               refine G.pu 5 57 (G.bs 10 191) ?_
               refine G.tk 8 60 (G.bs 10 447) rfl (by rintro w' ⟨s0, s1, s2⟩; go_simp; with_reducible rfl) ?_
               refine one_ (i := 6) (N := some 58) (G.bs 10 511) rfl rfl (one_of HT_.out (by kernel_rfl)) (by decide) (fun K hK => ?_)
               refine goes_ Tryz.func30 (by kernel_rfl) rfl #[.slice A49 ((l0.take (a1_1 : Int).toNat).drop (a1_0 : Int).toNat).length (c0 - a1_0.toNat)] (by rfl) rfl rfl (by (try simp only [List.map_toArray, List.map_cons, List.map_nil]); first | done | (rw [show ((l0.take (a1_1 : Int).toNat).drop (a1_0 : Int).toNat).length = (a1_1.toNat - a1_0.toNat) from (by rw [List.length_drop, List.length_take]; have h_ : (a1_1 : Int) ≤ (l0.length : Int) := G.odt; omega)] <;> rfl) | rfl | (simp only [List.length_drop, List.length_take]; rfl)) ?_
               with_reducible refine (spec_LeastPeriod.calls kj2 _ _ ((l0.take (a1_1 : Int).toNat).drop (a1_0 : Int).toNat) t562 _ ?side1 ?side2 A22.out).mono ?_
               (case side1 => exact G.kC (Kd.C_below HR561.out HB.out))
               (case side2 => exact HC561.out)
               rintro e w50 ⟨rfl, hb⟩
               refine ⟨_, rfl, ?_⟩
               have n0_ := G.a (blk_below (g := gb560) (o := .cells #[.int .i64 a1_0, .int .i64 a1_1, .int .i64 a1_2] 32 (0, 0)) (G.kB BK560.out) hb)
               have n1_ := G.a (below_step (G.bes GE560.out) hb)
               clear BK560
               clear HB
               have BK560 := n0_
               have HB := n1_
               clear n0_ n1_
               (try clear hb)
               (try clear hb2)
               (try clear hk)
               (try clear hi)
               refine hK.out _ _ ⟨(blk_cell BK560.out 0).trans rfl, (blk_cell BK560.out 1).trans rfl, (blk_cell BK560.out 2).trans rfl⟩ (fun hHeld => ?_)
               clear hK K
               refine norm_ (a' := ?_) ?_ ?_
               rotate_left
               ·show Act.put _ (some 58) _ = _
                simp only [Act.put, List.setIfInBounds_toArray, List.set_cons_zero, List.set_cons_succ, i64_w, i32_w]
                rfl
               refine G.pu 9 61 (G.bs 10 1023) ?_
               refine done_ (done_of HT_.out (by kernel_rfl)) ?_
               try go_wp2
               have n0_ := G.a (blk_drew BK560.out)
               have n1_ := G.a (below_drew1 HB.out)
               clear BK560
               clear HB
               have BK560 := n0_
               have HB := n1_
               clear n0_ n1_
               have p563 : 0 ≤ ((ji25) : Int) := G.odt
               have q563 : (ji25) < (l0.length : Int) := G.odt
               obtain ⟨ad563, e563, hx563_0⟩ := Kd.at_int HR0.out (ji25) p563 q563
               have hw563_0 := hx563_0
               cases e563
               replace hx563_0 := (HB.out.cell (World.block_lt_of_cell? w _ hx563_0)).trans hx563_0
               replace p563 := eq_true p563
               replace q563 := eq_true q563
               have p564 : 0 ≤ ((ji28) : Int) := G.odt
               have q564 : (ji28) < (l0.length : Int) := G.odt
               obtain ⟨ad564, e564, hx564_0⟩ := Kd.at_int HR0.out (ji28) p564 q564
               have hw564_0 := hx564_0
               obtain rfl : ad563 = ad564 := (by injection e564)
               replace hx564_0 := (HB.out.cell (World.block_lt_of_cell? w _ hx564_0)).trans hx564_0
               replace p564 := eq_true p564
               replace q564 := eq_true q564
               refine start_ (n := 22) (S := fun w' => w'.cell? ⟨gb560, 0, none⟩ = some (.int .i64 a1_0) ∧ w'.cell? ⟨gb560, 1, none⟩ = some (.int .i64 a1_1) ∧ w'.cell? ⟨gb560, 2, none⟩ = some (.int .i64 a1_2) ∧ w'.cell? (ad563.add ((ji25)).toNat) = some (.int .i64 (rd l0 (ji25))) ∧ w'.cell? (ad563.add ((ji28)).toNat) = some (.int .i64 (rd l0 (ji28)))) (ds := []) #[false, false, false, false, false, false, false, false, false, false, false, false, false, false, false, false, false, false, false, false, false, false] (by kernel_rfl) rfl rfl ⟨(blk_cell BK560.out 0).trans rfl, (blk_cell BK560.out 1).trans rfl, (blk_cell BK560.out 2).trans rfl, ((HB.out.cell (World.block_lt_of_cell? w _ hw563_0)).trans hw563_0), ((HB.out.cell (World.block_lt_of_cell? w _ hw564_0)).trans hw564_0)⟩ (fun hHeld => ?_); refine with_tabW spec_IsRun.tab5 spec_IsRun.bits5 (fun HT_ HW_ => ?_)
               generalize w50.drew = w51 at BK560 HB hx563_0 hx564_0 hHeld ⊢
               refine G.pu 0 62 (G.bs 22 1) ?_
               refine G.tk 1 63 (G.bs 22 3) rfl (by rintro w' ⟨s0, s1, s2, s3, s4⟩; go_simp; with_reducible rfl) ?_
               refine G.pu 2 64 (G.bs 22 7) ?_
               refine G.pu 3 65 (G.bs 22 15) ?_
               refine G.pu 4 66 (G.bs 22 31) ?_
               refine G.pu 5 67 (G.bs 22 63) ?_
               refine G.pu 10 72 (G.bs 22 1087) ?_
               refine G.pu 11 73 (G.bs 22 3135) ?_
               refine G.pu 14 76 (G.bs 22 19519) ?_
               refine G.tk 6 68 (G.bs 22 19583) rfl (by rintro w' ⟨s0, s1, s2, s3, s4⟩; go_simp; with_reducible rfl) ?_
               refine G.pu 7 69 (G.bs 22 19711) ?_
               refine G.pu 8 70 (G.bs 22 19967) ?_
               refine G.tk 9 71 (G.bs 22 20479) rfl (by rintro w' ⟨s0, s1, s2, s3, s4⟩; go_simp; with_reducible rfl) ?_
               refine G.tk 12 74 (G.bs 22 24575) rfl (by rintro w' ⟨s0, s1, s2, s3, s4⟩; go_simp; with_reducible rfl) ?_
               refine G.pu 13 75 (G.bs 22 32767) ?_
               refine G.tk 15 77 (G.bs 22 65535) rfl (by rintro w' ⟨s0, s1, s2, s3, s4⟩; go_simp; with_reducible rfl) ?_
               refine G.pu 16 78 (G.bs 22 131071) ?_
               refine G.pu 17 79 (G.bs 22 262143) ?_
               refine G.tk 18 80 (G.bs 22 524287) rfl (by rintro w' ⟨s0, s1, s2, s3, s4⟩; go_simp; with_reducible rfl) ?_
               refine G.pu 19 81 (G.bs 22 1048575) ?_
               refine G.pu 20 82 (G.bs 22 2097151) ?_
               refine G.pu 21 5 (G.bs 22 4194303) ?_
               refine done_ (done_of HT_.out (by kernel_rfl)) ?_
               try go_wp2
               have n0_ := G.a (blk_drew BK560.out)
               have n1_ := G.a (below_drew1 HB.out)
               clear BK560
               clear HB
               have BK560 := n0_
               have HB := n1_
               clear n0_ n1_
               refine start_ (n := 22) (S := fun w' => w'.cell? ⟨gb560, 0, none⟩ = some (.int .i64 a1_0) ∧ w'.cell? ⟨gb560, 1, none⟩ = some (.int .i64 a1_1) ∧ w'.cell? ⟨gb560, 2, none⟩ = some (.int .i64 a1_2)) (ds := []) #[false, false, false, false, false, false, false, false, false, false, false, false, false, false, false, false, false, false, false, false, false, false] (by kernel_rfl) rfl rfl ⟨(blk_cell BK560.out 0).trans rfl, (blk_cell BK560.out 1).trans rfl, (blk_cell BK560.out 2).trans rfl⟩ (fun hHeld => ?_); refine with_tabW spec_IsRun.tab6 spec_IsRun.bits6 (fun HT_ HW_ => ?_)
               generalize w51.drew = w52 at BK560 HB hHeld ⊢
               refine G.pu 0 83 (G.bs 22 1) ?_
               refine G.pu 2 85 (G.bs 22 5) ?_
               refine G.pu 3 86 (G.bs 22 13) ?_
               refine G.tk 1 84 (G.bs 22 15) rfl (by rintro w' ⟨s0, s1, s2⟩; go_simp; with_reducible rfl) ?_
               refine G.pu 4 87 (G.bs 22 31) ?_
               refine G.pu 5 88 (G.bs 22 63) ?_
               refine G.pn 6 89 (G.bs 22 127) ?_
               refine G.pn 7 90 (G.bs 22 255) ?_
               refine G.pn 8 91 (G.bs 22 511) ?_
               refine G.pn 9 92 (G.bs 22 1023) ?_
               refine G.pn 10 93 (G.bs 22 2047) ?_
               refine G.pn 11 94 (G.bs 22 4095) ?_
               refine G.pn 12 95 (G.bs 22 8191) ?_
               refine G.pn 13 96 (G.bs 22 16383) ?_
               refine G.pn 14 97 (G.bs 22 32767) ?_
               refine G.pn 15 98 (G.bs 22 65535) ?_
               refine G.pn 16 99 (G.bs 22 131071) ?_
               refine G.pn 17 100 (G.bs 22 262143) ?_
               refine G.pn 18 101 (G.bs 22 524287) ?_
               refine G.pn 19 102 (G.bs 22 1048575) ?_
               refine G.pu 20 103 (G.bs 22 2097151) ?_
               refine G.pu 21 6 (G.bs 22 4194303) ?_
               refine done_ (done_of HT_.out (by kernel_rfl)) ?_
               try go_wp2
               go_ret
               exact ⟨by first | rfl | (simp [errW_none, errW_some] <;> rfl) | (simp only [← hji25, ← hji28]; first | rfl | (simp [errW_none, errW_some] <;> rfl)) | (simp [*, errW_none, errW_some] <;> rfl), G.bes GE560.out⟩
              ·rw [if_neg c47] at H
               have c47b0 : ((rd l0 (ji25)) == (rd l0 (ji28))) = false := beq_eq_false_iff_ne.mpr c47
               have c47b1 : ((rd l0 (ji25)) != (rd l0 (ji28))) = true := bne_iff_ne.mpr c47
               obtain rfl := Option.some.inj H
               try go_wp2
               have n0_ := G.a (blk_drew BK560.out)
               have n1_ := G.a (below_drew1 HB.out)
               clear BK560
               clear HB
               have BK560 := n0_
               have HB := n1_
               clear n0_ n1_
               obtain ⟨i054, hi054, _, hsz54, _⟩ := info_parts info3
               obtain ⟨A54, hcut54, hA54, hC54⟩ := print_mid_of (P := Tryz.prog) (Value.int .i64) 0 24 3 .i64 .i64 Tryz.underlying24 hi054 hsz54 A0 c0 l0 a1_0 a1_1 G.odt (by first | omega | exact G.odt) G.odt HC0.out
               have HR561 := G.a (Kd.C_of_reads (h1 := fun _ => rfl) (hA54 _ (Kd.reads_of_C HR0.out)))
               have HC561 := G.a hC54
               clear hA54 hC54 hi054 hsz54
               refine start_ (n := 10) (S := fun w' => w'.cell? ⟨gb560, 0, none⟩ = some (.int .i64 a1_0) ∧ w'.cell? ⟨gb560, 1, none⟩ = some (.int .i64 a1_1) ∧ w'.cell? ⟨gb560, 2, none⟩ = some (.int .i64 a1_2)) (ds := []) #[false, false, false, false, false, false, false, false, false, false] (by kernel_rfl) rfl rfl ⟨(blk_cell BK560.out 0).trans rfl, (blk_cell BK560.out 1).trans rfl, (blk_cell BK560.out 2).trans rfl⟩ (fun hHeld => ?_); refine with_tabW spec_IsRun.tab3 spec_IsRun.bits3 (fun HT_ HW_ => ?_)
               generalize wc.drew = w53 at BK560 HB HR561 hHeld ⊢
               refine G.pu 0 52 (G.bs 10 1) ?_
               refine G.pu 1 53 (G.bs 10 3) ?_
               refine G.pu 3 55 (G.bs 10 11) ?_
               refine G.pu 7 59 (G.bs 10 139) ?_
               refine G.tk 2 54 (G.bs 10 143) rfl (by rintro w' ⟨s0, s1, s2⟩; go_simp; with_reducible rfl) ?_
               refine G.tk 4 56 (G.bs 10 159) rfl (by rintro w' ⟨s0, s1, s2⟩; go_simp; with_reducible rfl) ?_
               refine G.pu 5 57 (G.bs 10 191) ?_
               refine G.tk 8 60 (G.bs 10 447) rfl (by rintro w' ⟨s0, s1, s2⟩; go_simp; with_reducible rfl) ?_
               refine one_ (i := 6) (N := some 58) (G.bs 10 511) rfl rfl (one_of HT_.out (by kernel_rfl)) (by decide) (fun K hK => ?_)
               refine goes_ Tryz.func30 (by kernel_rfl) rfl #[.slice A54 ((l0.take (a1_1 : Int).toNat).drop (a1_0 : Int).toNat).length (c0 - a1_0.toNat)] (by rfl) rfl rfl (by (try simp only [List.map_toArray, List.map_cons, List.map_nil]); first | done | (rw [show ((l0.take (a1_1 : Int).toNat).drop (a1_0 : Int).toNat).length = (a1_1.toNat - a1_0.toNat) from (by rw [List.length_drop, List.length_take]; have h_ : (a1_1 : Int) ≤ (l0.length : Int) := G.odt; omega)] <;> rfl) | rfl | (simp only [List.length_drop, List.length_take]; rfl)) ?_
               with_reducible refine (spec_LeastPeriod.calls kj2 _ _ ((l0.take (a1_1 : Int).toNat).drop (a1_0 : Int).toNat) t562 _ ?side1 ?side2 A22.out).mono ?_
               (case side1 => exact G.kC (Kd.C_below HR561.out HB.out))
               (case side2 => exact HC561.out)
               rintro e w55 ⟨rfl, hb⟩
               refine ⟨_, rfl, ?_⟩
               have n0_ := G.a (blk_below (g := gb560) (o := .cells #[.int .i64 a1_0, .int .i64 a1_1, .int .i64 a1_2] 32 (0, 0)) (G.kB BK560.out) hb)
               have n1_ := G.a (below_step (G.bes GE560.out) hb)
               clear BK560
               clear HB
               have BK560 := n0_
               have HB := n1_
               clear n0_ n1_
               (try clear hb)
               (try clear hb2)
               (try clear hk)
               (try clear hi)
               refine hK.out _ _ ⟨(blk_cell BK560.out 0).trans rfl, (blk_cell BK560.out 1).trans rfl, (blk_cell BK560.out 2).trans rfl⟩ (fun hHeld => ?_)
               clear hK K
               refine norm_ (a' := ?_) ?_ ?_
               rotate_left
               ·show Act.put _ (some 58) _ = _
                simp only [Act.put, List.setIfInBounds_toArray, List.set_cons_zero, List.set_cons_succ, i64_w, i32_w]
                rfl
               refine G.pu 9 61 (G.bs 10 1023) ?_
               refine done_ (done_of HT_.out (by kernel_rfl)) ?_
               try go_wp2
               have n0_ := G.a (blk_drew BK560.out)
               have n1_ := G.a (below_drew1 HB.out)
               clear BK560
               clear HB
               have BK560 := n0_
               have HB := n1_
               clear n0_ n1_
               have p563 : 0 ≤ ((ji25) : Int) := G.odt
               have q563 : (ji25) < (l0.length : Int) := G.odt
               obtain ⟨ad563, e563, hx563_0⟩ := Kd.at_int HR0.out (ji25) p563 q563
               have hw563_0 := hx563_0
               cases e563
               replace hx563_0 := (HB.out.cell (World.block_lt_of_cell? w _ hx563_0)).trans hx563_0
               replace p563 := eq_true p563
               replace q563 := eq_true q563
               have p564 : 0 ≤ ((ji28) : Int) := G.odt
               have q564 : (ji28) < (l0.length : Int) := G.odt
               obtain ⟨ad564, e564, hx564_0⟩ := Kd.at_int HR0.out (ji28) p564 q564
               have hw564_0 := hx564_0
               obtain rfl : ad563 = ad564 := (by injection e564)
               replace hx564_0 := (HB.out.cell (World.block_lt_of_cell? w _ hx564_0)).trans hx564_0
               replace p564 := eq_true p564
               replace q564 := eq_true q564
               refine start_ (n := 22) (S := fun w' => w'.cell? ⟨gb560, 0, none⟩ = some (.int .i64 a1_0) ∧ w'.cell? ⟨gb560, 1, none⟩ = some (.int .i64 a1_1) ∧ w'.cell? ⟨gb560, 2, none⟩ = some (.int .i64 a1_2) ∧ w'.cell? (ad563.add ((ji25)).toNat) = some (.int .i64 (rd l0 (ji25))) ∧ w'.cell? (ad563.add ((ji28)).toNat) = some (.int .i64 (rd l0 (ji28)))) (ds := []) #[false, false, false, false, false, false, false, false, false, false, false, false, false, false, false, false, false, false, false, false, false, false] (by kernel_rfl) rfl rfl ⟨(blk_cell BK560.out 0).trans rfl, (blk_cell BK560.out 1).trans rfl, (blk_cell BK560.out 2).trans rfl, ((HB.out.cell (World.block_lt_of_cell? w _ hw563_0)).trans hw563_0), ((HB.out.cell (World.block_lt_of_cell? w _ hw564_0)).trans hw564_0)⟩ (fun hHeld => ?_); refine with_tabW spec_IsRun.tab5 spec_IsRun.bits5 (fun HT_ HW_ => ?_)
               generalize w55.drew = w56 at BK560 HB hx563_0 hx564_0 hHeld ⊢
               refine G.pu 0 62 (G.bs 22 1) ?_
               refine G.tk 1 63 (G.bs 22 3) rfl (by rintro w' ⟨s0, s1, s2, s3, s4⟩; go_simp; with_reducible rfl) ?_
               refine G.pu 2 64 (G.bs 22 7) ?_
               refine G.pu 3 65 (G.bs 22 15) ?_
               refine G.pu 4 66 (G.bs 22 31) ?_
               refine G.pu 5 67 (G.bs 22 63) ?_
               refine G.pu 10 72 (G.bs 22 1087) ?_
               refine G.pu 11 73 (G.bs 22 3135) ?_
               refine G.pu 14 76 (G.bs 22 19519) ?_
               refine G.tk 6 68 (G.bs 22 19583) rfl (by rintro w' ⟨s0, s1, s2, s3, s4⟩; go_simp; with_reducible rfl) ?_
               refine G.pu 7 69 (G.bs 22 19711) ?_
               refine G.pu 8 70 (G.bs 22 19967) ?_
               refine G.tk 9 71 (G.bs 22 20479) rfl (by rintro w' ⟨s0, s1, s2, s3, s4⟩; go_simp; with_reducible rfl) ?_
               refine G.tk 12 74 (G.bs 22 24575) rfl (by rintro w' ⟨s0, s1, s2, s3, s4⟩; go_simp; with_reducible rfl) ?_
               refine G.pu 13 75 (G.bs 22 32767) ?_
               refine G.tk 15 77 (G.bs 22 65535) rfl (by rintro w' ⟨s0, s1, s2, s3, s4⟩; go_simp; with_reducible rfl) ?_
               refine G.pu 16 78 (G.bs 22 131071) ?_
               refine G.pu 17 79 (G.bs 22 262143) ?_
               refine G.tk 18 80 (G.bs 22 524287) rfl (by rintro w' ⟨s0, s1, s2, s3, s4⟩; go_simp; with_reducible rfl) ?_
               refine G.pu 19 81 (G.bs 22 1048575) ?_
               refine G.pu 20 82 (G.bs 22 2097151) ?_
               refine G.pu 21 5 (G.bs 22 4194303) ?_
               refine done_ (done_of HT_.out (by kernel_rfl)) ?_
               try go_wp2
               have n0_ := G.a (blk_drew BK560.out)
               have n1_ := G.a (below_drew1 HB.out)
               clear BK560
               clear HB
               have BK560 := n0_
               have HB := n1_
               clear n0_ n1_
               refine start_ (n := 22) (S := fun w' => w'.cell? ⟨gb560, 0, none⟩ = some (.int .i64 a1_0) ∧ w'.cell? ⟨gb560, 1, none⟩ = some (.int .i64 a1_1) ∧ w'.cell? ⟨gb560, 2, none⟩ = some (.int .i64 a1_2)) (ds := []) #[false, false, false, false, false, false, false, false, false, false, false, false, false, false, false, false, false, false, false, false, false, false] (by kernel_rfl) rfl rfl ⟨(blk_cell BK560.out 0).trans rfl, (blk_cell BK560.out 1).trans rfl, (blk_cell BK560.out 2).trans rfl⟩ (fun hHeld => ?_); refine with_tabW spec_IsRun.tab6 spec_IsRun.bits6 (fun HT_ HW_ => ?_)
               generalize w56.drew = w57 at BK560 HB hHeld ⊢
               refine G.pu 0 83 (G.bs 22 1) ?_
               refine G.pu 2 85 (G.bs 22 5) ?_
               refine G.pu 3 86 (G.bs 22 13) ?_
               refine G.tk 1 84 (G.bs 22 15) rfl (by rintro w' ⟨s0, s1, s2⟩; go_simp; with_reducible rfl) ?_
               refine G.pu 4 87 (G.bs 22 31) ?_
               refine G.pu 5 88 (G.bs 22 63) ?_
               refine G.pn 6 89 (G.bs 22 127) ?_
               refine G.pn 7 90 (G.bs 22 255) ?_
               refine G.pn 8 91 (G.bs 22 511) ?_
               refine G.pn 9 92 (G.bs 22 1023) ?_
               refine G.pn 10 93 (G.bs 22 2047) ?_
               refine G.pn 11 94 (G.bs 22 4095) ?_
               refine G.pn 12 95 (G.bs 22 8191) ?_
               refine G.pn 13 96 (G.bs 22 16383) ?_
               refine G.pn 14 97 (G.bs 22 32767) ?_
               refine G.pn 15 98 (G.bs 22 65535) ?_
               refine G.pn 16 99 (G.bs 22 131071) ?_
               refine G.pn 17 100 (G.bs 22 262143) ?_
               refine G.pn 18 101 (G.bs 22 524287) ?_
               refine G.pn 19 102 (G.bs 22 1048575) ?_
               refine G.pu 20 103 (G.bs 22 2097151) ?_
               refine G.pu 21 6 (G.bs 22 4194303) ?_
               refine done_ (done_of HT_.out (by kernel_rfl)) ?_
               try go_wp2
               go_ret
               exact ⟨by first | rfl | (simp [errW_none, errW_some] <;> rfl) | (simp only [← hji25, ← hji28]; first | rfl | (simp [errW_none, errW_some] <;> rfl)) | (simp [*, errW_none, errW_some] <;> rfl), G.bes GE560.out⟩
            ·rw [if_neg c30] at H
             exact absurd H (by simp)
           ·rw [if_neg c29] at H
            exact absurd H (by simp)
          ·rw [if_neg c27] at H
           exact absurd H (by simp)
         ·rw [if_neg c26] at H
          exact absurd H (by simp)
        ·rw [if_neg c24] at H
         have c24b0 : decide (0 < a1_0) = false := decide_eq_false c24
         clear c24
         by_cases c58 : a1_1 < (l0.length : Int)
         ·rw [if_pos c58] at H
          have c58b0 : decide (a1_1 < (l0.length : Int)) = true := decide_eq_true c58
          clear c58
          by_cases c59 : 0 ≤ a1_1
          ·rw [if_pos c59] at H
           have c59b0 : decide (0 ≤ a1_1) = true := decide_eq_true c59
           clear c59
           obtain ⟨ji60, hji60⟩ : ∃ j_ : Int, (wrap64 (a1_1 - a1_2)) = j_ := ⟨_, rfl⟩
           replace H : (if 0 ≤ (ji60) then (if (ji60) < (l0.length : Int) then (some (!((rd l0 a1_1) == (rd l0 (ji60))))) else (none)) else (none)) = some r := by first | (rw [hji60] at H; exact H) | (simp only [hji60] at H ⊢; exact H)
           (try rw [hji60] at A22)
           try clear hji33w
           have hji60w : (IntKind.i64.wrap (a1_1 - a1_2)) = ji60 := (i64_w _).trans hji60
           by_cases c61 : 0 ≤ (ji60)
           ·rw [if_pos c61] at H
            have c61b0 : decide (0 ≤ (ji60)) = true := decide_eq_true c61
            clear c61
            by_cases c62 : (ji60) < (l0.length : Int)
            ·rw [if_pos c62] at H
             have c62b0 : decide ((ji60) < (l0.length : Int)) = true := decide_eq_true c62
             clear c62
             obtain rfl := Option.some.inj H
             try go_wp2
             have n0_ := G.a (blk_drew BK560.out)
             have n1_ := G.a (below_drew1 HB.out)
             clear BK560
             clear HB
             have BK560 := n0_
             have HB := n1_
             clear n0_ n1_
             obtain ⟨i064, hi064, _, hsz64, _⟩ := info_parts info3
             obtain ⟨A64, hcut64, hA64, hC64⟩ := print_mid_of (P := Tryz.prog) (Value.int .i64) 0 24 3 .i64 .i64 Tryz.underlying24 hi064 hsz64 A0 c0 l0 a1_0 a1_1 G.odt (by first | omega | exact G.odt) G.odt HC0.out
             have HR561 := G.a (Kd.C_of_reads (h1 := fun _ => rfl) (hA64 _ (Kd.reads_of_C HR0.out)))
             have HC561 := G.a hC64
             clear hA64 hC64 hi064 hsz64
             refine start_ (n := 10) (S := fun w' => w'.cell? ⟨gb560, 0, none⟩ = some (.int .i64 a1_0) ∧ w'.cell? ⟨gb560, 1, none⟩ = some (.int .i64 a1_1) ∧ w'.cell? ⟨gb560, 2, none⟩ = some (.int .i64 a1_2)) (ds := []) #[false, false, false, false, false, false, false, false, false, false] (by kernel_rfl) rfl rfl ⟨(blk_cell BK560.out 0).trans rfl, (blk_cell BK560.out 1).trans rfl, (blk_cell BK560.out 2).trans rfl⟩ (fun hHeld => ?_); refine with_tabW spec_IsRun.tab3 spec_IsRun.bits3 (fun HT_ HW_ => ?_)
             generalize wc.drew = w63 at BK560 HB HR561 hHeld ⊢
             refine G.pu 0 52 (G.bs 10 1) ?_
             refine G.pu 1 53 (G.bs 10 3) ?_
             refine G.pu 3 55 (G.bs 10 11) ?_
             refine G.pu 7 59 (G.bs 10 139) ?_
             refine G.tk 2 54 (G.bs 10 143) rfl (by rintro w' ⟨s0, s1, s2⟩; go_simp; with_reducible rfl) ?_
             refine G.tk 4 56 (G.bs 10 159) rfl (by rintro w' ⟨s0, s1, s2⟩; go_simp; with_reducible rfl) ?_
             refine G.pu 5 57 (G.bs 10 191) ?_
             refine G.tk 8 60 (G.bs 10 447) rfl (by rintro w' ⟨s0, s1, s2⟩; go_simp; with_reducible rfl) ?_
             refine one_ (i := 6) (N := some 58) (G.bs 10 511) rfl rfl (one_of HT_.out (by kernel_rfl)) (by decide) (fun K hK => ?_)
             refine goes_ Tryz.func30 (by kernel_rfl) rfl #[.slice A64 ((l0.take (a1_1 : Int).toNat).drop (a1_0 : Int).toNat).length (c0 - a1_0.toNat)] (by rfl) rfl rfl (by (try simp only [List.map_toArray, List.map_cons, List.map_nil]); first | done | (rw [show ((l0.take (a1_1 : Int).toNat).drop (a1_0 : Int).toNat).length = (a1_1.toNat - a1_0.toNat) from (by rw [List.length_drop, List.length_take]; have h_ : (a1_1 : Int) ≤ (l0.length : Int) := G.odt; omega)] <;> rfl) | rfl | (simp only [List.length_drop, List.length_take]; rfl)) ?_
             with_reducible refine (spec_LeastPeriod.calls kj2 _ _ ((l0.take (a1_1 : Int).toNat).drop (a1_0 : Int).toNat) t562 _ ?side1 ?side2 A22.out).mono ?_
             (case side1 => exact G.kC (Kd.C_below HR561.out HB.out))
             (case side2 => exact HC561.out)
             rintro e w65 ⟨rfl, hb⟩
             refine ⟨_, rfl, ?_⟩
             have n0_ := G.a (blk_below (g := gb560) (o := .cells #[.int .i64 a1_0, .int .i64 a1_1, .int .i64 a1_2] 32 (0, 0)) (G.kB BK560.out) hb)
             have n1_ := G.a (below_step (G.bes GE560.out) hb)
             clear BK560
             clear HB
             have BK560 := n0_
             have HB := n1_
             clear n0_ n1_
             (try clear hb)
             (try clear hb2)
             (try clear hk)
             (try clear hi)
             refine hK.out _ _ ⟨(blk_cell BK560.out 0).trans rfl, (blk_cell BK560.out 1).trans rfl, (blk_cell BK560.out 2).trans rfl⟩ (fun hHeld => ?_)
             clear hK K
             refine norm_ (a' := ?_) ?_ ?_
             rotate_left
             ·show Act.put _ (some 58) _ = _
              simp only [Act.put, List.setIfInBounds_toArray, List.set_cons_zero, List.set_cons_succ, i64_w, i32_w]
              rfl
             refine G.pu 9 61 (G.bs 10 1023) ?_
             refine done_ (done_of HT_.out (by kernel_rfl)) ?_
             try go_wp2
             have n0_ := G.a (blk_drew BK560.out)
             have n1_ := G.a (below_drew1 HB.out)
             clear BK560
             clear HB
             have BK560 := n0_
             have HB := n1_
             clear n0_ n1_
             refine start_ (n := 22) (S := fun w' => w'.cell? ⟨gb560, 0, none⟩ = some (.int .i64 a1_0) ∧ w'.cell? ⟨gb560, 1, none⟩ = some (.int .i64 a1_1) ∧ w'.cell? ⟨gb560, 2, none⟩ = some (.int .i64 a1_2)) (ds := []) #[false, false, false, false, false, false, false, false, false, false, false, false, false, false, false, false, false, false, false, false, false, false] (by kernel_rfl) rfl rfl ⟨(blk_cell BK560.out 0).trans rfl, (blk_cell BK560.out 1).trans rfl, (blk_cell BK560.out 2).trans rfl⟩ (fun hHeld => ?_); refine with_tabW spec_IsRun.tab5 spec_IsRun.bits5 (fun HT_ HW_ => ?_)
             generalize w65.drew = w66 at BK560 HB hHeld ⊢
             refine G.pu 0 62 (G.bs 22 1) ?_
             refine G.tk 1 63 (G.bs 22 3) rfl (by rintro w' ⟨s0, s1, s2⟩; go_simp; with_reducible rfl) ?_
             refine G.pu 2 64 (G.bs 22 7) ?_
             refine G.pu 3 65 (G.bs 22 15) ?_
             refine G.pn 4 66 (G.bs 22 31) ?_
             refine G.pn 5 67 (G.bs 22 63) ?_
             refine G.pn 6 68 (G.bs 22 127) ?_
             refine G.pn 7 69 (G.bs 22 255) ?_
             refine G.pn 8 70 (G.bs 22 511) ?_
             refine G.pn 9 71 (G.bs 22 1023) ?_
             refine G.pn 10 72 (G.bs 22 2047) ?_
             refine G.pn 11 73 (G.bs 22 4095) ?_
             refine G.pn 12 74 (G.bs 22 8191) ?_
             refine G.pn 13 75 (G.bs 22 16383) ?_
             refine G.pn 14 76 (G.bs 22 32767) ?_
             refine G.pn 15 77 (G.bs 22 65535) ?_
             refine G.pn 16 78 (G.bs 22 131071) ?_
             refine G.pn 17 79 (G.bs 22 262143) ?_
             refine G.pn 18 80 (G.bs 22 524287) ?_
             refine G.pn 19 81 (G.bs 22 1048575) ?_
             refine G.pu 20 82 (G.bs 22 2097151) ?_
             refine G.pu 21 5 (G.bs 22 4194303) ?_
             refine done_ (done_of HT_.out (by kernel_rfl)) ?_
             try go_wp2
             have n0_ := G.a (blk_drew BK560.out)
             have n1_ := G.a (below_drew1 HB.out)
             clear BK560
             clear HB
             have BK560 := n0_
             have HB := n1_
             clear n0_ n1_
             have p567 : 0 ≤ (a1_1 : Int) := G.odt
             have q567 : a1_1 < (l0.length : Int) := G.odt
             obtain ⟨ad567, e567, hx567_0⟩ := Kd.at_int HR0.out a1_1 p567 q567
             have hw567_0 := hx567_0
             cases e567
             replace hx567_0 := (HB.out.cell (World.block_lt_of_cell? w _ hx567_0)).trans hx567_0
             replace p567 := eq_true p567
             replace q567 := eq_true q567
             have p568 : 0 ≤ ((ji60) : Int) := G.odt
             have q568 : (ji60) < (l0.length : Int) := G.odt
             obtain ⟨ad568, e568, hx568_0⟩ := Kd.at_int HR0.out (ji60) p568 q568
             have hw568_0 := hx568_0
             obtain rfl : ad567 = ad568 := (by injection e568)
             replace hx568_0 := (HB.out.cell (World.block_lt_of_cell? w _ hx568_0)).trans hx568_0
             replace p568 := eq_true p568
             replace q568 := eq_true q568
             refine start_ (n := 22) (S := fun w' => w'.cell? ⟨gb560, 0, none⟩ = some (.int .i64 a1_0) ∧ w'.cell? ⟨gb560, 1, none⟩ = some (.int .i64 a1_1) ∧ w'.cell? ⟨gb560, 2, none⟩ = some (.int .i64 a1_2) ∧ w'.cell? (ad567.add (a1_1).toNat) = some (.int .i64 (rd l0 a1_1)) ∧ w'.cell? (ad567.add ((ji60)).toNat) = some (.int .i64 (rd l0 (ji60)))) (ds := []) #[false, false, false, false, false, false, false, false, false, false, false, false, false, false, false, false, false, false, false, false, false, false] (by kernel_rfl) rfl rfl ⟨(blk_cell BK560.out 0).trans rfl, (blk_cell BK560.out 1).trans rfl, (blk_cell BK560.out 2).trans rfl, ((HB.out.cell (World.block_lt_of_cell? w _ hw567_0)).trans hw567_0), ((HB.out.cell (World.block_lt_of_cell? w _ hw568_0)).trans hw568_0)⟩ (fun hHeld => ?_); refine with_tabW spec_IsRun.tab6 spec_IsRun.bits6 (fun HT_ HW_ => ?_)
             generalize w66.drew = w67 at BK560 HB hx567_0 hx568_0 hHeld ⊢
             refine G.pu 0 83 (G.bs 22 1) ?_
             refine G.pu 2 85 (G.bs 22 5) ?_
             refine G.pu 3 86 (G.bs 22 13) ?_
             refine G.tk 1 84 (G.bs 22 15) rfl (by rintro w' ⟨s0, s1, s2, s3, s4⟩; go_simp; with_reducible rfl) ?_
             refine G.pu 4 87 (G.bs 22 31) ?_
             refine G.pu 5 88 (G.bs 22 63) ?_
             refine G.pu 6 89 (G.bs 22 127) ?_
             refine G.pu 7 90 (G.bs 22 255) ?_
             refine G.pu 11 94 (G.bs 22 2303) ?_
             refine G.pu 12 95 (G.bs 22 6399) ?_
             refine G.pu 14 97 (G.bs 22 22783) ?_
             refine G.tk 8 91 (G.bs 22 23039) rfl (by rintro w' ⟨s0, s1, s2, s3, s4⟩; go_simp; with_reducible rfl) ?_
             refine G.pu 9 92 (G.bs 22 23551) ?_
             refine G.tk 10 93 (G.bs 22 24575) rfl (by rintro w' ⟨s0, s1, s2, s3, s4⟩; go_simp; with_reducible rfl) ?_
             refine G.tk 13 96 (G.bs 22 32767) rfl (by rintro w' ⟨s0, s1, s2, s3, s4⟩; go_simp; with_reducible rfl) ?_
             refine G.tk 15 98 (G.bs 22 65535) rfl (by rintro w' ⟨s0, s1, s2, s3, s4⟩; go_simp; with_reducible rfl) ?_
             refine G.pu 16 99 (G.bs 22 131071) ?_
             refine G.pu 17 100 (G.bs 22 262143) ?_
             refine G.tk 18 101 (G.bs 22 524287) rfl (by rintro w' ⟨s0, s1, s2, s3, s4⟩; go_simp; with_reducible rfl) ?_
             refine G.pu 19 102 (G.bs 22 1048575) ?_
             refine G.pu 20 103 (G.bs 22 2097151) ?_
             refine G.pu 21 6 (G.bs 22 4194303) ?_
             refine done_ (done_of HT_.out (by kernel_rfl)) ?_
             try go_wp2
             go_ret
             exact ⟨by first | rfl | (simp [errW_none, errW_some] <;> rfl) | (simp only [← hji60]; first | rfl | (simp [errW_none, errW_some] <;> rfl)) | (simp [*, errW_none, errW_some] <;> rfl), G.bes GE560.out⟩
            ·rw [if_neg c62] at H
             exact absurd H (by simp)
           ·rw [if_neg c61] at H
            exact absurd H (by simp)
          ·rw [if_neg c59] at H
           exact absurd H (by simp)
         ·rw [if_neg c58] at H
          have c58b0 : decide (a1_1 < (l0.length : Int)) = false := decide_eq_false c58
          clear c58
          obtain rfl := Option.some.inj H
          try go_wp2
          have n0_ := G.a (blk_drew BK560.out)
          have n1_ := G.a (below_drew1 HB.out)
          clear BK560
          clear HB
          have BK560 := n0_
          have HB := n1_
          clear n0_ n1_
          obtain ⟨i069, hi069, _, hsz69, _⟩ := info_parts info3
          obtain ⟨A69, hcut69, hA69, hC69⟩ := print_mid_of (P := Tryz.prog) (Value.int .i64) 0 24 3 .i64 .i64 Tryz.underlying24 hi069 hsz69 A0 c0 l0 a1_0 a1_1 G.odt (by first | omega | exact G.odt) G.odt HC0.out
          have HR561 := G.a (Kd.C_of_reads (h1 := fun _ => rfl) (hA69 _ (Kd.reads_of_C HR0.out)))
          have HC561 := G.a hC69
          clear hA69 hC69 hi069 hsz69
          refine start_ (n := 10) (S := fun w' => w'.cell? ⟨gb560, 0, none⟩ = some (.int .i64 a1_0) ∧ w'.cell? ⟨gb560, 1, none⟩ = some (.int .i64 a1_1) ∧ w'.cell? ⟨gb560, 2, none⟩ = some (.int .i64 a1_2)) (ds := []) #[false, false, false, false, false, false, false, false, false, false] (by kernel_rfl) rfl rfl ⟨(blk_cell BK560.out 0).trans rfl, (blk_cell BK560.out 1).trans rfl, (blk_cell BK560.out 2).trans rfl⟩ (fun hHeld => ?_); refine with_tabW spec_IsRun.tab3 spec_IsRun.bits3 (fun HT_ HW_ => ?_)
          generalize wc.drew = w68 at BK560 HB HR561 hHeld ⊢
          refine G.pu 0 52 (G.bs 10 1) ?_
          refine G.pu 1 53 (G.bs 10 3) ?_
          refine G.pu 3 55 (G.bs 10 11) ?_
          refine G.pu 7 59 (G.bs 10 139) ?_
          refine G.tk 2 54 (G.bs 10 143) rfl (by rintro w' ⟨s0, s1, s2⟩; go_simp; with_reducible rfl) ?_
          refine G.tk 4 56 (G.bs 10 159) rfl (by rintro w' ⟨s0, s1, s2⟩; go_simp; with_reducible rfl) ?_
          refine G.pu 5 57 (G.bs 10 191) ?_
          refine G.tk 8 60 (G.bs 10 447) rfl (by rintro w' ⟨s0, s1, s2⟩; go_simp; with_reducible rfl) ?_
          refine one_ (i := 6) (N := some 58) (G.bs 10 511) rfl rfl (one_of HT_.out (by kernel_rfl)) (by decide) (fun K hK => ?_)
          refine goes_ Tryz.func30 (by kernel_rfl) rfl #[.slice A69 ((l0.take (a1_1 : Int).toNat).drop (a1_0 : Int).toNat).length (c0 - a1_0.toNat)] (by rfl) rfl rfl (by (try simp only [List.map_toArray, List.map_cons, List.map_nil]); first | done | (rw [show ((l0.take (a1_1 : Int).toNat).drop (a1_0 : Int).toNat).length = (a1_1.toNat - a1_0.toNat) from (by rw [List.length_drop, List.length_take]; have h_ : (a1_1 : Int) ≤ (l0.length : Int) := G.odt; omega)] <;> rfl) | rfl | (simp only [List.length_drop, List.length_take]; rfl)) ?_
          with_reducible refine (spec_LeastPeriod.calls kj2 _ _ ((l0.take (a1_1 : Int).toNat).drop (a1_0 : Int).toNat) t562 _ ?side1 ?side2 A22.out).mono ?_
          (case side1 => exact G.kC (Kd.C_below HR561.out HB.out))
          (case side2 => exact HC561.out)
          rintro e w70 ⟨rfl, hb⟩
          refine ⟨_, rfl, ?_⟩
          have n0_ := G.a (blk_below (g := gb560) (o := .cells #[.int .i64 a1_0, .int .i64 a1_1, .int .i64 a1_2] 32 (0, 0)) (G.kB BK560.out) hb)
          have n1_ := G.a (below_step (G.bes GE560.out) hb)
          clear BK560
          clear HB
          have BK560 := n0_
          have HB := n1_
          clear n0_ n1_
          (try clear hb)
          (try clear hb2)
          (try clear hk)
          (try clear hi)
          refine hK.out _ _ ⟨(blk_cell BK560.out 0).trans rfl, (blk_cell BK560.out 1).trans rfl, (blk_cell BK560.out 2).trans rfl⟩ (fun hHeld => ?_)
          clear hK K
          refine norm_ (a' := ?_) ?_ ?_
          rotate_left
          ·show Act.put _ (some 58) _ = _
           simp only [Act.put, List.setIfInBounds_toArray, List.set_cons_zero, List.set_cons_succ, i64_w, i32_w]
           rfl
          refine G.pu 9 61 (G.bs 10 1023) ?_
          refine done_ (done_of HT_.out (by kernel_rfl)) ?_
          try go_wp2
          have n0_ := G.a (blk_drew BK560.out)
          have n1_ := G.a (below_drew1 HB.out)
          clear BK560
          clear HB
          have BK560 := n0_
          have HB := n1_
          clear n0_ n1_
          refine start_ (n := 22) (S := fun w' => w'.cell? ⟨gb560, 0, none⟩ = some (.int .i64 a1_0) ∧ w'.cell? ⟨gb560, 1, none⟩ = some (.int .i64 a1_1) ∧ w'.cell? ⟨gb560, 2, none⟩ = some (.int .i64 a1_2)) (ds := []) #[false, false, false, false, false, false, false, false, false, false, false, false, false, false, false, false, false, false, false, false, false, false] (by kernel_rfl) rfl rfl ⟨(blk_cell BK560.out 0).trans rfl, (blk_cell BK560.out 1).trans rfl, (blk_cell BK560.out 2).trans rfl⟩ (fun hHeld => ?_); refine with_tabW spec_IsRun.tab5 spec_IsRun.bits5 (fun HT_ HW_ => ?_)
          generalize w70.drew = w71 at BK560 HB hHeld ⊢
          refine G.pu 0 62 (G.bs 22 1) ?_
          refine G.tk 1 63 (G.bs 22 3) rfl (by rintro w' ⟨s0, s1, s2⟩; go_simp; with_reducible rfl) ?_
          refine G.pu 2 64 (G.bs 22 7) ?_
          refine G.pu 3 65 (G.bs 22 15) ?_
          refine G.pn 4 66 (G.bs 22 31) ?_
          refine G.pn 5 67 (G.bs 22 63) ?_
          refine G.pn 6 68 (G.bs 22 127) ?_
          refine G.pn 7 69 (G.bs 22 255) ?_
          refine G.pn 8 70 (G.bs 22 511) ?_
          refine G.pn 9 71 (G.bs 22 1023) ?_
          refine G.pn 10 72 (G.bs 22 2047) ?_
          refine G.pn 11 73 (G.bs 22 4095) ?_
          refine G.pn 12 74 (G.bs 22 8191) ?_
          refine G.pn 13 75 (G.bs 22 16383) ?_
          refine G.pn 14 76 (G.bs 22 32767) ?_
          refine G.pn 15 77 (G.bs 22 65535) ?_
          refine G.pn 16 78 (G.bs 22 131071) ?_
          refine G.pn 17 79 (G.bs 22 262143) ?_
          refine G.pn 18 80 (G.bs 22 524287) ?_
          refine G.pn 19 81 (G.bs 22 1048575) ?_
          refine G.pu 20 82 (G.bs 22 2097151) ?_
          refine G.pu 21 5 (G.bs 22 4194303) ?_
          refine done_ (done_of HT_.out (by kernel_rfl)) ?_
          try go_wp2
          have n0_ := G.a (blk_drew BK560.out)
          have n1_ := G.a (below_drew1 HB.out)
          clear BK560
          clear HB
          have BK560 := n0_
          have HB := n1_
          clear n0_ n1_
          refine start_ (n := 22) (S := fun w' => w'.cell? ⟨gb560, 0, none⟩ = some (.int .i64 a1_0) ∧ w'.cell? ⟨gb560, 1, none⟩ = some (.int .i64 a1_1) ∧ w'.cell? ⟨gb560, 2, none⟩ = some (.int .i64 a1_2)) (ds := []) #[false, false, false, false, false, false, false, false, false, false, false, false, false, false, false, false, false, false, false, false, false, false] (by kernel_rfl) rfl rfl ⟨(blk_cell BK560.out 0).trans rfl, (blk_cell BK560.out 1).trans rfl, (blk_cell BK560.out 2).trans rfl⟩ (fun hHeld => ?_); refine with_tabW spec_IsRun.tab6 spec_IsRun.bits6 (fun HT_ HW_ => ?_)
          generalize w71.drew = w72 at BK560 HB hHeld ⊢
          refine G.pu 0 83 (G.bs 22 1) ?_
          refine G.pu 2 85 (G.bs 22 5) ?_
          refine G.pu 3 86 (G.bs 22 13) ?_
          refine G.tk 1 84 (G.bs 22 15) rfl (by rintro w' ⟨s0, s1, s2⟩; go_simp; with_reducible rfl) ?_
          refine G.pu 4 87 (G.bs 22 31) ?_
          refine G.pu 5 88 (G.bs 22 63) ?_
          refine G.pn 6 89 (G.bs 22 127) ?_
          refine G.pn 7 90 (G.bs 22 255) ?_
          refine G.pn 8 91 (G.bs 22 511) ?_
          refine G.pn 9 92 (G.bs 22 1023) ?_
          refine G.pn 10 93 (G.bs 22 2047) ?_
          refine G.pn 11 94 (G.bs 22 4095) ?_
          refine G.pn 12 95 (G.bs 22 8191) ?_
          refine G.pn 13 96 (G.bs 22 16383) ?_
          refine G.pn 14 97 (G.bs 22 32767) ?_
          refine G.pn 15 98 (G.bs 22 65535) ?_
          refine G.pn 16 99 (G.bs 22 131071) ?_
          refine G.pn 17 100 (G.bs 22 262143) ?_
          refine G.pn 18 101 (G.bs 22 524287) ?_
          refine G.pn 19 102 (G.bs 22 1048575) ?_
          refine G.pu 20 103 (G.bs 22 2097151) ?_
          refine G.pu 21 6 (G.bs 22 4194303) ?_
          refine done_ (done_of HT_.out (by kernel_rfl)) ?_
          try go_wp2
          go_ret
          exact ⟨G.er, G.bes GE560.out⟩
       ·rw [if_neg c23] at H
        have c23b0 : (t562 == a1_2) = false := beq_eq_false_iff_ne.mpr c23
        have c23b1 : (t562 != a1_2) = true := bne_iff_ne.mpr c23
        obtain rfl := Option.some.inj H
        try go_wp2
        have n0_ := G.a (blk_drew BK560.out)
        have n1_ := G.a (below_drew1 HB.out)
        clear BK560
        clear HB
        have BK560 := n0_
        have HB := n1_
        clear n0_ n1_
        obtain ⟨i074, hi074, _, hsz74, _⟩ := info_parts info3
        obtain ⟨A74, hcut74, hA74, hC74⟩ := print_mid_of (P := Tryz.prog) (Value.int .i64) 0 24 3 .i64 .i64 Tryz.underlying24 hi074 hsz74 A0 c0 l0 a1_0 a1_1 G.odt (by first | omega | exact G.odt) G.odt HC0.out
        have HR561 := G.a (Kd.C_of_reads (h1 := fun _ => rfl) (hA74 _ (Kd.reads_of_C HR0.out)))
        have HC561 := G.a hC74
        clear hA74 hC74 hi074 hsz74
        refine start_ (n := 10) (S := fun w' => w'.cell? ⟨gb560, 0, none⟩ = some (.int .i64 a1_0) ∧ w'.cell? ⟨gb560, 1, none⟩ = some (.int .i64 a1_1) ∧ w'.cell? ⟨gb560, 2, none⟩ = some (.int .i64 a1_2)) (ds := []) #[false, false, false, false, false, false, false, false, false, false] (by kernel_rfl) rfl rfl ⟨(blk_cell BK560.out 0).trans rfl, (blk_cell BK560.out 1).trans rfl, (blk_cell BK560.out 2).trans rfl⟩ (fun hHeld => ?_); refine with_tabW spec_IsRun.tab3 spec_IsRun.bits3 (fun HT_ HW_ => ?_)
        generalize wc.drew = w73 at BK560 HB HR561 hHeld ⊢
        refine G.pu 0 52 (G.bs 10 1) ?_
        refine G.pu 1 53 (G.bs 10 3) ?_
        refine G.pu 3 55 (G.bs 10 11) ?_
        refine G.pu 7 59 (G.bs 10 139) ?_
        refine G.tk 2 54 (G.bs 10 143) rfl (by rintro w' ⟨s0, s1, s2⟩; go_simp; with_reducible rfl) ?_
        refine G.tk 4 56 (G.bs 10 159) rfl (by rintro w' ⟨s0, s1, s2⟩; go_simp; with_reducible rfl) ?_
        refine G.pu 5 57 (G.bs 10 191) ?_
        refine G.tk 8 60 (G.bs 10 447) rfl (by rintro w' ⟨s0, s1, s2⟩; go_simp; with_reducible rfl) ?_
        refine one_ (i := 6) (N := some 58) (G.bs 10 511) rfl rfl (one_of HT_.out (by kernel_rfl)) (by decide) (fun K hK => ?_)
        refine goes_ Tryz.func30 (by kernel_rfl) rfl #[.slice A74 ((l0.take (a1_1 : Int).toNat).drop (a1_0 : Int).toNat).length (c0 - a1_0.toNat)] (by rfl) rfl rfl (by (try simp only [List.map_toArray, List.map_cons, List.map_nil]); first | done | (rw [show ((l0.take (a1_1 : Int).toNat).drop (a1_0 : Int).toNat).length = (a1_1.toNat - a1_0.toNat) from (by rw [List.length_drop, List.length_take]; have h_ : (a1_1 : Int) ≤ (l0.length : Int) := G.odt; omega)] <;> rfl) | rfl | (simp only [List.length_drop, List.length_take]; rfl)) ?_
        with_reducible refine (spec_LeastPeriod.calls kj2 _ _ ((l0.take (a1_1 : Int).toNat).drop (a1_0 : Int).toNat) t562 _ ?side1 ?side2 A22.out).mono ?_
        (case side1 => exact G.kC (Kd.C_below HR561.out HB.out))
        (case side2 => exact HC561.out)
        rintro e w75 ⟨rfl, hb⟩
        refine ⟨_, rfl, ?_⟩
        have n0_ := G.a (blk_below (g := gb560) (o := .cells #[.int .i64 a1_0, .int .i64 a1_1, .int .i64 a1_2] 32 (0, 0)) (G.kB BK560.out) hb)
        have n1_ := G.a (below_step (G.bes GE560.out) hb)
        clear BK560
        clear HB
        have BK560 := n0_
        have HB := n1_
        clear n0_ n1_
        (try clear hb)
        (try clear hb2)
        (try clear hk)
        (try clear hi)
        refine hK.out _ _ ⟨(blk_cell BK560.out 0).trans rfl, (blk_cell BK560.out 1).trans rfl, (blk_cell BK560.out 2).trans rfl⟩ (fun hHeld => ?_)
        clear hK K
        refine norm_ (a' := ?_) ?_ ?_
        rotate_left
        ·show Act.put _ (some 58) _ = _
         simp only [Act.put, List.setIfInBounds_toArray, List.set_cons_zero, List.set_cons_succ, i64_w, i32_w]
         rfl
        refine G.pu 9 61 (G.bs 10 1023) ?_
        refine done_ (done_of HT_.out (by kernel_rfl)) ?_
        try go_wp2
        go_ret
        exact ⟨G.er, G.bes GE560.out⟩
      ·rw [if_neg c21] at H
       exact absurd H (by simp)
     ·rw [if_neg c20] at H
      exact absurd H (by simp)
    ·rw [if_neg c19] at H
     exact absurd H (by simp)
end Go.Proofs.YtolikggioekalabGreat.PFnRuns
