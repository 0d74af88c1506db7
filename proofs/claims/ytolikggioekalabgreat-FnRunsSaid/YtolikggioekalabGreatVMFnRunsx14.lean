/- The Go functions that the law FnRuns reaches (part 14): each as a Lean function, and that its code comes to these answers. No condition beyond those written. -/
import Derived.Test.YtolikggioekalabGreatVMFnRunsx13
namespace Go.Proofs.YtolikggioekalabGreat.PFnRuns
open Go.RowKit Go.Proofs.YtolikggioekalabGreatW.PrintWords Go.Proofs.YtolikggioekalabGreatW.PrintLast Go.Proofs.YtolikggioekalabGreatW.PrintMore
attribute [local go_sem] max2_int min2_int max_two min_two max_three min_three max_four min_four
set_option maxHeartbeats 8000000
set_option maxRecDepth 100000
set_option linter.unusedVariables false
set_option linter.unusedSimpArgs false
attribute [local go_sem high] eqA32
mutual
def spec_RunsOf.l0 : Nat → List Int → List (S32) → Int → Option ((List (S32)))
 | 0, _, _, _ => none
 | k + 1, x0, x3, x4 => if x4 < (x0.length : Int) then (spec_RunsOf.j1 k x0 x3 x4 (decide ((x0.length : Int) ≤ 64))) else (spec_RunsOf.j1 k x0 x3 x4 false)
def spec_RunsOf.j1 : Nat → List Int → List (S32) → Int → Bool → Option ((List (S32)))
 | 0, _, _, _, _ => none
 | k + 1, x0, x3, x4, x16 => if x16 = true then (spec_RunsOf.l1 k x0 x3 x4 (wrap64 (x4 + 2))) else (some x3)
def spec_RunsOf.l1 : Nat → List Int → List (S32) → Int → Int → Option ((List (S32)))
 | 0, _, _, _, _ => none
 | k + 1, x0, x3, x4, x5 => if x5 ≤ (x0.length : Int) then (if 0 ≤ x4 then (if x4 ≤ x5 then ((spec_LeastPeriod.f k ((x0.take (x5 : Int).toNat).drop (x4 : Int).toNat)).bind fun t573 => ((spec_IsRun.f k x0 x4 x5 t573).bind fun t575 => (if t575 = true then (if x3.length < 5864062014805 then (spec_RunsOf.l1 k x0 (x3 ++ [(⟨x4, x5, t573⟩ : S32)]) x4 (wrap64 (x5 + 1))) else (none)) else (spec_RunsOf.l1 k x0 x3 x4 (wrap64 (x5 + 1)))))) else (none)) else (none)) else (spec_RunsOf.l0 k x0 x3 (wrap64 (x4 + 1)))
end
def spec_RunsOf.f (k : Nat) (l0 : List Int) : Option ((List (S32))) := spec_RunsOf.l0 k l0 (([] : List (S32))) 0
theorem spec_RunsOf.calls (k : Nat) (A0 : Option Addr) (c0 : Nat) (l0 : List Int) (r : List (S32)) (w : World) (hr0 : Kd.C (Kd.int .i64) w A0 l0.length l0) (hc0 : l0.length ≤ c0) (h : spec_RunsOf.f k l0 = some r) :
  Calls Tryz.prog 7 #[.slice A0 l0.length c0] w fun e w' => ∃ v0_ : Value, e = .returned (v0_) ∧ Kd.R k32 32 w' w.heap.size (fun _ => True) v0_ r ∧ Below w.heap.size w w' := by
 have hu32 := Tryz.underlying32
 have HR0 := G.a hr0
 have HC0 := G.a hc0
 clear hr0 hc0
 have HB := G.a (Below.refl w.heap.size w)
 have H : (spec_RunsOf.l0 k l0 (([] : List (S32))) 0) = some r := h
 clear h
 obtain ⟨y569, hy569⟩ : ∃ y_ : List (S32), y_ = (([] : List (S32))) := ⟨_, rfl⟩
 replace H : (spec_RunsOf.l0 k l0 y569 0) = some r := by first | (rw [hy569]; with_reducible exact H) | (have H2_ := (Option.bind_some _ _).symm.trans H; rw [hy569]; with_reducible exact H2_) | (have H2_ := (Option.bind_some _ _).symm.trans H; with_reducible exact H2_) | with_reducible exact H | (rw [hy569]; exact H) | exact H
 have Ny569 := G.a hy569
 clear hy569
 have H' := G.a H
 clear H
 go_enter Tryz.func7, Tryz.ntmps7
 go_wp2_with (first | ((with_reducible refine gate_dst (N := 7) rfl ?_); (try (refine gate_guard (by rfl) ?_; dsimp only)); refine Kd.R_lit k32 _ 32 ?hg (N := 7) ?hd (xs := ([] : List (S32))) (inner := []) (ok := fun _ => True) (okp := fun _ => True) ?hr ?hp (fun _ hk => hk) trivial (Below.refl _ _) (Nat.le_refl _) (by simp) ?_; (case hd => rfl); (case hg => rfl); (case hr => first | (go_simp; done) | (go_simp; rfl)); (case hp => exact (Reps.none _ _)); intro v570 w2 ho3 hb hg_ hnew_; clear hg_ hnew_; (first | rw [← Ny569.out] at ho3 | (simp only [Int.reduceToNat] at ho3; rw [← Ny569.out] at ho3)); have n0_ := G.a (Kd.R_lower ho3 (below_size G.bel)); have n1_ := G.a (below_step G.bel hb); clear HB; have HO571 := n0_; have HB := n1_; clear n0_ n1_; clear hb ho3))
 go_loopg [3, 4] k (fun kq v3 v4 w' => ∃ (x3_1 : List (S32)) (x4_1 : Int), v4 = .int .i64 x4_1 ∧ Aside0 (spec_RunsOf.l0 kq l0 x3_1 x4_1 = some r) ∧ Aside0 (kq ≤ k) ∧ Aside0 (Kd.R k32 32 w' w.heap.size (fun _ => True) v3 x3_1) ∧ Aside0 (Below w.heap.size w w'))
 case atStart => exact ⟨(y569), (0), G.tr, H', ⟨Nat.le_refl _⟩, ⟨G.kR HO571.out⟩, ⟨G.bel⟩⟩
 case round =>
  clear H'
  try clear p2
  obtain ⟨x3_1, x4_1, rfl, HA, HK1, HO_3, HB⟩ := hrel
  cases gk with
  | zero => exact absurd HA.out (by simp [spec_RunsOf.l0])
  | succ k1 =>
   have H := HA.out
   clear HA
   simp only [spec_RunsOf.l0] at H
   have HC4 := G.a H
   clear H
   go_upto_region 3 with (fail)
   go_cut [16] (fun v16 wc => ∃ (kq : Nat) (x16_3 : Bool), v16 = .bool x16_3 ∧ Aside0 (spec_RunsOf.j1 kq l0 x3_1 x4_1 x16_3 = some r) ∧ Aside0 (kq ≤ k1) ∧ Aside0 (Kd.R k32 32 wc w.heap.size (fun _ => True) u3 x3_1) ∧ Aside0 (Below w.heap.size w wc))
   case first =>
    have H := HC4.out
    clear HC4
    by_cases c5 : x4_1 < (l0.length : Int)
    ·rw [if_pos c5] at H
     have c5b0 : decide (x4_1 < (l0.length : Int)) = true := decide_eq_true c5
     clear c5
     (first | rw [c5b0] | (simp only [i64_w, i32_w]; rw [c5b0]) | skip)
     have H' := G.a H
     clear H
     go_wp2
     go_meet
     case rel => exact ⟨_, (decide ((l0.length : Int) ≤ 64)), G.tr, H', ⟨by have := HK1.out; first | omega | exact Nat.le_refl _⟩, ⟨G.kR HO_3.out⟩, ⟨G.bel⟩⟩
    ·rw [if_neg c5] at H
     have c5b0 : decide (x4_1 < (l0.length : Int)) = false := decide_eq_false c5
     clear c5
     (first | rw [c5b0] | (simp only [i64_w, i32_w]; rw [c5b0]) | skip)
     have H' := G.a H
     clear H
     go_wp2
     go_meet
     case rel => exact ⟨_, (false), G.tr, H', ⟨by have := HK1.out; first | omega | exact Nat.le_refl _⟩, ⟨G.kR HO_3.out⟩, ⟨G.bel⟩⟩
   case rest =>
    clear HC4
    try clear p2; try clear c5; try clear c5b0; try clear p2
    obtain ⟨kq, x16_3, rfl, HA, HJ3, HO_3, HB⟩ := hcut
    cases kq with
    | zero => exact absurd HA.out (by simp [spec_RunsOf.j1])
    | succ kj3 =>
     have H := HA.out
     clear HA
     simp only [spec_RunsOf.j1] at H
     by_cases c6 : x16_3 = true
     ·subst c6
      rw [if_pos rfl] at H
      have H' := G.a H
      clear H
      go_wp2
      go_loopg [3, 5] kj3 (fun kq v3 v5 w' => ∃ (x3_3 : List (S32)) (x5_3 : Int), v5 = .int .i64 x5_3 ∧ Aside0 (spec_RunsOf.l1 kq l0 x3_3 x4_1 x5_3 = some r) ∧ Aside0 (kq ≤ kj3) ∧ Aside0 (Kd.R k32 32 w' w.heap.size (fun _ => True) v3 x3_3) ∧ Aside0 (Below w.heap.size w w'))
      case atStart => exact ⟨(x3_1), (wrap64 (x4_1 + 2)), G.tr, H', ⟨Nat.le_refl _⟩, ⟨G.kR HO_3.out⟩, ⟨G.bel⟩⟩
      case round =>
       clear H'
       try clear p2; try clear c5; try clear c5b0; try clear c6; try clear p6; try clear p2
       obtain ⟨x3_3, x5_3, rfl, HA, HK3, HO_3, HB⟩ := hrel
       cases gk with
       | zero => exact absurd HA.out (by simp [spec_RunsOf.l1])
       | succ k3 =>
        have H := HA.out
        clear HA
        simp only [spec_RunsOf.l1] at H
        by_cases c7 : x5_3 ≤ (l0.length : Int)
        ·rw [if_pos c7] at H
         have c7b0 : decide (x5_3 ≤ (l0.length : Int)) = true := decide_eq_true c7
         clear c7
         by_cases c8 : 0 ≤ x4_1
         ·rw [if_pos c8] at H
          have c8b0 := eq_true c8
          have c8b1 : decide (0 ≤ x4_1) = true := decide_eq_true c8
          clear c8
          by_cases c9 : x4_1 ≤ x5_3
          ·rw [if_pos c9] at H
           have c9b0 := eq_true c9
           have c9b1 : decide (x4_1 ≤ x5_3) = true := decide_eq_true c9
           clear c9
           have c10b0 := eq_true (G.odt : x5_3 ≤ (l0.length : Int))
           obtain ⟨t573, A11, H⟩ := G.bx H
           obtain ⟨t575, A12, H⟩ := G.bx H
           by_cases c13 : t575 = true
           ·subst c13
            rw [if_pos rfl] at H
            by_cases c14 : x3_3.length < 5864062014805
            ·rw [if_pos c14] at H
             have LMc14 := G.a c14
             clear c14
             obtain ⟨y576, hy576⟩ : ∃ y_ : List (S32), y_ = (x3_3 ++ [(⟨x4_1, x5_3, t573⟩ : S32)]) := ⟨_, rfl⟩
             replace H : (spec_RunsOf.l1 k3 l0 y576 x4_1 (wrap64 (x5_3 + 1))) = some r := by first | (rw [hy576]; with_reducible exact H) | (have H2_ := (Option.bind_some _ _).symm.trans H; rw [hy576]; with_reducible exact H2_) | (have H2_ := (Option.bind_some _ _).symm.trans H; with_reducible exact H2_) | with_reducible exact H | (rw [hy576]; exact H) | exact H
             have Ny576 := G.a hy576
             clear hy576
             have H' := G.a H
             clear H
             obtain ⟨i015, hi015, _, hsz15, _⟩ := info_parts info3
             obtain ⟨A15, hcut15, hA15, hC15⟩ := print_mid_of (P := Tryz.prog) (Value.int .i64) 0 24 3 .i64 .i64 Tryz.underlying24 hi015 hsz15 A0 c0 l0 x4_1 x5_3 G.odt (by first | omega | exact G.odt) G.odt HC0.out
             have HR572 := G.a (Kd.C_of_reads (h1 := fun _ => rfl) (hA15 _ (Kd.reads_of_C HR0.out)))
             have HC572 := G.a hC15
             clear hA15 hC15 hi015 hsz15
             go_wp2_with (first | ((with_reducible refine gate_callee (f := 30) rfl ?_); refine goesL_ (some 33) rfl rfl Tryz.func30 (by kernel_rfl) rfl #[.slice A15 ((l0.take (x5_3 : Int).toNat).drop (x4_1 : Int).toNat).length (c0 - x4_1.toNat)] rfl (by (try simp only [List.map_toArray, List.map_cons, List.map_nil]); first | done | (rw [show ((l0.take (x5_3 : Int).toNat).drop (x4_1 : Int).toNat).length = (x5_3.toNat - x4_1.toNat) from (by rw [List.length_drop, List.length_take]; have h_ : (x5_3 : Int) ≤ (l0.length : Int) := G.odt; omega)] <;> rfl) | rfl | (simp only [List.length_drop, List.length_take]; rfl)) ?_; (with_reducible refine (spec_LeastPeriod.calls k3 _ _ ((l0.take (x5_3 : Int).toNat).drop (x4_1 : Int).toNat) t573 _ ?side1 ?side2 A11.out).mono ?_); (case side1 => exact G.kC (Kd.C_below HR572.out HB.out)); (case side2 => exact HC572.out); rintro e w16 ⟨rfl, hb⟩; refine ⟨_, rfl, ?_⟩; have n0_ := G.a (Kd.R_below (G.kR HO_3.out) hb); have n1_ := G.a (below_step G.bel hb); clear HO_3; clear HB; have HO_3 := n0_; have HB := n1_; clear n0_ n1_; (try clear hb); (try clear hb2); (try clear hk); (try clear hi)) | ((with_reducible refine gate_dst (N := 6) rfl ?_); (try (refine gate_guard (by rfl) ?_; dsimp only)); refine box_event ?hg (N := 6) ?hd (cs := #[.int .i64 0, .int .i64 0, .int .i64 0]) (t := 32) ?hr ?_; (case hd => rfl); (case hg => rfl); (case hr => first | (go_simp; done) | (go_simp; rfl)); intro gb574 hg w17 hbox hb; have n0_ := G.a (Kd.R_below (Kd.R_elderB (G.kR HO_3.out) gb574 (Nat.le_of_eq hg.symm)) hb); have n1_ := G.a (below_step G.bel hb); have n2_ := G.a (hbox); have n3_ := G.a ((by rw [hg]; exact (below_size G.bel) : w.heap.size ≤ gb574)); have n4_ := G.a ((by rw [hg]; exact (below_size G.bel) : w.heap.size ≤ gb574)); clear HO_3; clear HB; have HO_3 := n0_; have HB := n1_; have BK574 := n2_; have GW574 := n3_; have GE574 := n4_; clear n0_ n1_ n2_ n3_ n4_; clear hb hbox hg; have hcz18_0 : w17.cell? ⟨gb574, 0, none⟩ = some (.int .i64 0) := (blk_cell BK574.out 0).trans rfl; have hcz18_1 : w17.cell? ⟨gb574, 1, none⟩ = some (.int .i64 0) := (blk_cell BK574.out 1).trans rfl; have hcz18_2 : w17.cell? ⟨gb574, 2, none⟩ = some (.int .i64 0) := (blk_cell BK574.out 2).trans rfl; have hfz18_0 := blk_frozen BK574.out 0; have hfz18_1 := blk_frozen BK574.out 1; have hfz18_2 := blk_frozen BK574.out 2) | ((with_reducible refine gate_callee (f := 20) rfl ?_); refine goesL_ (some 37) rfl rfl Tryz.func20 (by kernel_rfl) rfl #[.slice A0 l0.length c0, .agg #[.int .i64 x4_1, .int .i64 x5_3, .int .i64 t573]] rfl G.ar ?_; (with_reducible refine (spec_IsRun.calls k3 _ _ l0 x4_1 x5_3 t573 true _ ?side1 ?side2 A12.out).mono ?_); (case side1 => exact Kd.C_below HR0.out (G.bes GE574.out)); (case side2 => exact HC0.out); rintro e w19 ⟨rfl, hb⟩; refine ⟨_, rfl, ?_⟩; have n0_ := G.a (Kd.R_below (by (with_reducible repeat (first | apply Kd.R_alloc | apply Kd.R_drewN | apply Kd.R_drew)); exact (Kd.R_mono (Kd.R_far (p := ⟨gb574, 2, none⟩) (Kd.R_far (p := ⟨gb574, 1, none⟩) (Kd.R_far (p := ⟨gb574, 0, none⟩) (Kd.R_mono HO_3.out (fun k_ hk => (⟨hk, hk.2⟩ : _ ∧ k_ ≠ gb574))) (fun _ hk => hk.2) (.int .i64 x4_1)) (fun _ hk => hk.2) (.int .i64 x5_3)) (fun _ hk => hk.2) (.int .i64 t573)) (fun _ h_ => h_.1))) hb); have n1_ := G.a (blk_below (g := gb574) (o := .cells #[.int .i64 x4_1, .int .i64 x5_3, .int .i64 t573] 32 (0, 0)) (by (with_reducible repeat (first | refine blk_drewN ?_ _ | refine blk_drew ?_ | refine blk_alloc ?_ _)); refine blk_put (cs := #[.int .i64 x4_1, .int .i64 x5_3, .int .i64 0]) ?_ 2 _ rfl; (with_reducible repeat (first | refine blk_drewN ?_ _ | refine blk_drew ?_ | refine blk_alloc ?_ _)); refine blk_put (cs := #[.int .i64 x4_1, .int .i64 0, .int .i64 0]) ?_ 1 _ rfl; (with_reducible repeat (first | refine blk_drewN ?_ _ | refine blk_drew ?_ | refine blk_alloc ?_ _)); refine blk_put (cs := #[.int .i64 0, .int .i64 0, .int .i64 0]) ?_ 0 _ rfl; (with_reducible repeat (first | refine blk_drewN ?_ _ | refine blk_drew ?_ | refine blk_alloc ?_ _)); exact BK574.out) hb); have n2_ := G.a (below_step (G.bes GE574.out) hb); clear HO_3; clear BK574; clear HB; have HO_3 := n0_; have BK574 := n1_; have HB := n2_; clear n0_ n1_ n2_; (try clear hb); (try clear hb2); (try clear hk); (try clear hi); have hcz20_0 : w19.cell? ⟨gb574, 0, none⟩ = some (.int .i64 x4_1) := (blk_cell BK574.out 0).trans rfl; have hcz20_1 : w19.cell? ⟨gb574, 1, none⟩ = some (.int .i64 x5_3) := (blk_cell BK574.out 1).trans rfl; have hcz20_2 : w19.cell? ⟨gb574, 2, none⟩ = some (.int .i64 t573) := (blk_cell BK574.out 2).trans rfl; have hfz20_0 := blk_frozen BK574.out 0; have hfz20_1 := blk_frozen BK574.out 1; have hfz20_2 := blk_frozen BK574.out 2) | ((with_reducible refine gate_builtin (b := .append) (xs := #[.tmp 38, .tmp 40]) rfl ?_); (try (refine gate_guard (by rfl) ?_; dsimp only)); at_builtin; refine Kd.R_append k32 (w0 := w) w.heap.size rfl (.tmp 38) (.tmp 40) 26 32 (.agg #[(.int .i64 0), (.int .i64 0), (.int .i64 0)]) 24 rfl Tryz.underlying26 info32 rfl (by decide) (by omega) u3 x3_3 (⟨x4_1, x5_3, t573⟩ : S32) [.int .i64 x4_1, .int .i64 x5_3, .int .i64 t573] (fun k_ => k_ ≠ gb574) (fun _ => False) rfl rfl ?aP (fun _ hk => hk.elim) ?aF ?aO ?aB ?aS ?aL ?_; (case aP => exact k32_mkM _ _ _ (⟨x4_1, x5_3, t573⟩ : S32)); (case aB => exact (G.bes GE574.out)); (case aF => exact (fun k_ hk => Kd.freshB (g := gb574) (o := .cells #[.int .i64 x4_1, .int .i64 x5_3, .int .i64 t573] 32 (0, 0)) (G.kB BK574.out) k_ hk)); (case aO => exact (by (with_reducible repeat (first | apply Kd.R_alloc | apply Kd.R_drewN | apply Kd.R_drew)); exact Kd.R_mono HO_3.out (fun _ hk => hk.2))); (case aS => exact (below_size (G.bes GE574.out))); (case aL => have := LMc14.out; omega); intro v577 w21 ho hb hg hat; rw [← Ny576.out] at ho; have n0_ := G.a (blk_grown (g := gb574) (o := .cells #[.int .i64 x4_1, .int .i64 x5_3, .int .i64 t573] 32 (0, 0)) (G.kB BK574.out) hg (Kd.R_away HO_3.out (fun _ hk => hk.2))); have n1_ := G.a (hb); have n2_ := G.a (ho); clear BK574; clear HB; clear HO_3; have BK574 := n0_; have HB := n1_; have HO578 := n2_; clear n0_ n1_ n2_; clear ho hb hg hat))
             go_roundg k3
             case measure => have := HK1.out; have := HJ3.out; have := HK3.out; omega
             case rel => exact ⟨(y576), (wrap64 (x5_3 + 1)), G.tr, H', ⟨by have := HK1.out; have := HJ3.out; have := HK3.out; omega⟩, ⟨by (with_reducible repeat (first | apply Kd.R_alloc | apply Kd.R_drewN | apply Kd.R_drew)); exact Kd.R_mono HO578.out (fun _ hk => trivial)⟩, ⟨G.bes GE574.out⟩⟩
            ·rw [if_neg c14] at H
             exact absurd H (by simp)
           ·replace c13 := Bool.eq_false_iff.mpr c13
            subst c13
            rw [if_neg (show ¬ (false = true) by decide)] at H
            have H' := G.a H
            clear H
            obtain ⟨i022, hi022, _, hsz22, _⟩ := info_parts info3
            obtain ⟨A22, hcut22, hA22, hC22⟩ := print_mid_of (P := Tryz.prog) (Value.int .i64) 0 24 3 .i64 .i64 Tryz.underlying24 hi022 hsz22 A0 c0 l0 x4_1 x5_3 G.odt (by first | omega | exact G.odt) G.odt HC0.out
            have HR572 := G.a (Kd.C_of_reads (h1 := fun _ => rfl) (hA22 _ (Kd.reads_of_C HR0.out)))
            have HC572 := G.a hC22
            clear hA22 hC22 hi022 hsz22
            go_wp2_with (first | ((with_reducible refine gate_callee (f := 30) rfl ?_); refine goesL_ (some 33) rfl rfl Tryz.func30 (by kernel_rfl) rfl #[.slice A22 ((l0.take (x5_3 : Int).toNat).drop (x4_1 : Int).toNat).length (c0 - x4_1.toNat)] rfl (by (try simp only [List.map_toArray, List.map_cons, List.map_nil]); first | done | (rw [show ((l0.take (x5_3 : Int).toNat).drop (x4_1 : Int).toNat).length = (x5_3.toNat - x4_1.toNat) from (by rw [List.length_drop, List.length_take]; have h_ : (x5_3 : Int) ≤ (l0.length : Int) := G.odt; omega)] <;> rfl) | rfl | (simp only [List.length_drop, List.length_take]; rfl)) ?_; (with_reducible refine (spec_LeastPeriod.calls k3 _ _ ((l0.take (x5_3 : Int).toNat).drop (x4_1 : Int).toNat) t573 _ ?side1 ?side2 A11.out).mono ?_); (case side1 => exact G.kC (Kd.C_below HR572.out HB.out)); (case side2 => exact HC572.out); rintro e w23 ⟨rfl, hb⟩; refine ⟨_, rfl, ?_⟩; have n0_ := G.a (Kd.R_below (G.kR HO_3.out) hb); have n1_ := G.a (below_step G.bel hb); clear HO_3; clear HB; have HO_3 := n0_; have HB := n1_; clear n0_ n1_; (try clear hb); (try clear hb2); (try clear hk); (try clear hi)) | ((with_reducible refine gate_dst (N := 6) rfl ?_); (try (refine gate_guard (by rfl) ?_; dsimp only)); refine box_event ?hg (N := 6) ?hd (cs := #[.int .i64 0, .int .i64 0, .int .i64 0]) (t := 32) ?hr ?_; (case hd => rfl); (case hg => rfl); (case hr => first | (go_simp; done) | (go_simp; rfl)); intro gb574 hg w24 hbox hb; have n0_ := G.a (Kd.R_below (Kd.R_elderB (G.kR HO_3.out) gb574 (Nat.le_of_eq hg.symm)) hb); have n1_ := G.a (below_step G.bel hb); have n2_ := G.a (hbox); have n3_ := G.a ((by rw [hg]; exact (below_size G.bel) : w.heap.size ≤ gb574)); have n4_ := G.a ((by rw [hg]; exact (below_size G.bel) : w.heap.size ≤ gb574)); clear HO_3; clear HB; have HO_3 := n0_; have HB := n1_; have BK574 := n2_; have GW574 := n3_; have GE574 := n4_; clear n0_ n1_ n2_ n3_ n4_; clear hb hbox hg; have hcz25_0 : w24.cell? ⟨gb574, 0, none⟩ = some (.int .i64 0) := (blk_cell BK574.out 0).trans rfl; have hcz25_1 : w24.cell? ⟨gb574, 1, none⟩ = some (.int .i64 0) := (blk_cell BK574.out 1).trans rfl; have hcz25_2 : w24.cell? ⟨gb574, 2, none⟩ = some (.int .i64 0) := (blk_cell BK574.out 2).trans rfl; have hfz25_0 := blk_frozen BK574.out 0; have hfz25_1 := blk_frozen BK574.out 1; have hfz25_2 := blk_frozen BK574.out 2) | ((with_reducible refine gate_callee (f := 20) rfl ?_); refine goesL_ (some 37) rfl rfl Tryz.func20 (by kernel_rfl) rfl #[.slice A0 l0.length c0, .agg #[.int .i64 x4_1, .int .i64 x5_3, .int .i64 t573]] rfl G.ar ?_; (with_reducible refine (spec_IsRun.calls k3 _ _ l0 x4_1 x5_3 t573 false _ ?side1 ?side2 A12.out).mono ?_); (case side1 => exact Kd.C_below HR0.out (G.bes GE574.out)); (case side2 => exact HC0.out); rintro e w26 ⟨rfl, hb⟩; refine ⟨_, rfl, ?_⟩; have n0_ := G.a (Kd.R_below (by (with_reducible repeat (first | apply Kd.R_alloc | apply Kd.R_drewN | apply Kd.R_drew)); exact (Kd.R_mono (Kd.R_far (p := ⟨gb574, 2, none⟩) (Kd.R_far (p := ⟨gb574, 1, none⟩) (Kd.R_far (p := ⟨gb574, 0, none⟩) (Kd.R_mono HO_3.out (fun k_ hk => (⟨hk, hk.2⟩ : _ ∧ k_ ≠ gb574))) (fun _ hk => hk.2) (.int .i64 x4_1)) (fun _ hk => hk.2) (.int .i64 x5_3)) (fun _ hk => hk.2) (.int .i64 t573)) (fun _ h_ => h_.1))) hb); have n1_ := G.a (blk_below (g := gb574) (o := .cells #[.int .i64 x4_1, .int .i64 x5_3, .int .i64 t573] 32 (0, 0)) (by (with_reducible repeat (first | refine blk_drewN ?_ _ | refine blk_drew ?_ | refine blk_alloc ?_ _)); refine blk_put (cs := #[.int .i64 x4_1, .int .i64 x5_3, .int .i64 0]) ?_ 2 _ rfl; (with_reducible repeat (first | refine blk_drewN ?_ _ | refine blk_drew ?_ | refine blk_alloc ?_ _)); refine blk_put (cs := #[.int .i64 x4_1, .int .i64 0, .int .i64 0]) ?_ 1 _ rfl; (with_reducible repeat (first | refine blk_drewN ?_ _ | refine blk_drew ?_ | refine blk_alloc ?_ _)); refine blk_put (cs := #[.int .i64 0, .int .i64 0, .int .i64 0]) ?_ 0 _ rfl; (with_reducible repeat (first | refine blk_drewN ?_ _ | refine blk_drew ?_ | refine blk_alloc ?_ _)); exact BK574.out) hb); have n2_ := G.a (below_step (G.bes GE574.out) hb); clear HO_3; clear BK574; clear HB; have HO_3 := n0_; have BK574 := n1_; have HB := n2_; clear n0_ n1_ n2_; (try clear hb); (try clear hb2); (try clear hk); (try clear hi)))
            go_roundg k3
            case measure => have := HK1.out; have := HJ3.out; have := HK3.out; omega
            case rel => exact ⟨(x3_3), (wrap64 (x5_3 + 1)), G.tr, H', ⟨by have := HK1.out; have := HJ3.out; have := HK3.out; omega⟩, ⟨by (with_reducible repeat (first | apply Kd.R_alloc | apply Kd.R_drewN | apply Kd.R_drew)); exact Kd.R_mono HO_3.out (fun _ hk => trivial)⟩, ⟨G.bes GE574.out⟩⟩
          ·rw [if_neg c9] at H
           exact absurd H (by simp)
         ·rw [if_neg c8] at H
          exact absurd H (by simp)
        ·rw [if_neg c7] at H
         have c7b0 : decide (x5_3 ≤ (l0.length : Int)) = false := decide_eq_false c7
         clear c7
         have H' := G.a H
         clear H
         go_wp2
         go_roundg k3
         case measure => have := HK1.out; have := HJ3.out; have := HK3.out; omega
         case rel => exact ⟨(x3_3), (wrap64 (x4_1 + 1)), G.tr, H', ⟨by have := HK1.out; have := HJ3.out; have := HK3.out; omega⟩, ⟨G.kR HO_3.out⟩, ⟨G.bel⟩⟩
     ·replace c6 := Bool.eq_false_iff.mpr c6
      subst c6
      rw [if_neg (show ¬ (false = true) by decide)] at H
      obtain rfl := Option.some.inj H
      go_wp2
      go_ret
      exact ⟨_, G.er, G.kR HO_3.out, G.bel⟩
def impl_CountRuns.f (k : Nat) (l0 : List Int) : Option (Int) := (impl_RunsOf.f k l0).bind fun t579 => (some (t579.length : Int))
theorem impl_CountRuns.calls (k : Nat) (A0 : Option Addr) (c0 : Nat) (l0 : List Int) (r : Int) (w : World) (hr0 : Kd.C (Kd.int .i64) w A0 l0.length l0) (hc0 : l0.length ≤ c0) (h : impl_CountRuns.f k l0 = some r) :
  Calls Tryz.prog 8 #[.slice A0 l0.length c0] w fun e w' => e = .returned (.int .i64 r) ∧ Below w.heap.size w w' := by
 have HR0 := G.a hr0
 have HC0 := G.a hc0
 clear hr0 hc0
 have HB := G.a (Below.refl w.heap.size w)
 have H : ((impl_RunsOf.f k l0).bind fun t579 => (some (t579.length : Int))) = some r := h
 clear h
 obtain ⟨t579, A2, H⟩ := G.bx H
 obtain rfl := Option.some.inj H
 go_enter Tryz.func8, Tryz.ntmps8
 go_wp2_with (first | ((with_reducible refine gate_callee (f := 6) rfl ?_); refine goesL_ (some 4) rfl rfl Tryz.func6 (by kernel_rfl) rfl #[.slice A0 l0.length c0] rfl G.ar ?_; (with_reducible refine (impl_RunsOf.calls k _ _ l0 t579 _ ?side1 ?side2 A2.out).mono ?_); (case side1 => exact G.kC HR0.out); (case side2 => exact HC0.out); rintro e w3 ⟨v580, rfl, ho0, hb⟩; refine ⟨_, rfl, ?_⟩; have n0_ := G.a (Kd.R_lower ho0 (below_size G.bel)); have n1_ := G.a (below_step G.bel hb); clear HB; have HO581 := n0_; have HB := n1_; clear n0_ n1_; (try clear hb); (try clear hb2); (try clear hk); (try clear hi); (try clear ho0); obtain ⟨Ao4, co4, eo4⟩ := Kd.R_slice HO581.out; subst eo4))
 go_ret
 exact ⟨G.er, G.bel⟩
def impl_RunExponents.l0 : Nat → Int → List (S32) → Int → Int → Option (Int)
 | 0, _, _, _, _ => none
 | k + 1, x3, x7, x8, x9 => if x9 < x8 then (if 0 ≤ x9 then (if x9 < (x7.length : Int) then (if ((rd_T32 x7 x9).f2) = 0 then (none) else (impl_RunExponents.l0 k (wrap64 (x3 + (wrap64 (Int.tdiv (wrap64 (((rd_T32 x7 x9).f1) - ((rd_T32 x7 x9).f0))) ((rd_T32 x7 x9).f2))))) x7 x8 (wrap64 (x9 + 1)))) else (none)) else (none)) else (some x3)
def impl_RunExponents.f (k : Nat) (l0 : List Int) : Option (Int) := (impl_RunsOf.f k l0).bind fun t582 => (impl_RunExponents.l0 k 0 t582 (t582.length : Int) 0)
theorem impl_RunExponents.calls (k : Nat) (A0 : Option Addr) (c0 : Nat) (l0 : List Int) (r : Int) (w : World) (hr0 : Kd.C (Kd.int .i64) w A0 l0.length l0) (hc0 : l0.length ≤ c0) (h : impl_RunExponents.f k l0 = some r) :
  Calls Tryz.prog 9 #[.slice A0 l0.length c0] w fun e w' => e = .returned (.int .i64 r) ∧ Below w.heap.size w w' := by
 have hu32 := Tryz.underlying32
 have HR0 := G.a hr0
 have HC0 := G.a hc0
 clear hr0 hc0
 have HB := G.a (Below.refl w.heap.size w)
 have H : ((impl_RunsOf.f k l0).bind fun t582 => (impl_RunExponents.l0 k 0 t582 (t582.length : Int) 0)) = some r := h
 clear h
 obtain ⟨t582, A2, H⟩ := G.bx H
 have H' := G.a H
 clear H
 go_enter Tryz.func9, Tryz.ntmps9
 go_wp2_with (first | ((with_reducible refine gate_callee (f := 6) rfl ?_); refine goesL_ (some 7) rfl rfl Tryz.func6 (by kernel_rfl) rfl #[.slice A0 l0.length c0] rfl G.ar ?_; (with_reducible refine (impl_RunsOf.calls k _ _ l0 t582 _ ?side1 ?side2 A2.out).mono ?_); (case side1 => exact G.kC HR0.out); (case side2 => exact HC0.out); rintro e w3 ⟨v583, rfl, ho0, hb⟩; refine ⟨_, rfl, ?_⟩; have n0_ := G.a (Kd.R_lower ho0 (below_size G.bel)); have n1_ := G.a (below_step G.bel hb); clear HB; have HO584 := n0_; have HB := n1_; clear n0_ n1_; (try clear hb); (try clear hb2); (try clear hk); (try clear hi); (try clear ho0); obtain ⟨Ao4, co4, eo4⟩ := Kd.R_slice HO584.out; subst eo4))
 go_loopg [3, 9] k (fun kq v3 v9 w' => ∃ (x3_1 : Int) (x9_1 : Int), v3 = .int .i64 x3_1 ∧ v9 = .int .i64 x9_1 ∧ Aside0 (impl_RunExponents.l0 kq x3_1 t582 (t582.length : Int) x9_1 = some r) ∧ Aside0 (kq ≤ k) ∧ Aside0 (Kd.R k32 32 w' w.heap.size (fun _ => True) (.slice Ao4 t582.length co4) t582) ∧ Aside0 (Below w.heap.size w w'))
 case atStart => exact ⟨(0), (0), G.tr, G.tr, H', ⟨Nat.le_refl _⟩, ⟨G.kR HO584.out⟩, ⟨G.bel⟩⟩
 case round =>
  clear H'
  try clear p2
  obtain ⟨x3_1, x9_1, rfl, rfl, HA, HK1, HO_7, HB⟩ := hrel
  cases gk with
  | zero => exact absurd HA.out (by simp [impl_RunExponents.l0])
  | succ k1 =>
   have H := HA.out
   clear HA
   simp only [impl_RunExponents.l0] at H
   by_cases c5 : x9_1 < (t582.length : Int)
   ·rw [if_pos c5] at H
    have c5b0 : decide (x9_1 < (t582.length : Int)) = true := decide_eq_true c5
    clear c5
    by_cases c6 : 0 ≤ x9_1
    ·rw [if_pos c6] at H
     have c6b0 : decide (0 ≤ x9_1) = true := decide_eq_true c6
     clear c6
     by_cases c7 : x9_1 < (t582.length : Int)
     ·rw [if_pos c7] at H
      have c7b0 : decide (x9_1 < (t582.length : Int)) = true := decide_eq_true c7
      clear c7
      by_cases c8 : ((rd_T32 t582 x9_1).f2) = 0
      ·rw [if_pos c8] at H
       exact absurd H (by simp)
      ·rw [if_neg c8] at H
       have c8b0 : (((rd_T32 t582 x9_1).f2) == 0) = false := beq_eq_false_iff_ne.mpr c8
       have c8b1 : (((rd_T32 t582 x9_1).f2) != 0) = true := bne_iff_ne.mpr c8
       have H' := G.a H
       clear H
       have p585 : 0 ≤ (x9_1 : Int) := G.odt
       have q585 : x9_1 < (t582.length : Int) := G.odt
       obtain ⟨ad585, e585, hx585_0, hx585_1, hx585_2⟩ := at_T32 (Kd.R_reads' HO_7.out).2.2 x9_1 p585 q585
       cases e585
       replace p585 := eq_true p585
       replace q585 := eq_true q585
       go_wp2_with (first | ((with_reducible refine gate_dst (N := 5) rfl ?_); refine box_event ?hg (N := 5) ?hd (cs := #[.int .i64 0, .int .i64 0, .int .i64 0]) (t := 32) ?hr ?_; (case hd => rfl); (case hg => rfl); (case hr => first | (go_simp; done) | (go_simp; rfl)); intro gb586 hg w9 hbox hb; have n0_ := G.a (Kd.R_below (Kd.R_elderB (G.kR HO_7.out) gb586 (Nat.le_of_eq hg.symm)) hb); have n1_ := G.a (below_step G.bel hb); have n2_ := G.a (hbox); have n3_ := G.a ((by rw [hg]; exact (below_size G.bel) : w.heap.size ≤ gb586)); have n4_ := G.a ((by rw [hg]; exact (below_size G.bel) : w.heap.size ≤ gb586)); clear HO_7; clear HB; have HO_7 := n0_; have HB := n1_; have BK586 := n2_; have GW586 := n3_; have GE586 := n4_; clear n0_ n1_ n2_ n3_ n4_; clear hb hbox hg; have hcz10_0 : w9.cell? ⟨gb586, 0, none⟩ = some (.int .i64 0) := (blk_cell BK586.out 0).trans rfl; have hcz10_1 : w9.cell? ⟨gb586, 1, none⟩ = some (.int .i64 0) := (blk_cell BK586.out 1).trans rfl; have hcz10_2 : w9.cell? ⟨gb586, 2, none⟩ = some (.int .i64 0) := (blk_cell BK586.out 2).trans rfl; have hfz10_0 := blk_frozen BK586.out 0; have hfz10_1 := blk_frozen BK586.out 1; have hfz10_2 := blk_frozen BK586.out 2))
       go_roundg k1
       case measure => have := HK1.out; omega
       case rel => exact ⟨(wrap64 (x3_1 + (wrap64 (Int.tdiv (wrap64 (((rd_T32 t582 x9_1).f1) - ((rd_T32 t582 x9_1).f0))) ((rd_T32 t582 x9_1).f2))))), (wrap64 (x9_1 + 1)), G.tr, G.tr, H', ⟨by have := HK1.out; omega⟩, ⟨by (with_reducible repeat (first | apply Kd.R_alloc | apply Kd.R_drewN | apply Kd.R_drew)); exact Kd.R_mono (Kd.R_far (p := ⟨gb586, 2, none⟩) (Kd.R_far (p := ⟨gb586, 1, none⟩) (Kd.R_far (p := ⟨gb586, 0, none⟩) (Kd.R_mono HO_7.out (fun k_ hk => (⟨hk, hk.2⟩ : _ ∧ k_ ≠ gb586))) (fun _ hk => hk.2) (.int .i64 ((rd_T32 t582 x9_1).f0))) (fun _ hk => hk.2) (.int .i64 ((rd_T32 t582 x9_1).f1))) (fun _ hk => hk.2) (.int .i64 ((rd_T32 t582 x9_1).f2))) (fun _ hk => trivial)⟩, ⟨G.bes GE586.out⟩⟩
     ·rw [if_neg c7] at H
      exact absurd H (by simp)
    ·rw [if_neg c6] at H
     exact absurd H (by simp)
   ·rw [if_neg c5] at H
    have c5b0 : decide (x9_1 < (t582.length : Int)) = false := decide_eq_false c5
    clear c5
    obtain rfl := Option.some.inj H
    go_wp2
    go_ret
    exact ⟨G.er, G.bel⟩
def spec_RunExponents.l0 : Nat → Int → List (S32) → Int → Option (Int)
 | 0, _, _, _ => none
 | k + 1, x3, x4, x5 => if x5 < (x4.length : Int) then (if 0 ≤ x5 then (if ((rd_T32 x4 x5).f2) = 0 then (none) else (spec_RunExponents.l0 k (wrap64 (x3 + (wrap64 (Int.tdiv (wrap64 (((rd_T32 x4 x5).f1) - ((rd_T32 x4 x5).f0))) ((rd_T32 x4 x5).f2))))) x4 (wrap64 (x5 + 1)))) else (none)) else (some x3)
def spec_RunExponents.f (k : Nat) (l0 : List Int) : Option (Int) := (spec_RunsOf.f k l0).bind fun t587 => (spec_RunExponents.l0 k 0 t587 0)
theorem spec_RunExponents.calls (k : Nat) (A0 : Option Addr) (c0 : Nat) (l0 : List Int) (r : Int) (w : World) (hr0 : Kd.C (Kd.int .i64) w A0 l0.length l0) (hc0 : l0.length ≤ c0) (h : spec_RunExponents.f k l0 = some r) :
  Calls Tryz.prog 10 #[.slice A0 l0.length c0] w fun e w' => e = .returned (.int .i64 r) ∧ Below w.heap.size w w' := by
 have HR0 := G.a hr0
 have HC0 := G.a hc0
 clear hr0 hc0
 have HB := G.a (Below.refl w.heap.size w)
 have H : ((spec_RunsOf.f k l0).bind fun t587 => (spec_RunExponents.l0 k 0 t587 0)) = some r := h
 clear h
 obtain ⟨t587, A2, H⟩ := G.bx H
 have H' := G.a H
 clear H
 go_enter Tryz.func10, Tryz.ntmps10
 go_wp2_with (first | (go_at_call 7; (with_reducible refine (spec_RunsOf.calls k _ _ l0 t587 _ ?side1 ?side2 A2.out).mono ?_); (case side1 => exact G.kC HR0.out); (case side2 => exact HC0.out); rintro e w3 ⟨v588, rfl, ho0, hb⟩; have n0_ := G.a (Kd.R_lower ho0 (below_size G.bel)); have n1_ := G.a (below_step G.bel hb); clear HB; have HO589 := n0_; have HB := n1_; clear n0_ n1_; (try clear hb); (try clear hb2); (try clear hk); (try clear hi); (try clear ho0)))
 repeat (go_quiet (first | (go_at_call 7; (with_reducible refine (spec_RunsOf.calls k _ _ l0 t587 _ ?side1 ?side2 A2.out).mono ?_); (case side1 => exact G.kC HR0.out); (case side2 => exact HC0.out); rintro e w3 ⟨v588, rfl, ho0, hb⟩; have n0_ := G.a (Kd.R_lower ho0 (below_size G.bel)); have n1_ := G.a (below_step G.bel hb); clear HB; have HO589 := n0_; have HB := n1_; clear n0_ n1_; (try clear hb); (try clear hb2); (try clear hk); (try clear hi); (try clear ho0))); try go_wp2_with (first | (go_at_call 7; (with_reducible refine (spec_RunsOf.calls k _ _ l0 t587 _ ?side1 ?side2 A2.out).mono ?_); (case side1 => exact G.kC HR0.out); (case side2 => exact HC0.out); rintro e w3 ⟨v588, rfl, ho0, hb⟩; have n0_ := G.a (Kd.R_lower ho0 (below_size G.bel)); have n1_ := G.a (below_step G.bel hb); clear HB; have HO589 := n0_; have HB := n1_; clear n0_ n1_; (try clear hb); (try clear hb2); (try clear hk); (try clear hi); (try clear ho0))))
 go_loopg [3, 5] k (fun kq v3 v5 w' => ∃ (x3_1 : Int) (x5_1 : Int), v3 = .int .i64 x3_1 ∧ v5 = .int .i64 x5_1 ∧ Aside0 (spec_RunExponents.l0 kq x3_1 t587 x5_1 = some r) ∧ Aside0 (kq ≤ k) ∧ Aside0 (Kd.R k32 32 w' w.heap.size (fun _ => True) v588 t587) ∧ Aside0 (Below w.heap.size w w'))
 case atStart => exact ⟨(0), (0), G.tr, G.tr, H', ⟨Nat.le_refl _⟩, ⟨G.kR HO589.out⟩, ⟨G.bel⟩⟩
 case round =>
  clear H'
  try clear c1; try clear p2
  obtain ⟨x3_1, x5_1, rfl, rfl, HA, HK1, HO_4, HB⟩ := hrel
  cases gk with
  | zero => exact absurd HA.out (by simp [spec_RunExponents.l0])
  | succ k1 =>
   have H := HA.out
   clear HA
   simp only [spec_RunExponents.l0] at H
   by_cases c4 : x5_1 < (t587.length : Int)
   ·rw [if_pos c4] at H
    have c4b0 : decide (x5_1 < (t587.length : Int)) = true := decide_eq_true c4
    clear c4
    by_cases c5 : 0 ≤ x5_1
    ·rw [if_pos c5] at H
     have c5b0 : decide (0 ≤ x5_1) = true := decide_eq_true c5
     clear c5
     by_cases c6 : ((rd_T32 t587 x5_1).f2) = 0
     ·rw [if_pos c6] at H
      exact absurd H (by simp)
     ·rw [if_neg c6] at H
      have c6b0 : (((rd_T32 t587 x5_1).f2) == 0) = false := beq_eq_false_iff_ne.mpr c6
      have c6b1 : (((rd_T32 t587 x5_1).f2) != 0) = true := bne_iff_ne.mpr c6
      have H' := G.a H
      clear H
      obtain ⟨Ao7, co7, eo7⟩ := Kd.R_slice HO_4.out
      subst eo7
      have p590 : 0 ≤ (x5_1 : Int) := G.odt
      have q590 : x5_1 < (t587.length : Int) := G.odt
      obtain ⟨ad590, e590, hx590_0, hx590_1, hx590_2⟩ := at_T32 (Kd.R_reads' HO_4.out).2.2 x5_1 p590 q590
      cases e590
      replace p590 := eq_true p590
      replace q590 := eq_true q590
      have p591 : 0 ≤ (x5_1 : Int) := G.odt
      have q591 : x5_1 < (t587.length : Int) := G.odt
      obtain ⟨ad591, e591, hx591_0, hx591_1, hx591_2⟩ := at_T32 (Kd.R_reads' HO_4.out).2.2 x5_1 p591 q591
      obtain rfl : ad590 = ad591 := (by injection e591)
      replace p591 := eq_true p591
      replace q591 := eq_true q591
      have p592 : 0 ≤ (x5_1 : Int) := G.odt
      have q592 : x5_1 < (t587.length : Int) := G.odt
      obtain ⟨ad592, e592, hx592_0, hx592_1, hx592_2⟩ := at_T32 (Kd.R_reads' HO_4.out).2.2 x5_1 p592 q592
      obtain rfl : ad590 = ad592 := (by injection e592)
      replace p592 := eq_true p592
      replace q592 := eq_true q592
      go_wp2
      repeat (go_quiet (fail); try go_wp2)
      go_roundg k1
      case measure => have := HK1.out; omega
      case rel => exact ⟨(wrap64 (x3_1 + (wrap64 (Int.tdiv (wrap64 (((rd_T32 t587 x5_1).f1) - ((rd_T32 t587 x5_1).f0))) ((rd_T32 t587 x5_1).f2))))), (wrap64 (x5_1 + 1)), G.tr, G.tr, H', ⟨by have := HK1.out; omega⟩, ⟨G.kR HO_4.out⟩, ⟨G.bel⟩⟩
    ·rw [if_neg c5] at H
     exact absurd H (by simp)
   ·rw [if_neg c4] at H
    have c4b0 : decide (x5_1 < (t587.length : Int)) = false := decide_eq_false c4
    clear c4
    obtain rfl := Option.some.inj H
    obtain ⟨Ao8, co8, eo8⟩ := Kd.R_slice HO_4.out
    subst eo8
    go_wp2
    repeat (go_quiet (fail); try go_wp2)
    go_ret
    exact ⟨G.er, G.bel⟩
def impl_Run_46.l0 : Nat → List (S32) → Int → Int → Int → Int → Int → Option (Int)
 | 0, _, _, _, _, _, _ => none
 | k + 1, x0, x7, x8, x594000, x594001, x594002 => if x8 < x7 then (if 0 ≤ x8 then (if x8 < (x0.length : Int) then (if (x594000 == ((rd_T32 x0 x8).f0) && (x594001 == ((rd_T32 x0 x8).f1) && (x594002 == ((rd_T32 x0 x8).f2)))) = true then (some x8) else (impl_Run_46.l0 k x0 x7 (wrap64 (x8 + 1)) x594000 x594001 x594002)) else (none)) else (none)) else (some (-1))
def impl_Run_46.f (k : Nat) (l0 : List (S32)) (a1_0 : Int) (a1_1 : Int) (a1_2 : Int) : Option (Int) := impl_Run_46.l0 k l0 (l0.length : Int) 0 a1_0 a1_1 a1_2
theorem impl_Run_46.calls (k : Nat) (A0 : Option Addr) (c0 : Nat) (l0 : List (S32)) (a1_0 : Int) (a1_1 : Int) (a1_2 : Int) (r : Int) (w : World) (hr0 : Kd.C k32 w A0 l0.length l0) (hc0 : l0.length ≤ c0) (h : impl_Run_46.f k l0 a1_0 a1_1 a1_2 = some r) :
  Calls Tryz.prog 46 #[.slice A0 l0.length c0, .agg #[.int .i64 a1_0, .int .i64 a1_1, .int .i64 a1_2]] w fun e w' => e = .returned (.int .i64 r) ∧ Below w.heap.size w w' := by
 have hu32 := Tryz.underlying32
 have HR0 := G.a hr0
 have HC0 := G.a hc0
 clear hr0 hc0
 have HB := G.a (Below.refl w.heap.size w)
 have H : (impl_Run_46.l0 k l0 (l0.length : Int) 0 a1_0 a1_1 a1_2) = some r := h
 clear h
 have H' := G.a H
 clear H
 go_enter Tryz.func46, Tryz.ntmps46
 go_wp2_with (first | ((with_reducible refine gate_dst (N := 3) rfl ?_); refine box_event ?hg (N := 3) ?hd (cs := #[.int .i64 a1_0, .int .i64 a1_1, .int .i64 a1_2]) (t := 32) ?hr ?_; (case hd => rfl); (case hg => rfl); (case hr => first | (go_simp; done) | (go_simp; rfl)); intro gb593 hg w3 hbox hb; have n0_ := G.a (below_step G.bel hb); have n1_ := G.a (hbox); have n2_ := G.a ((by rw [hg]; exact (below_size G.bel) : w.heap.size ≤ gb593)); have n3_ := G.a ((by rw [hg]; exact (below_size G.bel) : w.heap.size ≤ gb593)); clear HB; have HB := n0_; have BK593 := n1_; have GW593 := n2_; have GE593 := n3_; clear n0_ n1_ n2_ n3_; clear hb hbox hg))
 repeat (go_quiet (first | ((with_reducible refine gate_dst (N := 3) rfl ?_); refine box_event ?hg (N := 3) ?hd (cs := #[.int .i64 a1_0, .int .i64 a1_1, .int .i64 a1_2]) (t := 32) ?hr ?_; (case hd => rfl); (case hg => rfl); (case hr => first | (go_simp; done) | (go_simp; rfl)); intro gb593 hg w3 hbox hb; have n0_ := G.a (below_step G.bel hb); have n1_ := G.a (hbox); have n2_ := G.a ((by rw [hg]; exact (below_size G.bel) : w.heap.size ≤ gb593)); have n3_ := G.a ((by rw [hg]; exact (below_size G.bel) : w.heap.size ≤ gb593)); clear HB; have HB := n0_; have BK593 := n1_; have GW593 := n2_; have GE593 := n3_; clear n0_ n1_ n2_ n3_; clear hb hbox hg)); try go_wp2_with (first | ((with_reducible refine gate_dst (N := 3) rfl ?_); refine box_event ?hg (N := 3) ?hd (cs := #[.int .i64 a1_0, .int .i64 a1_1, .int .i64 a1_2]) (t := 32) ?hr ?_; (case hd => rfl); (case hg => rfl); (case hr => first | (go_simp; done) | (go_simp; rfl)); intro gb593 hg w3 hbox hb; have n0_ := G.a (below_step G.bel hb); have n1_ := G.a (hbox); have n2_ := G.a ((by rw [hg]; exact (below_size G.bel) : w.heap.size ≤ gb593)); have n3_ := G.a ((by rw [hg]; exact (below_size G.bel) : w.heap.size ≤ gb593)); clear HB; have HB := n0_; have BK593 := n1_; have GW593 := n2_; have GE593 := n3_; clear n0_ n1_ n2_ n3_; clear hb hbox hg)))
 go_loopg [8] k (fun kq v8 w' => ∃ (x8_1 : Int), v8 = .int .i64 x8_1 ∧ Aside0 (impl_Run_46.l0 kq l0 (l0.length : Int) x8_1 a1_0 a1_1 a1_2 = some r) ∧ Aside0 (kq ≤ k) ∧ Aside0 (w'.heap[gb593]? = some (.cells #[.int .i64 a1_0, .int .i64 a1_1, .int .i64 a1_2] 32 (0, 0))) ∧ Aside0 (Below w.heap.size w w'))
 case atStart => exact ⟨(0), G.tr, H', ⟨Nat.le_refl _⟩, ⟨G.kB BK593.out⟩, ⟨G.bes GE593.out⟩⟩
 case round =>
  clear H'
  try clear p2
  obtain ⟨x8_1, rfl, HA, HK1, BK593, HB⟩ := hrel
  cases gk with
  | zero => exact absurd HA.out (by simp [impl_Run_46.l0])
  | succ k1 =>
   have H := HA.out
   clear HA
   simp only [impl_Run_46.l0] at H
   by_cases c4 : x8_1 < (l0.length : Int)
   ·rw [if_pos c4] at H
    have c4b0 : decide (x8_1 < (l0.length : Int)) = true := decide_eq_true c4
    clear c4
    by_cases c5 : 0 ≤ x8_1
    ·rw [if_pos c5] at H
     have c5b0 : decide (0 ≤ x8_1) = true := decide_eq_true c5
     clear c5
     by_cases c6 : x8_1 < (l0.length : Int)
     ·rw [if_pos c6] at H
      have c6b0 : decide (x8_1 < (l0.length : Int)) = true := decide_eq_true c6
      clear c6
      by_cases c7 : (a1_0 == ((rd_T32 l0 x8_1).f0) && (a1_1 == ((rd_T32 l0 x8_1).f1) && (a1_2 == ((rd_T32 l0 x8_1).f2)))) = true
      ·rw [if_pos c7] at H
       have c7b0 : (a1_0 == ((rd_T32 l0 x8_1).f0) && (a1_1 == ((rd_T32 l0 x8_1).f1) && (a1_2 == ((rd_T32 l0 x8_1).f2)))) = true := c7
       (try (have c7b1 : decide (a1_0 = ((rd_T32 l0 x8_1).f0) && (a1_1 == ((rd_T32 l0 x8_1).f1) && (a1_2 == ((rd_T32 l0 x8_1).f2)))) = true := by simpa using c7))
       (try (have c7b2 : (a1_0 == ((rd_T32 l0 x8_1).f0) && (a1_1 == ((rd_T32 l0 x8_1).f1) && (a1_2 == ((rd_T32 l0 x8_1).f2)))) = true := by simpa using c7))
       clear c7
       obtain rfl := Option.some.inj H
       have hcz8_0 : wr.cell? ⟨gb593, 0, none⟩ = some (.int .i64 a1_0) := (blk_cell BK593.out 0).trans rfl
       have hcz8_1 : wr.cell? ⟨gb593, 1, none⟩ = some (.int .i64 a1_1) := (blk_cell BK593.out 1).trans rfl
       have hcz8_2 : wr.cell? ⟨gb593, 2, none⟩ = some (.int .i64 a1_2) := (blk_cell BK593.out 2).trans rfl
       have hfz8_0 := blk_frozen BK593.out 0
       have hfz8_1 := blk_frozen BK593.out 1
       have hfz8_2 := blk_frozen BK593.out 2
       have p594 : 0 ≤ (x8_1 : Int) := G.odt
       have q594 : x8_1 < (l0.length : Int) := G.odt
       obtain ⟨ad594, e594, hx594_0, hx594_1, hx594_2⟩ := at_T32 HR0.out x8_1 p594 q594
       cases e594
       replace hx594_0 := (HB.out.cell (World.block_lt_of_cell? w _ hx594_0)).trans hx594_0
       replace hx594_1 := (HB.out.cell (World.block_lt_of_cell? w _ hx594_1)).trans hx594_1
       replace hx594_2 := (HB.out.cell (World.block_lt_of_cell? w _ hx594_2)).trans hx594_2
       replace p594 := eq_true p594
       replace q594 := eq_true q594
       go_wp2
       repeat (go_quiet (fail); try go_wp2)
       go_ret
       exact ⟨G.er, G.bes GE593.out⟩
      ·rw [if_neg c7] at H
       have c7b0 : (a1_0 == ((rd_T32 l0 x8_1).f0) && (a1_1 == ((rd_T32 l0 x8_1).f1) && (a1_2 == ((rd_T32 l0 x8_1).f2)))) = false := by simpa using c7
       (try (have c7b1 : decide (a1_0 = ((rd_T32 l0 x8_1).f0) && (a1_1 == ((rd_T32 l0 x8_1).f1) && (a1_2 == ((rd_T32 l0 x8_1).f2)))) = false := by simpa using c7))
       (try (have c7b2 : (a1_0 == ((rd_T32 l0 x8_1).f0) && (a1_1 == ((rd_T32 l0 x8_1).f1) && (a1_2 == ((rd_T32 l0 x8_1).f2)))) = false := by simpa using c7))
       (try (have c7b3 : ¬ (a1_0 = ((rd_T32 l0 x8_1).f0) && (a1_1 == ((rd_T32 l0 x8_1).f1) && (a1_2 == ((rd_T32 l0 x8_1).f2)))) := by simpa using c7))
       clear c7
       have H' := G.a H
       clear H
       have hcz9_0 : wr.cell? ⟨gb593, 0, none⟩ = some (.int .i64 a1_0) := (blk_cell BK593.out 0).trans rfl
       have hcz9_1 : wr.cell? ⟨gb593, 1, none⟩ = some (.int .i64 a1_1) := (blk_cell BK593.out 1).trans rfl
       have hcz9_2 : wr.cell? ⟨gb593, 2, none⟩ = some (.int .i64 a1_2) := (blk_cell BK593.out 2).trans rfl
       have hfz9_0 := blk_frozen BK593.out 0
       have hfz9_1 := blk_frozen BK593.out 1
       have hfz9_2 := blk_frozen BK593.out 2
       have p594 : 0 ≤ (x8_1 : Int) := G.odt
       have q594 : x8_1 < (l0.length : Int) := G.odt
       obtain ⟨ad594, e594, hx594_0, hx594_1, hx594_2⟩ := at_T32 HR0.out x8_1 p594 q594
       cases e594
       replace hx594_0 := (HB.out.cell (World.block_lt_of_cell? w _ hx594_0)).trans hx594_0
       replace hx594_1 := (HB.out.cell (World.block_lt_of_cell? w _ hx594_1)).trans hx594_1
       replace hx594_2 := (HB.out.cell (World.block_lt_of_cell? w _ hx594_2)).trans hx594_2
       replace p594 := eq_true p594
       replace q594 := eq_true q594
       go_wp2
       repeat (go_quiet (fail); try go_wp2)
       go_roundg k1
       case measure => have := HK1.out; omega
       case rel => exact ⟨(wrap64 (x8_1 + 1)), G.tr, H', ⟨by have := HK1.out; omega⟩, ⟨G.kB BK593.out⟩, ⟨G.bes GE593.out⟩⟩
     ·rw [if_neg c6] at H
      exact absurd H (by simp)
    ·rw [if_neg c5] at H
     exact absurd H (by simp)
   ·rw [if_neg c4] at H
    have c4b0 : decide (x8_1 < (l0.length : Int)) = false := decide_eq_false c4
    clear c4
    obtain rfl := Option.some.inj H
    go_wp2
    repeat (go_quiet (fail); try go_wp2)
    go_ret
    exact ⟨G.er, G.bes GE593.out⟩
def impl_Run_32.f (k : Nat) (l0 : List (S32)) (a1_0 : Int) (a1_1 : Int) (a1_2 : Int) : Option (Bool) := (impl_Run_46.f k l0 a1_0 a1_1 a1_2).bind fun t596 => (some (decide (t596 ≥ 0)))
theorem impl_Run_32.calls (k : Nat) (A0 : Option Addr) (c0 : Nat) (l0 : List (S32)) (a1_0 : Int) (a1_1 : Int) (a1_2 : Int) (r : Bool) (w : World) (hr0 : Kd.C k32 w A0 l0.length l0) (hc0 : l0.length ≤ c0) (h : impl_Run_32.f k l0 a1_0 a1_1 a1_2 = some r) :
  Calls Tryz.prog 32 #[.slice A0 l0.length c0, .agg #[.int .i64 a1_0, .int .i64 a1_1, .int .i64 a1_2]] w fun e w' => e = .returned (.bool r) ∧ Below w.heap.size w w' := by
 have hu32 := Tryz.underlying32
 have HR0 := G.a hr0
 have HC0 := G.a hc0
 clear hr0 hc0
 have HB := G.a (Below.refl w.heap.size w)
 have H : ((impl_Run_46.f k l0 a1_0 a1_1 a1_2).bind fun t596 => (some (decide (t596 ≥ 0)))) = some r := h
 clear h
 obtain ⟨t596, A3, H⟩ := G.bx H
 obtain rfl := Option.some.inj H
 go_enter Tryz.func32, Tryz.ntmps32
 go_wp2_with (first | ((with_reducible refine gate_dst (N := 3) rfl ?_); refine box_event ?hg (N := 3) ?hd (cs := #[.int .i64 a1_0, .int .i64 a1_1, .int .i64 a1_2]) (t := 32) ?hr ?_; (case hd => rfl); (case hg => rfl); (case hr => first | (go_simp; done) | (go_simp; rfl)); intro gb595 hg w4 hbox hb; have n0_ := G.a (below_step G.bel hb); have n1_ := G.a (hbox); have n2_ := G.a ((by rw [hg]; exact (below_size G.bel) : w.heap.size ≤ gb595)); have n3_ := G.a ((by rw [hg]; exact (below_size G.bel) : w.heap.size ≤ gb595)); clear HB; have HB := n0_; have BK595 := n1_; have GW595 := n2_; have GE595 := n3_; clear n0_ n1_ n2_ n3_; clear hb hbox hg; have hcz5_0 : w4.cell? ⟨gb595, 0, none⟩ = some (.int .i64 a1_0) := (blk_cell BK595.out 0).trans rfl; have hcz5_1 : w4.cell? ⟨gb595, 1, none⟩ = some (.int .i64 a1_1) := (blk_cell BK595.out 1).trans rfl; have hcz5_2 : w4.cell? ⟨gb595, 2, none⟩ = some (.int .i64 a1_2) := (blk_cell BK595.out 2).trans rfl; have hfz5_0 := blk_frozen BK595.out 0; have hfz5_1 := blk_frozen BK595.out 1; have hfz5_2 := blk_frozen BK595.out 2) | ((with_reducible refine gate_callee (f := 46) rfl ?_); refine goesL_ (some 7) rfl rfl Tryz.func46 (by kernel_rfl) rfl #[.slice A0 l0.length c0, .agg #[.int .i64 a1_0, .int .i64 a1_1, .int .i64 a1_2]] rfl G.ar ?_; (with_reducible refine (impl_Run_46.calls k _ _ l0 a1_0 a1_1 a1_2 t596 _ ?side1 ?side2 A3.out).mono ?_); (case side1 => exact G.kC (Kd.C_below HR0.out HB.out)); (case side2 => exact HC0.out); rintro e w6 ⟨rfl, hb⟩; refine ⟨_, rfl, ?_⟩; have n0_ := G.a (blk_below (g := gb595) (o := .cells #[.int .i64 a1_0, .int .i64 a1_1, .int .i64 a1_2] 32 (0, 0)) (G.kB BK595.out) hb); have n1_ := G.a (below_step (G.bes GE595.out) hb); clear BK595; clear HB; have BK595 := n0_; have HB := n1_; clear n0_ n1_; (try clear hb); (try clear hb2); (try clear hk); (try clear hi)))
 go_ret
 exact ⟨G.er, G.bes GE595.out⟩
def impl_IsRun.f (k : Nat) (l0 : List Int) (a1_0 : Int) (a1_1 : Int) (a1_2 : Int) : Option (Bool) := (impl_RunsOf.f k l0).bind fun t598 => ((impl_Run_32.f k t598 a1_0 a1_1 a1_2).bind fun t601 => (some t601))
theorem impl_IsRun.calls (k : Nat) (A0 : Option Addr) (c0 : Nat) (l0 : List Int) (a1_0 : Int) (a1_1 : Int) (a1_2 : Int) (r : Bool) (w : World) (hr0 : Kd.C (Kd.int .i64) w A0 l0.length l0) (hc0 : l0.length ≤ c0) (h : impl_IsRun.f k l0 a1_0 a1_1 a1_2 = some r) :
  Calls Tryz.prog 12 #[.slice A0 l0.length c0, .agg #[.int .i64 a1_0, .int .i64 a1_1, .int .i64 a1_2]] w fun e w' => e = .returned (.bool r) ∧ Below w.heap.size w w' := by
 have hu32 := Tryz.underlying32
 have HR0 := G.a hr0
 have HC0 := G.a hc0
 clear hr0 hc0
 have HB := G.a (Below.refl w.heap.size w)
 have H : ((impl_RunsOf.f k l0).bind fun t598 => ((impl_Run_32.f k t598 a1_0 a1_1 a1_2).bind fun t601 => (some t601))) = some r := h
 clear h
 obtain ⟨t598, A3, H⟩ := G.bx H
 obtain ⟨t601, A4, H⟩ := G.bx H
 obtain rfl := Option.some.inj H
 go_enter Tryz.func12, Tryz.ntmps12
 try go_wp2_with (first | ((with_reducible refine gate_dst (N := 3) rfl ?_); refine box_event ?hg (N := 3) ?hd (cs := #[.int .i64 a1_0, .int .i64 a1_1, .int .i64 a1_2]) (t := 32) ?hr ?_; (case hd => rfl); (case hg => rfl); (case hr => first | (go_simp; done) | (go_simp; rfl)); intro gb597 hg w5 hbox hb; have n0_ := G.a (below_step G.bel hb); have n1_ := G.a (hbox); have n2_ := G.a ((by rw [hg]; exact (below_size G.bel) : w.heap.size ≤ gb597)); have n3_ := G.a ((by rw [hg]; exact (below_size G.bel) : w.heap.size ≤ gb597)); clear HB; have HB := n0_; have BK597 := n1_; have GW597 := n2_; have GE597 := n3_; clear n0_ n1_ n2_ n3_; clear hb hbox hg))
 have n0_ := G.a (blk_drew BK597.out)
 have n1_ := G.a (below_drew1 HB.out)
 clear BK597
 clear HB
 have BK597 := n0_
 have HB := n1_
 clear n0_ n1_
 refine start_ (n := 5) (S := fun w' => w'.cell? ⟨gb597, 0, none⟩ = some (.int .i64 a1_0) ∧ w'.cell? ⟨gb597, 1, none⟩ = some (.int .i64 a1_1) ∧ w'.cell? ⟨gb597, 2, none⟩ = some (.int .i64 a1_2)) (ds := []) #[false, false, false, false, false] (by kernel_rfl) rfl rfl ⟨(blk_cell BK597.out 0).trans rfl, (blk_cell BK597.out 1).trans rfl, (blk_cell BK597.out 2).trans rfl⟩ (fun hHeld => ?_)
 generalize w5.drew = w6 at BK597 HB hHeld ⊢
 refine pure_ (i := 0) (N := some 5) (v := ?_) (a' := ?_) #[true, false, false, false, false] rfl rfl (by kernel_rfl) (fun _ _ _ h => h) (Or.inl ⟨by rfl, ?_⟩) ?_ ?_
 rotate_left; (·intro w'; go_simp; with_reducible rfl); rotate_left; (·simp only [Act.put, List.setIfInBounds_toArray, List.set_cons_zero, List.set_cons_succ, i64_w, i32_w]; rfl)
 refine take_ (i := 2) (N := some 7) (v := ?_) (a' := ?_) #[true, false, true, false, false] rfl rfl (by kernel_rfl) (fun _ _ _ h => h) (Or.inl ⟨by rfl, ?_⟩) hHeld ?_ ?_
 rotate_left; (·rintro w' ⟨s0, s1, s2⟩; go_simp; with_reducible rfl); rotate_left; (·simp only [Act.put, List.setIfInBounds_toArray, List.set_cons_zero, List.set_cons_succ, i64_w, i32_w]; rfl)
 refine one_ (i := 1) (N := some 6) #[true, true, true, false, false] rfl rfl (by kernel_rfl) (by decide) (fun K hK => ?_)
 refine goes_ Tryz.func6 (by kernel_rfl) rfl #[.slice A0 l0.length c0] (by rfl) rfl rfl G.ar ?_
 with_reducible refine (impl_RunsOf.calls k _ _ l0 t598 _ ?side1 ?side2 A3.out).mono ?_
 (case side1 => exact G.kC (Kd.C_below HR0.out HB.out))
 (case side2 => exact HC0.out)
 rintro e w7 ⟨v599, rfl, ho0, hb⟩
 refine ⟨_, rfl, ?_⟩
 have n0_ := G.a (Kd.R_lower (Kd.R_newB ho0 (g := gb597) (o := .cells #[.int .i64 a1_0, .int .i64 a1_1, .int .i64 a1_2] 32 (0, 0)) (G.kB BK597.out)) (below_size (G.bes GE597.out)))
 have n1_ := G.a (blk_below (g := gb597) (o := .cells #[.int .i64 a1_0, .int .i64 a1_1, .int .i64 a1_2] 32 (0, 0)) (G.kB BK597.out) hb)
 have n2_ := G.a (below_step (G.bes GE597.out) hb)
 clear BK597
 clear HB
 have HO600 := n0_
 have BK597 := n1_
 have HB := n2_
 clear n0_ n1_ n2_
 (try clear hb)
 (try clear hb2)
 (try clear hk)
 (try clear hi)
 (try clear ho0)
 obtain ⟨Ao8, co8, eo8⟩ := Kd.R_slice HO600.out
 (first | subst eo8 | (injection eo8 with f1_ f2_ f3_; have f4_ := f1_.symm; have f5_ := f3_.symm; clear f1_ f2_ f3_; subst f4_; subst f5_))
 refine hK.out _ _ ⟨(blk_cell BK597.out 0).trans rfl, (blk_cell BK597.out 1).trans rfl, (blk_cell BK597.out 2).trans rfl⟩ (fun hHeld => ?_)
 clear hK K
 refine norm_ (a' := ?_) ?_ ?_
 rotate_left
 ·show Act.put _ (some 6) _ = _
  simp only [Act.put, List.setIfInBounds_toArray, List.set_cons_zero, List.set_cons_succ, i64_w, i32_w]
  rfl
 refine one_ (i := 3) (N := some 8) #[true, true, true, true, false] rfl rfl (by kernel_rfl) (by decide) (fun K hK => ?_)
 refine goes_ Tryz.func32 (by kernel_rfl) rfl #[.slice Ao8 t598.length co8, .agg #[.int .i64 a1_0, .int .i64 a1_1, .int .i64 a1_2]] (by rfl) rfl rfl G.ar ?_
 with_reducible refine (impl_Run_32.calls k _ _ t598 a1_0 a1_1 a1_2 t601 _ ?side1 ?side2 A4.out).mono ?_
 (case side1 => repeat (first | exact (Kd.R_reads' HO600.out).2.2 | (with_reducible refine Kd.C_alloc ?_ _) | (with_reducible refine Kd.C_drewN ?_ _) | (with_reducible refine Kd.C_drew ?_)))
 (case side2 => exact (Kd.R_reads' HO600.out).2.1)
 rintro e w9 ⟨rfl, hb⟩
 refine ⟨_, rfl, ?_⟩
 have n0_ := G.a (Kd.R_below (G.kR HO600.out) hb)
 have n1_ := G.a (blk_below (g := gb597) (o := .cells #[.int .i64 a1_0, .int .i64 a1_1, .int .i64 a1_2] 32 (0, 0)) (G.kB BK597.out) hb)
 have n2_ := G.a (below_step (G.bes GE597.out) hb)
 clear HO600
 clear BK597
 clear HB
 have HO600 := n0_
 have BK597 := n1_
 have HB := n2_
 clear n0_ n1_ n2_
 (try clear hb)
 (try clear hb2)
 (try clear hk)
 (try clear hi)
 refine hK.out _ _ ⟨(blk_cell BK597.out 0).trans rfl, (blk_cell BK597.out 1).trans rfl, (blk_cell BK597.out 2).trans rfl⟩ (fun hHeld => ?_)
 clear hK K
 refine norm_ (a' := ?_) ?_ ?_
 rotate_left
 ·show Act.put _ (some 8) _ = _
  simp only [Act.put, List.setIfInBounds_toArray, List.set_cons_zero, List.set_cons_succ, i64_w, i32_w]
  rfl
 refine pure_ (i := 4) (N := some 4) (v := ?_) (a' := ?_) #[true, true, true, true, true] rfl rfl (by kernel_rfl) (fun _ _ _ h => h) (Or.inl ⟨by rfl, ?_⟩) ?_ ?_
 rotate_left; (·intro w'; go_simp; with_reducible rfl); rotate_left; (·simp only [Act.put, List.setIfInBounds_toArray, List.set_cons_zero, List.set_cons_succ, i64_w, i32_w]; rfl)
 refine done_ (by kernel_rfl) ?_
 try go_wp2
 go_ret
 exact ⟨G.er, G.bes GE597.out⟩
end Go.Proofs.YtolikggioekalabGreat.PFnRuns
