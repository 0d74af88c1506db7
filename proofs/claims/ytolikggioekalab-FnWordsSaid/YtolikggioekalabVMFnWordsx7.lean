/- The Go functions that the law FnWords reaches (part 7): each as a Lean function, and that its code comes to these answers. No condition beyond those written. -/
import Derived.Test.YtolikggioekalabVGSlim
import Derived.Test.YtolikggioekalabVGHand
import Derived.Test.YtolikggioekalabVG0
import Derived.Test.YtolikggioekalabVMFnWordsx3
import Derived.Test.YtolikggioekalabVMFnWordsx1
import Derived.Test.YtolikggioekalabVMFnWordsx0
import Derived.Test.YtolikggioekalabVMFnWordsx2
import Derived.Test.YtolikggioekalabVMFnWordsx4
import Derived.Test.YtolikggioekalabVMFnWordsx5
import Derived.Test.YtolikggioekalabVMFnWordsx6
namespace Go.Proofs.Ytolikggioekalab.PFnWords
open Go.RowKit Go.Proofs.YtolikggioekalabW.PrintWords Go.Proofs.YtolikggioekalabW.PrintLast Go.Proofs.YtolikggioekalabW.PrintMore
attribute [local go_sem] max2_int min2_int max_two min_two max_three min_three max_four min_four   -- for this text's walks alone
set_option linter.unusedVariables false
set_option linter.unusedSimpArgs false

/-! ### spec_RightSpecial: function 36 -/
mutual
def spec_RightSpecial.l0 : Nat → List Int → Int → List (List Int) → List (List Int) → Bool → Int → Option ((List (List Int)))
 | 0, _, _, _, _, _, _ => none
 | k + 1, x0, x1, x5, x6, x7, x8 => if x8 < (x6.length : Int) then (spec_RightSpecial.j1 k x0 x1 x5 x6 x7 x8 x7) else (spec_RightSpecial.j1 k x0 x1 x5 x6 x7 x8 false)
def spec_RightSpecial.j1 : Nat → List Int → Int → List (List Int) → List (List Int) → Bool → Int → Bool → Option ((List (List Int)))
 | 0, _, _, _, _, _, _, _ => none
 | k + 1, x0, x1, x5, x6, x7, x8, x25 => if x25 = true then (if 0 ≤ x8 then (if x8 < (x6.length : Int) then ((spec_OccurrencesOf.f k x0 (rd_L1 x6 x8)).bind fun t303 => (spec_RightSpecial.l1 k x0 x1 x5 x6 x7 x8 (([] : List Int)) t303 0)) else (none)) else (none)) else (some x5)
def spec_RightSpecial.l1 : Nat → List Int → Int → List (List Int) → List (List Int) → Bool → Int → List Int → List Int → Int → Option ((List (List Int)))
 | 0, _, _, _, _, _, _, _, _, _ => none
 | k + 1, x0, x1, x5, x6, x7, x8, x9, x10, x11 => if x11 < (x10.length : Int) then (if 0 ≤ x11 then (if (wrap64 ((rd x10 x11) + x1)) < (x0.length : Int) then (if 0 ≤ (wrap64 ((rd x10 x11) + x1)) then ((spec_l4Has.f k x9 (rd x0 (wrap64 ((rd x10 x11) + x1)))).bind fun t309 => (if t309 = true then (spec_RightSpecial.l1 k x0 x1 x5 x6 x7 x8 x9 x10 (wrap64 (x11 + 1))) else (if x9.length < 17592186044416 then (spec_RightSpecial.l1 k x0 x1 x5 x6 x7 x8 (x9 ++ [rd x0 (wrap64 ((rd x10 x11) + x1))]) x10 (wrap64 (x11 + 1))) else (none)))) else (none)) else (spec_RightSpecial.l1 k x0 x1 x5 x6 x7 x8 x9 x10 (wrap64 (x11 + 1)))) else (none)) else (if (x9.length : Int) > 1 then (if 0 ≤ x8 then (if x8 < (x6.length : Int) then (if x5.length < 5864062014805 then (spec_RightSpecial.l0 k x0 x1 (x5 ++ [rd_L1 x6 x8]) x6 x7 (wrap64 (x8 + 1))) else (none)) else (none)) else (none)) else (spec_RightSpecial.l0 k x0 x1 x5 x6 x7 (wrap64 (x8 + 1))))
end
def spec_RightSpecial.f (k : Nat) (l0 : List Int) (a1 : Int) : Option ((List (List Int))) := (spec_FactorsOf.f k l0 a1).bind fun bt295 => (spec_RightSpecial.l0 k l0 a1 (([] : List (List Int))) bt295.1 bt295.2 0)
set_option maxHeartbeats 8000000 in
set_option maxRecDepth 100000 in
theorem spec_RightSpecial.calls (k : Nat) (A0 : Option Addr) (c0 : Nat) (l0 : List Int) (a1 : Int) (r : List (List Int)) (w : World) (hr0 : Kd.C (Kd.int .i64) w A0 l0.length l0) (hc0 : l0.length ≤ c0) (h : spec_RightSpecial.f k l0 a1 = some r) :
  Calls Try.prog 36 #[.slice A0 l0.length c0, .int .i64 a1] w fun e w' => ∃ v0_ : Value, e = .returned (v0_) ∧ Kd.N (Kd.slice 3 (Kd.int .i64)) 22 w' w.heap.size (fun k_ => (w.heap.size ≤ k_)) v0_ r ∧ Below w.heap.size w w' := by
 have HR0 := Aside0.mk hr0
 have HC0 := Aside0.mk hc0
 clear hr0 hc0
 have HB := Aside0.mk (Below.refl w.heap.size w)
 have H : ((spec_FactorsOf.f k l0 a1).bind fun bt295 => (spec_RightSpecial.l0 k l0 a1 (([] : List (List Int))) bt295.1 bt295.2 0)) = some r := h
 clear h
 obtain ⟨y292, hy292⟩ : ∃ y_ : List (List Int), y_ = (([] : List (List Int))) := ⟨_, rfl⟩
 replace H : ((spec_FactorsOf.f k l0 a1).bind fun bt295 => (spec_RightSpecial.l0 k l0 a1 y292 bt295.1 bt295.2 0)) = some r := by first | (rw [hy292]; with_reducible exact H) | (have H2_ := (Option.bind_some _ _).symm.trans H; rw [hy292]; with_reducible exact H2_) | (have H2_ := (Option.bind_some _ _).symm.trans H; with_reducible exact H2_) | with_reducible exact H | (rw [hy292]; exact H) | exact H
 have Ny292 := Aside0.mk hy292
 clear hy292
 obtain ⟨⟨t295, t298⟩, A3, H⟩ := G.bx H
 replace H : (spec_RightSpecial.l0 k l0 a1 y292 t295 t298 0) = some r := H
 have H' := Aside0.mk H
 clear H
 go_enter Try.func36, Try.ntmps36
 go_wp2_with (first | ((with_reducible refine gate_dst (N := 12) rfl ?_); refine Kd.N_lit (Kd.slice 3 (Kd.int .i64)) _ 22 ?hg (N' := 12) ?hd (xs := ([] : List (List Int))) (inner := []) (ok := (fun k_ => (w.heap.size ≤ k_))) (okp := (fun k_ => (w.heap.size ≤ k_))) ?hr ?hp (fun _ hk => hk) ((show ∀ k_, w.heap.size ≤ k_ → (fun k_ => (w.heap.size ≤ k_)) k_ from fun k_ hk => (Nat.le_trans (below_size G.bel) hk)) _ (Nat.le_refl _)) (Below.refl _ _) (Nat.le_refl _) (by simp) ?_; (case hd => rfl); (case hg => rfl); (case hr => first | (go_simp; done) | (go_simp; rfl)); (case hp => exact (Reps.none _ _)); intro v293 w4 ho5 hb hg_ hnew_; clear hg_ hnew_; (first | rw [← Ny292.out] at ho5 | (simp only [Int.reduceToNat] at ho5; rw [← Ny292.out] at ho5)); have n0_ := Aside0.mk (Kd.N_lower ho5 (below_size G.bel)); have n1_ := Aside0.mk (below_step G.bel hb); clear HB; have HO294 := n0_; have HB := n1_; clear n0_ n1_; clear hb ho5) | ((with_reducible refine gate_callee (f := 30) rfl ?_); refine goesL_ (some 16) rfl rfl Try.func30 (by kernel_rfl) rfl #[.slice A0 l0.length c0, .int .i64 a1] rfl G.ar ?_; (with_reducible refine (spec_FactorsOf.calls k _ _ l0 a1 t295 t298 _ ?side1 ?side2 A3.out).mono ?_); (case side1 => exact G.kC (Kd.C_below HR0.out HB.out)); (case side2 => exact HC0.out); rintro e w6 ⟨v296, rfl, ho0, hb⟩; refine ⟨_, rfl, ?_⟩; have n0_ := Aside0.mk (Kd.N_elder' (G.kN HO294.out) (Kd.N_base ho0) hb); have n1_ := Aside0.mk (Kd.N_lower (Kd.N_mono (ok' := fun k_ => (w.heap.size ≤ k_) ∧ some k_ ≠ (v293 : Value).ownBlock) ho0 (fun k_ hk_ => ⟨(Nat.le_trans (below_size G.bel) hk_), (Kd.fresh' (Kd.N_lt (G.kN HO294.out)) k_ hk_)⟩)) (below_size G.bel)); have n2_ := Aside0.mk (below_step G.bel hb); clear HO294; clear HB; have HO294 := n0_; have HO297 := n1_; have HB := n2_; clear n0_ n1_ n2_; (try clear hb); (try clear hb2); (try clear hk); (try clear hi); (try clear ho0)))
 go_loopg [5, 8] k (fun kq v5 v8 w' => ∃ (x5_1 : List (List Int)) (x8_1 : Int), v8 = .int .i64 x8_1 ∧ Aside0 (spec_RightSpecial.l0 kq l0 a1 x5_1 t295 t298 x8_1 = some r) ∧ Aside0 (kq ≤ k) ∧ Aside0 (Kd.N (Kd.slice 3 (Kd.int .i64)) 22 w' w.heap.size (fun k_ => (w.heap.size ≤ k_) ∧ some k_ ≠ (v296 : Value).ownBlock) v5 x5_1) ∧ Aside0 (Kd.N (Kd.slice 3 (Kd.int .i64)) 22 w' w.heap.size (fun k_ => (w.heap.size ≤ k_) ∧ some k_ ≠ (v5 : Value).ownBlock) v296 t295) ∧ Aside0 (Below w.heap.size w w'))
 case atStart => exact ⟨(y292), (0), G.tr, H', ⟨Nat.le_refl _⟩, ⟨G.kN HO294.out⟩, ⟨G.kN HO297.out⟩, ⟨G.bel⟩⟩
 case round =>
  clear H'
  try clear p2; try clear c3
  obtain ⟨x5_1, x8_1, rfl, HA, HK1, HO_5, HO_6, HB⟩ := hrel
  cases gk with
  | zero => exact absurd HA.out (by simp [spec_RightSpecial.l0])
  | succ k1 =>
   have H := HA.out
   clear HA
   simp only [spec_RightSpecial.l0] at H
   have HC7 := Aside0.mk H
   clear H
   go_upto_region 4 with (fail)
   go_cut [25] (fun v25 wc => ∃ (kq : Nat) (x25_6 : Bool), v25 = .bool x25_6 ∧ Aside0 (spec_RightSpecial.j1 kq l0 a1 x5_1 t295 t298 x8_1 x25_6 = some r) ∧ Aside0 (kq ≤ k1) ∧ Aside0 (Kd.N (Kd.slice 3 (Kd.int .i64)) 22 wc w.heap.size (fun k_ => (w.heap.size ≤ k_) ∧ some k_ ≠ (v296 : Value).ownBlock) u5 x5_1) ∧ Aside0 (Kd.N (Kd.slice 3 (Kd.int .i64)) 22 wc w.heap.size (fun k_ => (w.heap.size ≤ k_) ∧ some k_ ≠ (u5 : Value).ownBlock) v296 t295) ∧ Aside0 (Below w.heap.size w wc))
   case first =>
    have H := HC7.out
    clear HC7
    by_cases c8 : x8_1 < (t295.length : Int)
    ·rw [if_pos c8] at H
     have c8b0 : decide (x8_1 < (t295.length : Int)) = true := decide_eq_true c8
     clear c8
     (first | rw [c8b0] | (simp only [i64_w, i32_w]; rw [c8b0]) | skip)
     have H' := Aside0.mk H
     clear H
     obtain ⟨Ao9, co9, eo9⟩ := Kd.N_slice HO_6.out
     subst eo9
     go_wp2
     go_meet
     case rel => exact ⟨_, (t298), G.tr, H', ⟨by have := HK1.out; first | omega | exact Nat.le_refl _⟩, ⟨G.kN HO_5.out⟩, ⟨G.kN HO_6.out⟩, ⟨G.bel⟩⟩
    ·rw [if_neg c8] at H
     have c8b0 : decide (x8_1 < (t295.length : Int)) = false := decide_eq_false c8
     clear c8
     (first | rw [c8b0] | (simp only [i64_w, i32_w]; rw [c8b0]) | skip)
     have H' := Aside0.mk H
     clear H
     obtain ⟨Ao10, co10, eo10⟩ := Kd.N_slice HO_6.out
     subst eo10
     go_wp2
     go_meet
     case rel => exact ⟨_, (false), G.tr, H', ⟨by have := HK1.out; first | omega | exact Nat.le_refl _⟩, ⟨G.kN HO_5.out⟩, ⟨G.kN HO_6.out⟩, ⟨G.bel⟩⟩
   case rest =>
    clear HC7
    try clear p2; try clear c3; try clear c8; try clear c8b0; try clear p2
    obtain ⟨kq, x25_6, rfl, HA, HJ6, HO_5, HO_6, HB⟩ := hcut
    cases kq with
    | zero => exact absurd HA.out (by simp [spec_RightSpecial.j1])
    | succ kj6 =>
     have H := HA.out
     clear HA
     simp only [spec_RightSpecial.j1] at H
     by_cases c11 : x25_6 = true
     ·subst c11
      rw [if_pos rfl] at H
      obtain ⟨y299, hy299⟩ : ∃ y_ : List Int, y_ = (([] : List Int)) := ⟨_, rfl⟩
      replace H : (if 0 ≤ x8_1 then (if x8_1 < (t295.length : Int) then ((spec_OccurrencesOf.f kj6 l0 (rd_L1 t295 x8_1)).bind fun t303 => (spec_RightSpecial.l1 kj6 l0 a1 x5_1 t295 t298 x8_1 y299 t303 0)) else (none)) else (none)) = some r := by first | (rw [hy299]; with_reducible exact H) | (have H2_ := (Option.bind_some _ _).symm.trans H; rw [hy299]; with_reducible exact H2_) | (have H2_ := (Option.bind_some _ _).symm.trans H; with_reducible exact H2_) | with_reducible exact H | (rw [hy299]; exact H) | exact H
      have Ny299 := Aside0.mk hy299
      clear hy299
      by_cases c12 : 0 ≤ x8_1
      ·rw [if_pos c12] at H
       have c12b0 : decide (0 ≤ x8_1) = true := decide_eq_true c12
       clear c12
       by_cases c13 : x8_1 < (t295.length : Int)
       ·rw [if_pos c13] at H
        have c13b0 : decide (x8_1 < (t295.length : Int)) = true := decide_eq_true c13
        clear c13
        obtain ⟨t303, A14, H⟩ := G.bx H
        have H' := Aside0.mk H
        clear H
        go_wp2_with (first | ((with_reducible refine gate_dst (N := 28) rfl ?_); refine Kd.R_lit (Kd.int .i64) _ 3 ?hg (N := 28) ?hd (xs := ([] : List Int)) (inner := []) (ok := fun _ => True) (okp := fun _ => True) ?hr ?hp (fun _ hk => hk) trivial (Below.refl _ _) (Nat.le_refl _) (by simp) ?_; (case hd => rfl); (case hg => rfl); (case hr => first | (go_simp; done) | (go_simp; rfl)); (case hp => exact (Reps.none _ _)); intro v300 w15 ho16 hb hg_ hnew_; clear hg_ hnew_; (first | rw [← Ny299.out] at ho16 | (simp only [Int.reduceToNat] at ho16; rw [← Ny299.out] at ho16)); have n0_ := Aside0.mk (Kd.N_elder' (G.kN HO_5.out) (Kd.R_base ho16) hb); have n1_ := Aside0.mk (Kd.N_elder' (G.kN HO_6.out) (Kd.R_base ho16) hb); have n2_ := Aside0.mk (Kd.R_lower (Kd.R_newM (M := fun k_ => (w.heap.size ≤ k_)) ho16 (below_size G.bel) (fun k_ h_ => h_)) (below_size G.bel)); have n3_ := Aside0.mk (below_step G.bel hb); clear HO_5; clear HO_6; clear HB; have HO_5 := n0_; have HO_6 := n1_; have HO301 := n2_; have HB := n3_; clear n0_ n1_ n2_ n3_; clear hb ho16; obtain ⟨Ao17, co17, eo17⟩ := Kd.N_slice HO_6.out; subst eo17; have p302 : 0 ≤ (x8_1 : Int) := G.odt; have q302 : x8_1 < (t295.length : Int) := G.odt; obtain ⟨ad302, A302_0, c302_0, e302, hx302_0, hl302_0, hi302_0⟩ := at_L1 (Kd.N_reads' HO_6.out).2.2 x8_1 p302 q302; cases e302; obtain ⟨ce302, hce302, hMe302, hcc302⟩ := Kd.N_get HO_6.out [] x8_1 p302 (by first | exact q302 | exact G.odt | (have e_ := (Kd.N_reads' HO_6.out).1; omega)); obtain ⟨ua302_0, uc302_0, rfl, ul302_0, ge302_0⟩ := Kd.FK_slice_open hMe302; have hv302_0 := hcc302 0 _ rfl; rw [Nat.add_zero, show ((Kd.slice 3 (Kd.int .i64))).sz = 1 from rfl, Nat.mul_one] at hv302_0; replace hv302_0 := Option.some.inj (hv302_0.symm.trans hx302_0); injection hv302_0 with hva_ hvn_ hvc_; rw [hva_] at ge302_0; rw [hvc_] at ul302_0; have HL302_0 := Aside0.mk (show Kd.V (Kd.int .i64) 3 _ w.heap.size _ _ (rd_L1 t295 x8_1) from Kd.V_mk ul302_0 ge302_0); clear hva_ hvn_ hvc_ ge302_0 ul302_0; clear hcc302 hce302; have HR302_0 := Aside0.mk hi302_0; have HC302_0 := Aside0.mk hl302_0; clear hi302_0 hl302_0; replace p302 := eq_true p302; replace q302 := eq_true q302) | ((with_reducible refine gate_callee (f := 76) rfl ?_); refine goesL_ (some 34) rfl rfl Try.func76 (by kernel_rfl) rfl #[.slice A0 l0.length c0, .slice A302_0 (rd_L1 t295 x8_1).length c302_0] rfl G.ar ?_; (with_reducible refine (spec_OccurrencesOf.calls kj6 _ _ l0 _ _ (rd_L1 t295 x8_1) t303 _ ?side1 ?side2 ?side3 ?side4 A14.out).mono ?_); (case side1 => exact G.kC (Kd.C_below HR0.out HB.out)); (case side2 => exact HC0.out); (case side3 => repeat (first | exact (by repeat (first | (with_reducible exact HR302_0.out) | (with_reducible refine Kd.C_alloc ?_ _) | (with_reducible refine Kd.C_drewN ?_ _) | (with_reducible refine Kd.C_drew ?_) | exact HR302_0.out)) | (with_reducible refine Kd.C_alloc ?_ _) | (with_reducible refine Kd.C_drewN ?_ _) | (with_reducible refine Kd.C_drew ?_))); (case side4 => exact HC302_0.out); rintro e w18 ⟨v304, rfl, ho0, hb⟩; refine ⟨_, rfl, ?_⟩; have n0_ := Aside0.mk (Kd.N_elder' (G.kN HO_5.out) (Kd.R_base ho0) hb); have n1_ := Aside0.mk (Kd.N_elder' (G.kN HO_6.out) (Kd.R_base ho0) hb); have n2_ := Aside0.mk (Kd.R_elder' (G.kR HO301.out) (Kd.R_base ho0) hb); have n3_ := Aside0.mk (Kd.V_elder' (G.kV HL302_0.out) (Kd.R_base ho0) hb); have n4_ := Aside0.mk (Kd.R_lower (Kd.R_new' (Kd.R_newM (M := fun k_ => (w.heap.size ≤ k_)) ho0 (below_size G.bel) (fun k_ h_ => h_)) (Kd.R_lt (G.kR HO301.out))) (below_size G.bel)); have n5_ := Aside0.mk (Kd.C_below (by repeat (first | (with_reducible exact HR302_0.out) | (with_reducible refine Kd.C_alloc ?_ _) | (with_reducible refine Kd.C_drewN ?_ _) | (with_reducible refine Kd.C_drew ?_) | exact HR302_0.out)) hb); have n6_ := Aside0.mk (below_step G.bel hb); clear HO_5; clear HO_6; clear HO301; clear HL302_0; clear HR302_0; clear HB; have HO_5 := n0_; have HO_6 := n1_; have HO301 := n2_; have HL302_0 := n3_; have HO305 := n4_; have HR302_0 := n5_; have HB := n6_; clear n0_ n1_ n2_ n3_ n4_ n5_ n6_; (try clear hb); (try clear hb2); (try clear hk); (try clear hi); (try clear ho0)))
        go_loopg [9, 11] kj6 (fun kq v9 v11 w' => ∃ (x9_3 : List Int) (x11_3 : Int), v11 = .int .i64 x11_3 ∧ Aside0 (spec_RightSpecial.l1 kq l0 a1 x5_1 t295 t298 x8_1 x9_3 t303 x11_3 = some r) ∧ Aside0 (kq ≤ kj6) ∧ Aside0 (Kd.N (Kd.slice 3 (Kd.int .i64)) 22 w' w.heap.size (fun k_ => (w.heap.size ≤ k_) ∧ some k_ ≠ ((.slice (some ad302) t295.length co17) : Value).ownBlock ∧ some k_ ≠ (v9 : Value).ownBlock ∧ some k_ ≠ (v304 : Value).ownBlock) u5 x5_1) ∧ Aside0 (Kd.N (Kd.slice 3 (Kd.int .i64)) 22 w' w.heap.size (fun k_ => (w.heap.size ≤ k_) ∧ some k_ ≠ (u5 : Value).ownBlock ∧ some k_ ≠ (v9 : Value).ownBlock ∧ some k_ ≠ (v304 : Value).ownBlock) (.slice (some ad302) t295.length co17) t295) ∧ Aside0 (Kd.R (Kd.int .i64) 3 w' w.heap.size (fun k_ => (w.heap.size ≤ k_) ∧ some k_ ≠ (v304 : Value).ownBlock) v9 x9_3) ∧ Aside0 (Kd.R (Kd.int .i64) 3 w' w.heap.size (fun k_ => (w.heap.size ≤ k_) ∧ some k_ ≠ (v9 : Value).ownBlock) v304 t303) ∧ Aside0 (Below w.heap.size w w'))
        case atStart => exact ⟨(y299), (0), G.tr, H', ⟨Nat.le_refl _⟩, ⟨by (with_reducible repeat (first | apply Kd.N_alloc | apply Kd.N_drewN | apply Kd.N_drew)); exact Kd.N_mono HO_5.out (fun _ hk => ⟨hk.1.1.1, ⟨hk.1.1.2, ⟨hk.1.2, hk.2⟩⟩⟩)⟩, ⟨by (with_reducible repeat (first | apply Kd.N_alloc | apply Kd.N_drewN | apply Kd.N_drew)); exact Kd.N_mono HO_6.out (fun _ hk => ⟨hk.1.1.1, ⟨hk.1.1.2, ⟨hk.1.2, hk.2⟩⟩⟩)⟩, ⟨by (with_reducible repeat (first | apply Kd.R_alloc | apply Kd.R_drewN | apply Kd.R_drew)); exact Kd.R_mono HO301.out (fun _ hk => ⟨hk.1.1, hk.2⟩)⟩, ⟨by (with_reducible repeat (first | apply Kd.R_alloc | apply Kd.R_drewN | apply Kd.R_drew)); exact Kd.R_mono HO305.out (fun _ hk => ⟨hk.1.1, hk.2⟩)⟩, ⟨G.bel⟩⟩
        case round =>
         clear H'
         try clear c1; try clear p2; try clear c3; try clear p3; try clear q3; try clear hx3; try clear c7; try clear c8; try clear c8b0; try clear c11; try clear c12; try clear c12b0; try clear c13; try clear c13b0; try clear hx302_0; try clear p2; try clear p302; try clear q302
         obtain ⟨x9_3, x11_3, rfl, HA, HK3, HO_5, HO_6, HO_9, HO_10, HB⟩ := hrel
         cases gk with
         | zero => exact absurd HA.out (by simp [spec_RightSpecial.l1])
         | succ k3 =>
          have H := HA.out
          clear HA
          simp only [spec_RightSpecial.l1] at H
          by_cases c19 : x11_3 < (t303.length : Int)
          ·rw [if_pos c19] at H
           have c19b0 : decide (x11_3 < (t303.length : Int)) = true := decide_eq_true c19
           clear c19
           by_cases c20 : 0 ≤ x11_3
           ·rw [if_pos c20] at H
            have c20b0 : decide (0 ≤ x11_3) = true := decide_eq_true c20
            clear c20
            by_cases c21 : (wrap64 ((rd t303 x11_3) + a1)) < (l0.length : Int)
            ·rw [if_pos c21] at H
             have c21b0 : decide ((wrap64 ((rd t303 x11_3) + a1)) < (l0.length : Int)) = true := decide_eq_true c21
             clear c21
             obtain ⟨ji22, hji22⟩ : ∃ j_ : Int, (wrap64 ((rd t303 x11_3) + a1)) = j_ := ⟨_, rfl⟩
             replace H : (if 0 ≤ (ji22) then ((spec_l4Has.f k3 x9_3 (rd l0 (ji22))).bind fun t309 => (if t309 = true then (spec_RightSpecial.l1 k3 l0 a1 x5_1 t295 t298 x8_1 x9_3 t303 (wrap64 (x11_3 + 1))) else (if x9_3.length < 17592186044416 then (spec_RightSpecial.l1 k3 l0 a1 x5_1 t295 t298 x8_1 (x9_3 ++ [rd l0 (ji22)]) t303 (wrap64 (x11_3 + 1))) else (none)))) else (none)) = some r := by first | (rw [hji22] at H; exact H) | (simp only [hji22] at H ⊢; exact H)
             (try rw [hji22] at c21b0)
             have hji22w : (IntKind.i64.wrap ((rd t303 x11_3) + a1)) = ji22 := (i64_w _).trans hji22
             by_cases c23 : 0 ≤ (ji22)
             ·rw [if_pos c23] at H
              have c23b0 : decide (0 ≤ (ji22)) = true := decide_eq_true c23
              clear c23
              obtain ⟨t309, A24, H⟩ := G.bx H
              by_cases c25 : t309 = true
              ·subst c25
               rw [if_pos rfl] at H
               have H' := Aside0.mk H
               clear H
               obtain ⟨Ao26, co26, eo26⟩ := Kd.R_slice HO_10.out
               subst eo26
               have p306 : 0 ≤ (x11_3 : Int) := G.odt
               have q306 : x11_3 < (t303.length : Int) := G.odt
               obtain ⟨ad306, e306, hx306_0⟩ := Kd.at_int (Kd.R_reads' HO_10.out).2.2 x11_3 p306 q306
               cases e306
               replace p306 := eq_true p306
               replace q306 := eq_true q306
               have p307 : 0 ≤ (x11_3 : Int) := G.odt
               have q307 : x11_3 < (t303.length : Int) := G.odt
               obtain ⟨ad307, e307, hx307_0⟩ := Kd.at_int (Kd.R_reads' HO_10.out).2.2 x11_3 p307 q307
               obtain rfl : ad306 = ad307 := (by injection e307)
               replace p307 := eq_true p307
               replace q307 := eq_true q307
               have p308 : 0 ≤ ((ji22) : Int) := G.odt
               have q308 : (ji22) < (l0.length : Int) := G.odt
               obtain ⟨ad308, e308, hx308_0⟩ := Kd.at_int HR0.out (ji22) p308 q308
               cases e308
               replace hx308_0 := (HB.out.cell (World.block_lt_of_cell? w _ hx308_0)).trans hx308_0
               replace p308 := eq_true p308
               replace q308 := eq_true q308
               obtain ⟨Ao27, co27, eo27⟩ := Kd.R_slice HO_9.out
               subst eo27
               go_wp2_with (first | (go_at_call 119; (with_reducible refine (spec_l4Has.calls k3 _ _ x9_3 (rd l0 (ji22)) true _ ?side1 ?side2 A24.out).mono ?_); (case side1 => repeat (first | exact (Kd.R_reads' HO_9.out).2.2 | (with_reducible refine Kd.C_alloc ?_ _) | (with_reducible refine Kd.C_drewN ?_ _) | (with_reducible refine Kd.C_drew ?_))); (case side2 => exact (Kd.R_reads' HO_9.out).2.1); rintro e w' ⟨rfl, ⟨nd, rfl⟩⟩))
               go_roundg k3
               case measure => have := HK1.out; have := HJ6.out; have := HK3.out; omega
               case rel => exact ⟨(x9_3), (wrap64 (x11_3 + 1)), G.tr, H', ⟨by have := HK1.out; have := HJ6.out; have := HK3.out; omega⟩, ⟨G.kN HO_5.out⟩, ⟨G.kN HO_6.out⟩, ⟨G.kR HO_9.out⟩, ⟨G.kR HO_10.out⟩, ⟨G.bel⟩⟩
              ·replace c25 := Bool.eq_false_iff.mpr c25
               subst c25
               rw [if_neg (show ¬ (false = true) by decide)] at H
               by_cases c28 : x9_3.length < 17592186044416
               ·rw [if_pos c28] at H
                have LMc28 := Aside0.mk c28
                clear c28
                obtain ⟨y312, hy312⟩ : ∃ y_ : List Int, y_ = (x9_3 ++ [rd l0 (ji22)]) := ⟨_, rfl⟩
                replace H : (spec_RightSpecial.l1 k3 l0 a1 x5_1 t295 t298 x8_1 y312 t303 (wrap64 (x11_3 + 1))) = some r := by first | (rw [hy312]; with_reducible exact H) | (have H2_ := (Option.bind_some _ _).symm.trans H; rw [hy312]; with_reducible exact H2_) | (have H2_ := (Option.bind_some _ _).symm.trans H; with_reducible exact H2_) | with_reducible exact H | (rw [hy312]; exact H) | exact H
                have Ny312 := Aside0.mk hy312
                clear hy312
                have H' := Aside0.mk H
                clear H
                obtain ⟨Ao29, co29, eo29⟩ := Kd.R_slice HO_10.out
                subst eo29
                have p306 : 0 ≤ (x11_3 : Int) := G.odt
                have q306 : x11_3 < (t303.length : Int) := G.odt
                obtain ⟨ad306, e306, hx306_0⟩ := Kd.at_int (Kd.R_reads' HO_10.out).2.2 x11_3 p306 q306
                cases e306
                replace p306 := eq_true p306
                replace q306 := eq_true q306
                have p307 : 0 ≤ (x11_3 : Int) := G.odt
                have q307 : x11_3 < (t303.length : Int) := G.odt
                obtain ⟨ad307, e307, hx307_0⟩ := Kd.at_int (Kd.R_reads' HO_10.out).2.2 x11_3 p307 q307
                obtain rfl : ad306 = ad307 := (by injection e307)
                replace p307 := eq_true p307
                replace q307 := eq_true q307
                have p308 : 0 ≤ ((ji22) : Int) := G.odt
                have q308 : (ji22) < (l0.length : Int) := G.odt
                obtain ⟨ad308, e308, hx308_0⟩ := Kd.at_int HR0.out (ji22) p308 q308
                cases e308
                replace hx308_0 := (HB.out.cell (World.block_lt_of_cell? w _ hx308_0)).trans hx308_0
                replace p308 := eq_true p308
                replace q308 := eq_true q308
                obtain ⟨Ao30, co30, eo30⟩ := Kd.R_slice HO_9.out
                subst eo30
                go_wp2_with (first | (go_at_call 119; (with_reducible refine (spec_l4Has.calls k3 _ _ x9_3 (rd l0 (ji22)) false _ ?side1 ?side2 A24.out).mono ?_); (case side1 => repeat (first | exact (Kd.R_reads' HO_9.out).2.2 | (with_reducible refine Kd.C_alloc ?_ _) | (with_reducible refine Kd.C_drewN ?_ _) | (with_reducible refine Kd.C_drew ?_))); (case side2 => exact (Kd.R_reads' HO_9.out).2.1); rintro e w' ⟨rfl, ⟨nd, rfl⟩⟩; have p310 : 0 ≤ (x11_3 : Int) := G.odt; have q310 : x11_3 < (t303.length : Int) := G.odt; obtain ⟨ad310, e310, hx310_0⟩ := Kd.at_int (Kd.R_reads' HO_10.out).2.2 x11_3 p310 q310; obtain rfl : ad306 = ad310 := (by injection e310); replace p310 := eq_true p310; replace q310 := eq_true q310; have p311 : 0 ≤ ((ji22) : Int) := G.odt; have q311 : (ji22) < (l0.length : Int) := G.odt; obtain ⟨ad311, e311, hx311_0⟩ := Kd.at_int HR0.out (ji22) p311 q311; obtain rfl : ad308 = ad311 := (by injection e311); replace hx311_0 := (HB.out.cell (World.block_lt_of_cell? w _ hx311_0)).trans hx311_0; replace p311 := eq_true p311; replace q311 := eq_true q311) | ((with_reducible refine gate_builtin (b := .append) (xs := #[.tmp 64, .tmp 74]) rfl ?_); at_builtin; refine Kd.R_append (Kd.int .i64) (w0 := w) w.heap.size rfl (.tmp 64) (.tmp 74) 22 3 (.int .i64 0) 8 rfl Try.underlying22 info3 rfl (by decide) (by omega) (.slice Ao30 x9_3.length co30) x9_3 (rd l0 (ji22)) [.int .i64 (rd l0 (ji22))] (fun k_ => (w.heap.size ≤ k_) ∧ some k_ ≠ (.slice (some ad306) t303.length co29 : Value).ownBlock) (fun _ => False) rfl rfl ?aP (fun _ hk => hk.elim) ?aF ?aO ?aB ?aS ?aL ?_; (case aP => exact rfl); (case aB => exact G.bel); (case aF => exact (fun k_ hk => ⟨(Nat.le_trans (below_size G.bel) hk), Kd.fresh' (Kd.R_lt (G.kR HO_10.out)) k_ hk⟩)); (case aO => exact (G.kR HO_9.out)); (case aS => exact (below_size G.bel)); (case aL => have := LMc28.out; omega); intro v313 w31 ho hb hg hat; rw [← Ny312.out] at ho; have n0_ := Aside0.mk (Kd.N_afterv (ok := (fun k_ => (w.heap.size ≤ k_) ∧ some k_ ≠ (.slice (some ad302) t295.length co17 : Value).ownBlock ∧ some k_ ≠ (.slice (some ad306) t303.length co29 : Value).ownBlock)) (by (with_reducible repeat (first | apply Kd.N_alloc | apply Kd.N_drewN | apply Kd.N_drew)); exact Kd.N_mono HO_5.out (fun _ hk => ⟨⟨hk.1, ⟨hk.2.1, hk.2.2.2⟩⟩, hk.2.2.1⟩)) hg hat); have n1_ := Aside0.mk (Kd.N_afterv (ok := (fun k_ => (w.heap.size ≤ k_) ∧ some k_ ≠ (u5 : Value).ownBlock ∧ some k_ ≠ (.slice (some ad306) t303.length co29 : Value).ownBlock)) (by (with_reducible repeat (first | apply Kd.N_alloc | apply Kd.N_drewN | apply Kd.N_drew)); exact Kd.N_mono HO_6.out (fun _ hk => ⟨⟨hk.1, ⟨hk.2.1, hk.2.2.2⟩⟩, hk.2.2.1⟩)) hg hat); have n2_ := Aside0.mk (Kd.R_after (ok := (fun k_ => (w.heap.size ≤ k_))) (G.kR HO_10.out) hg hat); have n3_ := Aside0.mk (hb); have n4_ := Aside0.mk (ho); clear HO_5; clear HO_6; clear HO_10; clear HB; clear HO_9; have HO_5 := n0_; have HO_6 := n1_; have HO_10 := n2_; have HB := n3_; have HO314 := n4_; clear n0_ n1_ n2_ n3_ n4_; clear ho hb hg hat))
                go_roundg k3
                case measure => have := HK1.out; have := HJ6.out; have := HK3.out; omega
                case rel => exact ⟨(y312), (wrap64 (x11_3 + 1)), G.tr, H', ⟨by have := HK1.out; have := HJ6.out; have := HK3.out; omega⟩, ⟨by (with_reducible repeat (first | apply Kd.N_alloc | apply Kd.N_drewN | apply Kd.N_drew)); exact Kd.N_mono HO_5.out (fun _ hk => ⟨hk.1.1, ⟨hk.1.2.1, ⟨hk.2, hk.1.2.2⟩⟩⟩)⟩, ⟨by (with_reducible repeat (first | apply Kd.N_alloc | apply Kd.N_drewN | apply Kd.N_drew)); exact Kd.N_mono HO_6.out (fun _ hk => ⟨hk.1.1, ⟨hk.1.2.1, ⟨hk.2, hk.1.2.2⟩⟩⟩)⟩, ⟨G.kR HO314.out⟩, ⟨G.kR HO_10.out⟩, ⟨G.bel⟩⟩
               ·rw [if_neg c28] at H
                exact absurd H (by simp)
             ·rw [if_neg c23] at H
              exact absurd H (by simp)
            ·rw [if_neg c21] at H
             have c21b0 : decide ((wrap64 ((rd t303 x11_3) + a1)) < (l0.length : Int)) = false := decide_eq_false c21
             clear c21
             have H' := Aside0.mk H
             clear H
             obtain ⟨Ao32, co32, eo32⟩ := Kd.R_slice HO_10.out
             subst eo32
             have p306 : 0 ≤ (x11_3 : Int) := G.odt
             have q306 : x11_3 < (t303.length : Int) := G.odt
             obtain ⟨ad306, e306, hx306_0⟩ := Kd.at_int (Kd.R_reads' HO_10.out).2.2 x11_3 p306 q306
             cases e306
             replace p306 := eq_true p306
             replace q306 := eq_true q306
             go_wp2
             go_roundg k3
             case measure => have := HK1.out; have := HJ6.out; have := HK3.out; omega
             case rel => exact ⟨(x9_3), (wrap64 (x11_3 + 1)), G.tr, H', ⟨by have := HK1.out; have := HJ6.out; have := HK3.out; omega⟩, ⟨G.kN HO_5.out⟩, ⟨G.kN HO_6.out⟩, ⟨G.kR HO_9.out⟩, ⟨G.kR HO_10.out⟩, ⟨G.bel⟩⟩
           ·rw [if_neg c20] at H
            exact absurd H (by simp)
          ·rw [if_neg c19] at H
           have c19b0 : decide (x11_3 < (t303.length : Int)) = false := decide_eq_false c19
           clear c19
           by_cases c33 : (x9_3.length : Int) > 1
           ·rw [if_pos c33] at H
            have c33b0 : decide (1 < (x9_3.length : Int)) = true := decide_eq_true c33
            have c33b1 : decide (1 < x9_3.length) = true := decide_eq_true (by omega)
            clear c33
            by_cases c34 : 0 ≤ x8_1
            ·rw [if_pos c34] at H
             have c34b0 : decide (0 ≤ x8_1) = true := decide_eq_true c34
             clear c34
             by_cases c35 : x8_1 < (t295.length : Int)
             ·rw [if_pos c35] at H
              have c35b0 : decide (x8_1 < (t295.length : Int)) = true := decide_eq_true c35
              clear c35
              by_cases c36 : x5_1.length < 5864062014805
              ·rw [if_pos c36] at H
               have LMc36 := Aside0.mk c36
               clear c36
               obtain ⟨y316, hy316⟩ : ∃ y_ : List (List Int), y_ = (x5_1 ++ [rd_L1 t295 x8_1]) := ⟨_, rfl⟩
               replace H : (spec_RightSpecial.l0 k3 l0 a1 y316 t295 t298 (wrap64 (x8_1 + 1))) = some r := by first | (rw [hy316]; with_reducible exact H) | (have H2_ := (Option.bind_some _ _).symm.trans H; rw [hy316]; with_reducible exact H2_) | (have H2_ := (Option.bind_some _ _).symm.trans H; with_reducible exact H2_) | with_reducible exact H | (rw [hy316]; exact H) | exact H
               have Ny316 := Aside0.mk hy316
               clear hy316
               have H' := Aside0.mk H
               clear H
               obtain ⟨Ao37, co37, eo37⟩ := Kd.R_slice HO_10.out
               subst eo37
               obtain ⟨Ao38, co38, eo38⟩ := Kd.R_slice HO_9.out
               subst eo38
               have p315 : 0 ≤ (x8_1 : Int) := G.odt
               have q315 : x8_1 < (t295.length : Int) := G.odt
               obtain ⟨ad315, A315_0, c315_0, e315, hx315_0, hl315_0, hi315_0⟩ := at_L1 (Kd.N_reads' HO_6.out).2.2 x8_1 p315 q315
               obtain rfl : ad302 = ad315 := (by injection e315)
               obtain ⟨ce315, hce315, hMe315, hcc315⟩ := Kd.N_get HO_6.out [] x8_1 p315 (by first | exact q315 | exact G.odt | (have e_ := (Kd.N_reads' HO_6.out).1; omega))
               obtain ⟨ua315_0, uc315_0, rfl, ul315_0, ge315_0⟩ := Kd.FK_slice_open hMe315
               have hv315_0 := hcc315 0 _ rfl
               rw [Nat.add_zero, show ((Kd.slice 3 (Kd.int .i64))).sz = 1 from rfl, Nat.mul_one] at hv315_0
               replace hv315_0 := Option.some.inj (hv315_0.symm.trans hx315_0)
               injection hv315_0 with hva_ hvn_ hvc_
               rw [hva_] at ge315_0
               rw [hvc_] at ul315_0
               have HL315_0 := Aside0.mk (show Kd.V (Kd.int .i64) 3 _ w.heap.size _ _ (rd_L1 t295 x8_1) from Kd.V_mk ul315_0 ge315_0)
               clear hva_ hvn_ hvc_ ge315_0 ul315_0
               clear hcc315 hce315
               have HR315_0 := Aside0.mk hi315_0
               have HC315_0 := Aside0.mk hl315_0
               clear hi315_0 hl315_0
               replace p315 := eq_true p315
               replace q315 := eq_true q315
               go_wp2_with (first | ((with_reducible refine gate_builtin (b := .append) (xs := #[.tmp 79, .tmp 84]) rfl ?_); at_builtin; refine Kd.N_append (Kd.slice 3 (Kd.int .i64)) (w0 := w) w.heap.size rfl (.tmp 79) (.tmp 84) 23 22 (.slice none 0 0) 24 rfl Try.underlying23 info22 rfl (by decide) (by omega) u5 x5_1 (rd_L1 t295 x8_1) [.slice A315_0 (rd_L1 t295 x8_1).length c315_0] (fun k_ => (w.heap.size ≤ k_) ∧ some k_ ≠ (.slice (some ad302) t295.length co17 : Value).ownBlock ∧ some k_ ≠ (.slice Ao38 x9_3.length co38 : Value).ownBlock ∧ some k_ ≠ (.slice Ao37 t303.length co37 : Value).ownBlock) (fun k_ => ((fun k_ => (w.heap.size ≤ k_) ∧ some k_ ≠ (.slice (some ad302) t295.length co17 : Value).ownBlock ∧ some k_ ≠ (.slice Ao38 x9_3.length co38 : Value).ownBlock ∧ some k_ ≠ (.slice Ao37 t303.length co37 : Value).ownBlock)) k_ ∧ some k_ ≠ (u5 : Value).ownBlock) rfl rfl ?aP (fun _ hk => hk) ?aF ?aO ?aB ?aS ?aL ?_; (case aP => have HLm_ := Kd.V_mono (ok' := (fun k_ => ((fun k_ => (w.heap.size ≤ k_) ∧ some k_ ≠ (.slice (some ad302) t295.length co17 : Value).ownBlock ∧ some k_ ≠ (.slice Ao38 x9_3.length co38 : Value).ownBlock ∧ some k_ ≠ (.slice Ao37 t303.length co37 : Value).ownBlock)) k_ ∧ some k_ ≠ (u5 : Value).ownBlock)) (HL315_0.out) (fun k_ hk => ⟨⟨hk.1.1, ⟨hk.2, ⟨hk.1.2.2.1, hk.1.2.2.2⟩⟩⟩, hk.1.2.1⟩); exact (Kd.FK_slice_mk (Kd.V_reads' HLm_).2.1 (Kd.V_F (by (with_reducible repeat (first | apply Kd.V_alloc | apply Kd.V_drewN | apply Kd.V_drew)); exact HLm_)))); (case aB => exact G.bel); (case aF => exact (fun k_ hk => ⟨(Nat.le_trans (below_size G.bel) hk), Kd.fresh' (Kd.N_lt (G.kN HO_6.out)) k_ hk, Kd.fresh' (Kd.R_lt (G.kR HO_9.out)) k_ hk, Kd.fresh' (Kd.R_lt (G.kR HO_10.out)) k_ hk⟩)); (case aO => exact (G.kN HO_5.out)); (case aS => exact (below_size G.bel)); (case aL => have := LMc36.out; omega); intro v317 w39 ho hb hg hat; rw [← Ny316.out] at ho; have n0_ := Aside0.mk (Kd.N_afterv (ok := (fun k_ => (w.heap.size ≤ k_) ∧ some k_ ≠ (.slice Ao38 x9_3.length co38 : Value).ownBlock ∧ some k_ ≠ (.slice Ao37 t303.length co37 : Value).ownBlock)) (by (with_reducible repeat (first | apply Kd.N_alloc | apply Kd.N_drewN | apply Kd.N_drew)); exact Kd.N_mono HO_6.out (fun _ hk => ⟨⟨hk.1, ⟨hk.2.2.1, hk.2.2.2⟩⟩, hk.2.1⟩)) hg hat); have n1_ := Aside0.mk (Kd.R_over' (G.kR HO_9.out) (Kd.N_typed (G.kN HO_5.out)) (by decide) hg); have n2_ := Aside0.mk (Kd.R_over' (G.kR HO_10.out) (Kd.N_typed (G.kN HO_5.out)) (by decide) hg); have n3_ := Aside0.mk (Kd.V_afterv (ok := (fun k_ => (w.heap.size ≤ k_) ∧ some k_ ≠ (.slice (some ad302) t295.length co17 : Value).ownBlock ∧ some k_ ≠ (.slice Ao38 x9_3.length co38 : Value).ownBlock ∧ some k_ ≠ (.slice Ao37 t303.length co37 : Value).ownBlock)) (by (with_reducible repeat (first | apply Kd.V_alloc | apply Kd.V_drewN | apply Kd.V_drew)); exact Kd.V_mono HL315_0.out (fun _ hk => ⟨⟨hk.1.1, ⟨hk.2, ⟨hk.1.2.2.1, hk.1.2.2.2⟩⟩⟩, hk.1.2.1⟩)) hg hat); have n4_ := Aside0.mk (hb); have n5_ := Aside0.mk (ho); clear HO_6; clear HO_9; clear HO_10; clear HL315_0; clear HB; clear HO_5; have HO_6 := n0_; have HO_9 := n1_; have HO_10 := n2_; have HL315_0 := n3_; have HB := n4_; have HO318 := n5_; clear n0_ n1_ n2_ n3_ n4_ n5_; clear ho hb hg hat))
               go_roundg k3
               case measure => have := HK1.out; have := HJ6.out; have := HK3.out; omega
               case rel => exact ⟨(y316), (wrap64 (x8_1 + 1)), G.tr, H', ⟨by have := HK1.out; have := HJ6.out; have := HK3.out; omega⟩, ⟨by (with_reducible repeat (first | apply Kd.N_alloc | apply Kd.N_drewN | apply Kd.N_drew)); exact Kd.N_mono HO318.out (fun _ hk => ⟨hk.1, hk.2.1⟩)⟩, ⟨by (with_reducible repeat (first | apply Kd.N_alloc | apply Kd.N_drewN | apply Kd.N_drew)); exact Kd.N_mono HO_6.out (fun _ hk => ⟨hk.1.1, hk.2⟩)⟩, ⟨G.bel⟩⟩
              ·rw [if_neg c36] at H
               exact absurd H (by simp)
             ·rw [if_neg c35] at H
              exact absurd H (by simp)
            ·rw [if_neg c34] at H
             exact absurd H (by simp)
           ·rw [if_neg c33] at H
            have c33b0 : decide (1 < (x9_3.length : Int)) = false := decide_eq_false c33
            have c33b1 : decide (1 < x9_3.length) = false := decide_eq_false (by omega)
            clear c33
            have H' := Aside0.mk H
            clear H
            obtain ⟨Ao40, co40, eo40⟩ := Kd.R_slice HO_10.out
            subst eo40
            obtain ⟨Ao41, co41, eo41⟩ := Kd.R_slice HO_9.out
            subst eo41
            go_wp2
            go_roundg k3
            case measure => have := HK1.out; have := HJ6.out; have := HK3.out; omega
            case rel => exact ⟨(x5_1), (wrap64 (x8_1 + 1)), G.tr, H', ⟨by have := HK1.out; have := HJ6.out; have := HK3.out; omega⟩, ⟨by (with_reducible repeat (first | apply Kd.N_alloc | apply Kd.N_drewN | apply Kd.N_drew)); exact Kd.N_mono HO_5.out (fun _ hk => ⟨hk.1, hk.2.1⟩)⟩, ⟨by (with_reducible repeat (first | apply Kd.N_alloc | apply Kd.N_drewN | apply Kd.N_drew)); exact Kd.N_mono HO_6.out (fun _ hk => ⟨hk.1, hk.2.1⟩)⟩, ⟨G.bel⟩⟩
       ·rw [if_neg c13] at H
        exact absurd H (by simp)
      ·rw [if_neg c12] at H
       exact absurd H (by simp)
     ·replace c11 := Bool.eq_false_iff.mpr c11
      subst c11
      rw [if_neg (show ¬ (false = true) by decide)] at H
      obtain rfl := Option.some.inj H
      go_wp2
      go_ret
      exact ⟨_, G.er, by (with_reducible repeat (first | apply Kd.N_alloc | apply Kd.N_drewN | apply Kd.N_drew)); exact Kd.N_mono HO_5.out (fun _ hk => hk.1), G.bel⟩

/-! ### impl_RightSpecial: the factors that two letters follow, handed on (the print's lines, rows told apart) -/
-- lib: G0 GHand
mutual
def impl_RightSpecial.l0 : Nat → List Int → Int → List (List Int) → List (List Int) → Int → Int → Option ((List (List Int)))
 | 0, _, _, _, _, _, _ => none
 | k + 1, x0, x1, x5, x21, x22, x23 => if x23 < x22 then (if 0 ≤ x23 then (if x23 < (x21.length : Int) then ((impl_OccurrencesOf.f k x0 (rd_L1 x21 x23)).bind fun t278 => (impl_RightSpecial.l1 k x0 x1 x5 (-1) x21 x22 x23 t278 (t278.length : Int) 0)) else (none)) else (none)) else (some x5)
def impl_RightSpecial.l1 : Nat → List Int → Int → List (List Int) → Int → List (List Int) → Int → Int → List Int → Int → Int → Option ((List (List Int)))
 | 0, _, _, _, _, _, _, _, _, _, _ => none
 | k + 1, x0, x1, x5, x10, x21, x22, x23, x29, x30, x31 => if x31 < x30 then (if 0 ≤ x31 then (if x31 < (x29.length : Int) then (if (wrap64 ((rd x29 x31) + x1)) = (x0.length : Int) then (impl_RightSpecial.l1 k x0 x1 x5 x10 x21 x22 x23 x29 x30 (wrap64 (x31 + 1))) else (if 0 ≤ (wrap64 ((rd x29 x31) + x1)) then (if (wrap64 ((rd x29 x31) + x1)) < (x0.length : Int) then (if x10 < 0 then (impl_RightSpecial.l1 k x0 x1 x5 (rd x0 (wrap64 ((rd x29 x31) + x1))) x21 x22 x23 x29 x30 (wrap64 (x31 + 1))) else (if (rd x0 (wrap64 ((rd x29 x31) + x1))) = x10 then (impl_RightSpecial.l1 k x0 x1 x5 x10 x21 x22 x23 x29 x30 (wrap64 (x31 + 1))) else (if x5.length < 5864062014805 then (impl_RightSpecial.l0 k x0 x1 (x5 ++ [rd_L1 x21 x23]) x21 x22 (wrap64 (x23 + 1))) else (none)))) else (none)) else (none))) else (none)) else (none)) else (impl_RightSpecial.l0 k x0 x1 x5 x21 x22 (wrap64 (x23 + 1)))
end
def impl_RightSpecial.f (k : Nat) (l0 : List Int) (a1 : Int) : Option ((List (List Int))) := (impl_FactorsOf.f k l0 a1).bind fun bt273 => (impl_RightSpecial.l0 k l0 a1 (([] : List (List Int))) bt273.1 (bt273.1.length : Int) 0)
set_option maxHeartbeats 8000000 in
set_option maxRecDepth 100000 in
theorem impl_RightSpecial.calls (k : Nat) (A0 : Option Addr) (c0 : Nat) (l0 : List Int) (a1 : Int) (r : List (List Int)) (w : World) (hr0 : Kd.C (Kd.int .i64) w A0 l0.length l0) (hc0 : l0.length ≤ c0) (h : impl_RightSpecial.f k l0 a1 = some r) :
  Calls Try.prog 37 #[.slice A0 l0.length c0, .int .i64 a1] w fun e w' => ∃ v0_ : Value, e = .returned (v0_) ∧ Kd.S (Kd.slice 3 (Kd.int .i64)) 22 w' w.heap.size (fun _ => True) v0_ r ∧ Below w.heap.size w w' := by
 have HR0 := Aside0.mk hr0
 have HC0 := Aside0.mk hc0
 clear hr0 hc0
 have HB := Aside0.mk (Below.refl w.heap.size w)
 have H : ((impl_FactorsOf.f k l0 a1).bind fun bt273 => (impl_RightSpecial.l0 k l0 a1 (([] : List (List Int))) bt273.1 (bt273.1.length : Int) 0)) = some r := h
 clear h
 obtain ⟨y270, hy270⟩ : ∃ y_ : List (List Int), y_ = (([] : List (List Int))) := ⟨_, rfl⟩
 replace H : ((impl_FactorsOf.f k l0 a1).bind fun bt273 => (impl_RightSpecial.l0 k l0 a1 y270 bt273.1 (bt273.1.length : Int) 0)) = some r := by first | (rw [hy270]; with_reducible exact H) | (have H2_ := (Option.bind_some _ _).symm.trans H; rw [hy270]; with_reducible exact H2_) | (have H2_ := (Option.bind_some _ _).symm.trans H; with_reducible exact H2_) | with_reducible exact H | (rw [hy270]; exact H) | exact H
 have Ny270 := Aside0.mk hy270
 clear hy270
 obtain ⟨⟨t273, t274⟩, A3, H⟩ := G.bx H
 replace H : (impl_RightSpecial.l0 k l0 a1 y270 t273 (t273.length : Int) 0) = some r := H
 have H' := Aside0.mk H
 clear H
 go_enter Try.func37, Try.ntmps37
 go_wp2_with (first | ((with_reducible refine gate_dst (N := 14) rfl ?_); refine Kd.S_lit (Kd.slice 3 (Kd.int .i64)) _ 22 ?hg (N := 14) ?hd (xs := ([] : List (List Int))) (inner := []) (ok := fun _ => True) (okp := fun _ => True) ?hr ?hp (fun _ hk => hk) trivial (Below.refl _ _) (Nat.le_refl _) (by simp) ?_; (case hd => rfl); (case hg => rfl); (case hr => first | (go_simp; done) | (go_simp; rfl)); (case hp => exact (Reps.none _ _)); intro v271 w4 ho5 hb hg_ hnew_; clear hg_ hnew_; (first | rw [← Ny270.out] at ho5 | (simp only [Int.reduceToNat] at ho5; rw [← Ny270.out] at ho5)); have n0_ := Aside0.mk (Kd.S_lower ho5 (below_size G.bel)); have n1_ := Aside0.mk (below_step G.bel hb); clear HB; have HO272 := n0_; have HB := n1_; clear n0_ n1_; clear hb ho5) | ((with_reducible refine gate_callee (f := 31) rfl ?_); refine goesL_ (some 18) rfl rfl Try.func31 (by kernel_rfl) rfl #[.slice A0 l0.length c0, .int .i64 a1] rfl G.ar ?_; (with_reducible refine (impl_FactorsOf.calls k _ _ l0 a1 t273 t274 _ ?side1 ?side2 A3.out).mono ?_); (case side1 => exact G.kC (Kd.C_below HR0.out HB.out)); (case side2 => exact HC0.out); rintro e w6 ⟨v275, rfl, ho0, hb⟩; refine ⟨_, rfl, ?_⟩; obtain ⟨b15_, hb15_, hbl15_⟩ := G.named hb; have HN_ := Aside0.mk (Kd.S_below (Kd.S_mono (ok' := fun k_ => k_ < b15_) (Kd.S_bound (G.kS HO272.out)) (fun k_ hk_ => by rw [hb15_]; exact hk_.2.2.1)) hb); rw [← hb15_] at ho0; obtain ⟨Ao7, co7, eo7⟩ := Kd.S_slice ho0; subst eo7; obtain ⟨own_, ho1_, ho2_, ho3_⟩ := G.S_split ho0; have HO1 := Aside0.mk ho1_; have HO2 := Aside0.mk ho2_; have HO3 := Aside0.mk ho3_; have HSA := Aside0.mk ho0; have HHD := Aside0.mk (show (∀ k_, (v271 : Value).ownBlock = some k_ → ¬ (b15_ ≤ k_ ∧ k_ < w6.heap.size)) from fun k_ e_ h_ => Nat.lt_irrefl _ (Nat.lt_of_lt_of_le (HN_.out.choose_spec.1 k_ e_) h_.1)); have n0_ := Aside0.mk (Kd.S_mono (ok' := fun k_ => G.Taken own_ b15_ w6.heap.size 0 k_) HN_.out (fun k_ hk_ => .inl (fun h_ => Nat.lt_irrefl _ (Nat.lt_of_lt_of_le hk_ h_.1)))); have n2_ := Aside0.mk (below_step G.bel hb); have HKW := Aside0.mk (Kept.refl w6 (fun k_ => ¬ (b15_ ≤ k_ ∧ k_ < w6.heap.size))); have HW15 := Aside0.mk (Nat.le_trans (below_size G.bel) (Nat.le_of_eq hb15_.symm)); clear HO272; clear HB; have HO272 := n0_; have HB := n2_; clear n0_ n2_ HN_; clear ho0 ho1_ ho2_ ho3_ hb hb15_ hbl15_))
 go_loopg [5, 23] k (fun kq v5 v23 w' => ∃ (x5_1 : List (List Int)) (x23_1 : Int), v23 = .int .i64 x23_1 ∧ Aside0 (impl_RightSpecial.l0 kq l0 a1 x5_1 t273 (t273.length : Int) x23_1 = some r) ∧ Aside0 (kq ≤ k) ∧ Aside0 (Kd.S (Kd.slice 3 (Kd.int .i64)) 22 w' w.heap.size (fun k_ => G.Taken own_ b15_ w6.heap.size x23_1 k_) v5 x5_1) ∧ Aside0 (∀ k_, (v5 : Value).ownBlock = some k_ → ¬ (b15_ ≤ k_ ∧ k_ < w6.heap.size)) ∧ Aside0 (Kept w6 w' (fun k_ => ¬ (b15_ ≤ k_ ∧ k_ < w6.heap.size))) ∧ Aside0 (Below w.heap.size w w'))
 case atStart => exact ⟨(y270), (0), G.tr, H', ⟨Nat.le_refl _⟩, ⟨G.kS HO272.out⟩, HHD, ⟨(by repeat (first | (with_reducible first | exact HKW.out | apply Kept.alloc | apply Kept.drewN | apply Kept.drew) | exact HKW.out))⟩, ⟨G.bel⟩⟩
 case round =>
  clear H'
  try clear p2; try clear c3
  clear HO272 HHD HKW HB
  obtain ⟨x5_1, x23_1, rfl, HA, HK1, HO_5, HHD, HKW, HB⟩ := hrel
  cases gk with
  | zero => exact absurd HA.out (by simp [impl_RightSpecial.l0])
  | succ k1 =>
   have H := HA.out
   clear HA
   simp only [impl_RightSpecial.l0] at H
   by_cases c8 : x23_1 < (t273.length : Int)
   ·rw [if_pos c8] at H
    have c8b0 : decide (x23_1 < (t273.length : Int)) = true := decide_eq_true c8
    clear c8
    by_cases c9 : 0 ≤ x23_1
    ·rw [if_pos c9] at H
     have c9b0 : decide (0 ≤ x23_1) = true := decide_eq_true c9
     clear c9
     by_cases c10 : x23_1 < (t273.length : Int)
     ·rw [if_pos c10] at H
      have c10b0 : decide (x23_1 < (t273.length : Int)) = true := decide_eq_true c10
      clear c10
      obtain ⟨t278, A11, H⟩ := G.bx H
      have H' := Aside0.mk H
      clear H
      have p277 : 0 ≤ (x23_1 : Int) := G.odt
      have q277 : x23_1 < (t273.length : Int) := G.odt
      obtain ⟨ad277, A277_0, c277_0, e277, hx277_0, hl277_0, hi277_0⟩ := at_L1 (Kd.S_reads' HSA.out).2.2 x23_1 p277 q277
      cases e277
      have hR_ := HO3.out ad277 x23_1.toNat _ _ _ rfl (by omega) hx277_0
      have hz_ : wrap64 (x23_1 + 1) = x23_1 + 1 := by have hm_ := (Kd.S_reads' HSA.out).2.2.2.1; exact G.w64 (by omega) (by omega)
      have HZ := Aside0.mk hz_
      have HP0 := Aside0.mk p277
      clear hz_
      replace hx277_0 := cell_kept hx277_0 HKW.out (fun h_ => h_ (by
       have e_ : (Value.slice (some ad277) t273.length co7).ownBlock = some (ad277.add x23_1.toNat).block := by rw [add_block]; simp [Value.ownBlock]
       exact ⟨Kd.S_base HSA.out _ e_, Kd.S_lt HSA.out _ e_⟩))
      have HL277_0 := Aside0.mk (show (Kd.int .i64).R 3 _ b15_ (own_ x23_1.toNat) (.slice A277_0 (rd_L1 t273 x23_1).length c277_0) (rd_L1 t273 x23_1) from Kd.R_kept hR_ HKW.out (fun k_ hk_ h_ => h_ (HO2.out _ _ hk_)))
      have HR277_0 := Aside0.mk (Kd.R_reads' HL277_0.out).2.2
      have HC277_0 := Aside0.mk hl277_0
      clear hi277_0 hl277_0 hR_
      replace p277 := eq_true p277
      replace q277 := eq_true q277
      go_wp2_with (first | ((with_reducible refine gate_callee (f := 75) rfl ?_); refine goesL_ (some 29) rfl rfl Try.func75 (by kernel_rfl) rfl #[.slice A0 l0.length c0, .slice A277_0 (rd_L1 t273 x23_1).length c277_0] rfl G.ar ?_; (with_reducible refine (impl_OccurrencesOf.calls k1 _ _ l0 _ _ (rd_L1 t273 x23_1) t278 _ ?side1 ?side2 ?side3 ?side4 A11.out).mono ?_); (case side1 => exact G.kC (Kd.C_below HR0.out HB.out)); (case side2 => exact HC0.out); (case side3 => repeat (first | exact (by repeat (first | (with_reducible exact HR277_0.out) | (with_reducible refine Kd.C_alloc ?_ _) | (with_reducible refine Kd.C_drewN ?_ _) | (with_reducible refine Kd.C_drew ?_) | exact HR277_0.out)) | (with_reducible refine Kd.C_alloc ?_ _) | (with_reducible refine Kd.C_drewN ?_ _) | (with_reducible refine Kd.C_drew ?_))); (case side4 => exact HC277_0.out); rintro e w12 ⟨v279, rfl, ho0, hb⟩; refine ⟨_, rfl, ?_⟩; have n0_ := Aside0.mk (Kd.S_below (G.kS HO_5.out) hb); have n1_ := Aside0.mk (Kept.below (S := (fun k_ => ¬ (b15_ ≤ k_ ∧ k_ < w6.heap.size))) (by repeat (first | (with_reducible first | exact HKW.out | apply Kept.alloc | apply Kept.drewN | apply Kept.drew) | exact HKW.out)) hb); have n2_ := Aside0.mk (Kd.R_below (G.kR HL277_0.out) hb); have n3_ := Aside0.mk (Kd.R_lower ho0 (below_size G.bel)); have n4_ := Aside0.mk (Kd.C_below (by repeat (first | (with_reducible exact HR277_0.out) | (with_reducible refine Kd.C_alloc ?_ _) | (with_reducible refine Kd.C_drewN ?_ _) | (with_reducible refine Kd.C_drew ?_) | exact HR277_0.out)) hb); have n5_ := Aside0.mk (below_step G.bel hb); clear HO_5; clear HKW; clear HL277_0; clear HR277_0; clear HB; have HO_5 := n0_; have HKW := n1_; have HL277_0 := n2_; have HO280 := n3_; have HR277_0 := n4_; have HB := n5_; clear n0_ n1_ n2_ n3_ n4_ n5_; (try clear hb); (try clear hb2); (try clear hk); (try clear hi); (try clear ho0); obtain ⟨Ao13, co13, eo13⟩ := Kd.R_slice HO280.out; subst eo13))
      go_loopg [5, 10, 31] k1 (fun kq v5 v10 v31 w' => ∃ (x5_2 : List (List Int)) (x10_2 : Int) (x31_2 : Int), v10 = .int .i64 x10_2 ∧ v31 = .int .i64 x31_2 ∧ Aside0 (impl_RightSpecial.l1 kq l0 a1 x5_2 x10_2 t273 (t273.length : Int) x23_1 t278 (t278.length : Int) x31_2 = some r) ∧ Aside0 (kq ≤ k1) ∧ Aside0 (Kd.S (Kd.slice 3 (Kd.int .i64)) 22 w' w.heap.size (fun k_ => G.Taken own_ b15_ w6.heap.size x23_1 k_) v5 x5_2) ∧ Aside0 (∀ k_, (v5 : Value).ownBlock = some k_ → ¬ (b15_ ≤ k_ ∧ k_ < w6.heap.size)) ∧ Aside0 (Kept w6 w' (fun k_ => ¬ (b15_ ≤ k_ ∧ k_ < w6.heap.size))) ∧ Aside0 (Kd.R (Kd.int .i64) 3 w' w.heap.size (fun _ => True) (.slice Ao13 t278.length co13) t278) ∧ Aside0 ((Kd.int .i64).R 3 w' b15_ (own_ x23_1.toNat) (.slice A277_0 (rd_L1 t273 x23_1).length c277_0) (rd_L1 t273 x23_1)) ∧ Aside0 (Below w.heap.size w w'))
      case atStart => exact ⟨(x5_1), ((-1)), (0), G.tr, G.tr, H', ⟨Nat.le_refl _⟩, ⟨G.kS HO_5.out⟩, HHD, ⟨(by repeat (first | (with_reducible first | exact HKW.out | apply Kept.alloc | apply Kept.drewN | apply Kept.drew) | exact HKW.out))⟩, ⟨by (with_reducible repeat (first | apply Kd.R_alloc | apply Kd.R_drewN | apply Kd.R_drew)); exact Kd.R_mono HO280.out (fun _ hk => trivial)⟩, ⟨G.kR HL277_0.out⟩, ⟨G.bel⟩⟩
      case round =>
       clear H'
       try clear c1; try clear c2; try clear p2; try clear q2; try clear hx2; try clear c3; try clear c7; try clear c8; try clear c8b0; try clear c9; try clear c9b0; try clear c10; try clear c10b0; try clear hx277_0; try clear p2; try clear p277; try clear q277
       clear HO_5 HHD HKW HL277_0 HR277_0 HO280 HB
       obtain ⟨x5_2, x10_2, x31_2, rfl, rfl, HA, HK2, HO_5, HHD, HKW, HO_29, HL277_0, HB⟩ := hrel
       cases gk with
       | zero => exact absurd HA.out (by simp [impl_RightSpecial.l1])
       | succ k2 =>
        have H := HA.out
        clear HA
        simp only [impl_RightSpecial.l1] at H
        by_cases c14 : x31_2 < (t278.length : Int)
        ·rw [if_pos c14] at H
         have c14b0 : decide (x31_2 < (t278.length : Int)) = true := decide_eq_true c14
         clear c14
         by_cases c15 : 0 ≤ x31_2
         ·rw [if_pos c15] at H
          have c15b0 : decide (0 ≤ x31_2) = true := decide_eq_true c15
          clear c15
          by_cases c16 : x31_2 < (t278.length : Int)
          ·rw [if_pos c16] at H
           have c16b0 : decide (x31_2 < (t278.length : Int)) = true := decide_eq_true c16
           clear c16
           by_cases c17 : (wrap64 ((rd t278 x31_2) + a1)) = (l0.length : Int)
           ·rw [if_pos c17] at H
            have c17b0 : ((wrap64 ((rd t278 x31_2) + a1)) == (l0.length : Int)) = true := beq_iff_eq.mpr c17
            have c17b1 : ((wrap64 ((rd t278 x31_2) + a1)) != (l0.length : Int)) = false := bne_eq_false_iff_eq.mpr c17
            clear c17
            have H' := Aside0.mk H
            clear H
            have p281 : 0 ≤ (x31_2 : Int) := G.odt
            have q281 : x31_2 < (t278.length : Int) := G.odt
            obtain ⟨ad281, e281, hx281_0⟩ := Kd.at_int (Kd.R_reads' HO_29.out).2.2 x31_2 p281 q281
            cases e281
            replace p281 := eq_true p281
            replace q281 := eq_true q281
            go_wp2
            go_roundg k2
            case measure => have := HK1.out; have := HK2.out; omega
            case rel => exact ⟨(x5_2), (x10_2), (wrap64 (x31_2 + 1)), G.tr, G.tr, H', ⟨by have := HK1.out; have := HK2.out; omega⟩, ⟨G.kS HO_5.out⟩, HHD, ⟨(by repeat (first | (with_reducible first | exact HKW.out | apply Kept.alloc | apply Kept.drewN | apply Kept.drew) | exact HKW.out))⟩, ⟨G.kR HO_29.out⟩, ⟨G.kR HL277_0.out⟩, ⟨G.bel⟩⟩
           ·rw [if_neg c17] at H
            have c17b0 : ((wrap64 ((rd t278 x31_2) + a1)) == (l0.length : Int)) = false := beq_eq_false_iff_ne.mpr c17
            have c17b1 : ((wrap64 ((rd t278 x31_2) + a1)) != (l0.length : Int)) = true := bne_iff_ne.mpr c17
            obtain ⟨ji18, hji18⟩ : ∃ j_ : Int, (wrap64 ((rd t278 x31_2) + a1)) = j_ := ⟨_, rfl⟩
            replace H : (if 0 ≤ (ji18) then (if (ji18) < (l0.length : Int) then (if x10_2 < 0 then (impl_RightSpecial.l1 k2 l0 a1 x5_2 (rd l0 (ji18)) t273 (t273.length : Int) x23_1 t278 (t278.length : Int) (wrap64 (x31_2 + 1))) else (if (rd l0 (ji18)) = x10_2 then (impl_RightSpecial.l1 k2 l0 a1 x5_2 x10_2 t273 (t273.length : Int) x23_1 t278 (t278.length : Int) (wrap64 (x31_2 + 1))) else (if x5_2.length < 5864062014805 then (impl_RightSpecial.l0 k2 l0 a1 (x5_2 ++ [(rd_L1 t273 x23_1)]) t273 (t273.length : Int) (wrap64 (x23_1 + 1))) else (none)))) else (none)) else (none)) = some r := by first | (rw [hji18] at H; exact H) | (simp only [hji18] at H ⊢; exact H)
            (try rw [hji18] at c17b0)
            (try rw [hji18] at c17b1)
            have hji18w : (IntKind.i64.wrap ((rd t278 x31_2) + a1)) = ji18 := (i64_w _).trans hji18
            by_cases c19 : 0 ≤ (ji18)
            ·rw [if_pos c19] at H
             have c19b0 : decide (0 ≤ (ji18)) = true := decide_eq_true c19
             clear c19
             by_cases c20 : (ji18) < (l0.length : Int)
             ·rw [if_pos c20] at H
              have c20b0 : decide ((ji18) < (l0.length : Int)) = true := decide_eq_true c20
              clear c20
              by_cases c21 : x10_2 < 0
              ·rw [if_pos c21] at H
               have c21b0 : decide (x10_2 < 0) = true := decide_eq_true c21
               clear c21
               have H' := Aside0.mk H
               clear H
               have p281 : 0 ≤ (x31_2 : Int) := G.odt
               have q281 : x31_2 < (t278.length : Int) := G.odt
               obtain ⟨ad281, e281, hx281_0⟩ := Kd.at_int (Kd.R_reads' HO_29.out).2.2 x31_2 p281 q281
               cases e281
               replace p281 := eq_true p281
               replace q281 := eq_true q281
               have p282 : 0 ≤ ((ji18) : Int) := G.odt
               have q282 : (ji18) < (l0.length : Int) := G.odt
               obtain ⟨ad282, e282, hx282_0⟩ := Kd.at_int HR0.out (ji18) p282 q282
               cases e282
               replace hx282_0 := (HB.out.cell (World.block_lt_of_cell? w _ hx282_0)).trans hx282_0
               replace p282 := eq_true p282
               replace q282 := eq_true q282
               go_wp2
               go_roundg k2
               case measure => have := HK1.out; have := HK2.out; omega
               case rel => exact ⟨(x5_2), (rd l0 (ji18)), (wrap64 (x31_2 + 1)), (by first | rfl | (simp; done) | (simp only [← hji18] <;> (first | rfl | simp)) | (simp [*]; done)), G.tr, H', ⟨by have := HK1.out; have := HK2.out; omega⟩, ⟨G.kS HO_5.out⟩, HHD, ⟨(by repeat (first | (with_reducible first | exact HKW.out | apply Kept.alloc | apply Kept.drewN | apply Kept.drew) | exact HKW.out))⟩, ⟨G.kR HO_29.out⟩, ⟨G.kR HL277_0.out⟩, ⟨G.bel⟩⟩
              ·rw [if_neg c21] at H
               have c21b0 : decide (x10_2 < 0) = false := decide_eq_false c21
               clear c21
               by_cases c22 : (rd l0 (ji18)) = x10_2
               ·rw [if_pos c22] at H
                have c22b0 : ((rd l0 (ji18)) == x10_2) = true := beq_iff_eq.mpr c22
                have c22b1 : ((rd l0 (ji18)) != x10_2) = false := bne_eq_false_iff_eq.mpr c22
                clear c22
                have H' := Aside0.mk H
                clear H
                have p281 : 0 ≤ (x31_2 : Int) := G.odt
                have q281 : x31_2 < (t278.length : Int) := G.odt
                obtain ⟨ad281, e281, hx281_0⟩ := Kd.at_int (Kd.R_reads' HO_29.out).2.2 x31_2 p281 q281
                cases e281
                replace p281 := eq_true p281
                replace q281 := eq_true q281
                have p282 : 0 ≤ ((ji18) : Int) := G.odt
                have q282 : (ji18) < (l0.length : Int) := G.odt
                obtain ⟨ad282, e282, hx282_0⟩ := Kd.at_int HR0.out (ji18) p282 q282
                cases e282
                replace hx282_0 := (HB.out.cell (World.block_lt_of_cell? w _ hx282_0)).trans hx282_0
                replace p282 := eq_true p282
                replace q282 := eq_true q282
                go_wp2
                go_roundg k2
                case measure => have := HK1.out; have := HK2.out; omega
                case rel => exact ⟨(x5_2), (x10_2), (wrap64 (x31_2 + 1)), G.tr, G.tr, H', ⟨by have := HK1.out; have := HK2.out; omega⟩, ⟨G.kS HO_5.out⟩, HHD, ⟨(by repeat (first | (with_reducible first | exact HKW.out | apply Kept.alloc | apply Kept.drewN | apply Kept.drew) | exact HKW.out))⟩, ⟨G.kR HO_29.out⟩, ⟨G.kR HL277_0.out⟩, ⟨G.bel⟩⟩
               ·rw [if_neg c22] at H
                have c22b0 : ((rd l0 (ji18)) == x10_2) = false := beq_eq_false_iff_ne.mpr c22
                have c22b1 : ((rd l0 (ji18)) != x10_2) = true := bne_iff_ne.mpr c22
                by_cases c23 : x5_2.length < 5864062014805
                ·rw [if_pos c23] at H
                 have LMc23 := Aside0.mk c23
                 clear c23
                 obtain ⟨y286, hy286⟩ : ∃ y_ : List (List Int), y_ = (x5_2 ++ [(rd_L1 t273 x23_1)]) := ⟨_, rfl⟩
                 replace H : (impl_RightSpecial.l0 k2 l0 a1 y286 t273 (t273.length : Int) (wrap64 (x23_1 + 1))) = some r := by first | (rw [hy286]; with_reducible exact H) | (have H2_ := (Option.bind_some _ _).symm.trans H; rw [hy286]; with_reducible exact H2_) | (have H2_ := (Option.bind_some _ _).symm.trans H; with_reducible exact H2_) | with_reducible exact H | (rw [hy286]; exact H) | exact H
                 have Ny286 := Aside0.mk hy286
                 clear hy286
                 have H' := Aside0.mk H
                 clear H
                 have p281 : 0 ≤ (x31_2 : Int) := G.odt
                 have q281 : x31_2 < (t278.length : Int) := G.odt
                 obtain ⟨ad281, e281, hx281_0⟩ := Kd.at_int (Kd.R_reads' HO_29.out).2.2 x31_2 p281 q281
                 cases e281
                 replace p281 := eq_true p281
                 replace q281 := eq_true q281
                 have p282 : 0 ≤ ((ji18) : Int) := G.odt
                 have q282 : (ji18) < (l0.length : Int) := G.odt
                 obtain ⟨ad282, e282, hx282_0⟩ := Kd.at_int HR0.out (ji18) p282 q282
                 cases e282
                 replace hx282_0 := (HB.out.cell (World.block_lt_of_cell? w _ hx282_0)).trans hx282_0
                 replace p282 := eq_true p282
                 replace q282 := eq_true q282
                 go_wp2_with (first | ((with_reducible refine gate_builtin (b := .append) (xs := #[.tmp 53, .tmp 55]) rfl ?_); at_builtin; refine Kd.S_append (Kd.slice 3 (Kd.int .i64)) (w0 := w) w.heap.size rfl (.tmp 53) (.tmp 55) 23 22 (.slice none 0 0) 24 rfl Try.underlying23 info22 rfl (by decide) (by omega) u5 x5_2 (rd_L1 t273 x23_1) [.slice A277_0 (rd_L1 t273 x23_1).length c277_0] (fun k_ => G.Taken own_ b15_ w6.heap.size (x23_1 + 1) k_) (own_ x23_1.toNat) rfl rfl ?aP (fun k_ hk_ => ⟨G.taken_in HP0.out hk_, fun e_ => HHD.out k_ e_.symm (HO2.out _ _ hk_)⟩) ?aF ?aO ?aB ?aS ?aL ?_; (case aP => exact Kd.M_row (Kd.R_lower (G.kR HL277_0.out) HW15.out)); (case aB => exact G.bel); (case aF => exact (fun k_ hk_ => .inl (fun h_ => Nat.lt_irrefl _ (Nat.lt_of_lt_of_le h_.2 (Nat.le_trans (show Kept w6 _ (fun k_ => ¬ (b15_ ≤ k_ ∧ k_ < w6.heap.size)) from by repeat (first | (with_reducible first | exact HKW.out | apply Kept.alloc | apply Kept.drewN | apply Kept.drew) | exact HKW.out)).1 hk_))))); (case aO => exact (Kd.S_mono (ok := fun k_ => G.Taken own_ b15_ w6.heap.size x23_1 k_) (G.kS HO_5.out) (fun k_ hk_ => ⟨G.taken_next hk_, G.taken_not HO1.out HO2.out HP0.out hk_⟩))); (case aS => exact (below_size G.bel)); (case aL => have := LMc23.out; omega); intro v287 w26 ho hb hg hat; rw [← Ny286.out] at ho; have n1_ := Aside0.mk (Kept.of_grown (S := (fun k_ => ¬ (b15_ ≤ k_ ∧ k_ < w6.heap.size))) hg (by repeat (first | (with_reducible first | exact HKW.out | apply Kept.alloc | apply Kept.drewN | apply Kept.drew) | exact HKW.out)) (fun k_ e_ => .inl (HHD.out k_ e_))); have nh_ := Aside0.mk (show (∀ k_, (v287 : Value).ownBlock = some k_ → ¬ (b15_ ≤ k_ ∧ k_ < w6.heap.size)) from fun k_ e_ h_ => hat.elim (fun e2_ => HHD.out k_ (e2_.symm.trans e_) h_) (fun ⟨b_, e2_, h2_⟩ => by rw [e2_] at e_; injection e_ with e_; subst e_; exact Nat.lt_irrefl _ (Nat.lt_of_lt_of_le h_.2 (Nat.le_trans (show Kept w6 _ (fun k_ => ¬ (b15_ ≤ k_ ∧ k_ < w6.heap.size)) from by repeat (first | (with_reducible first | exact HKW.out | apply Kept.alloc | apply Kept.drewN | apply Kept.drew) | exact HKW.out)).1 h2_)))); have n2_ := Aside0.mk (hb); have n3_ := Aside0.mk (ho); clear HKW; clear HL277_0; clear HB; clear HO_5; clear HHD; have HKW := n1_; have HHD := nh_; have HB := n2_; have HO288 := n3_; clear n1_ nh_ n2_ n3_; clear ho hb hg hat))
                 go_roundg k2
                 case measure => have := HK1.out; have := HK2.out; omega
                 case rel => exact ⟨(y286), (wrap64 (x23_1 + 1)), G.tr, H', ⟨by have := HK1.out; have := HK2.out; omega⟩, ⟨by rw [HZ.out]; (with_reducible repeat (first | apply Kd.S_alloc | apply Kd.S_drewN | apply Kd.S_drew)); exact HO288.out⟩, HHD, ⟨(by repeat (first | (with_reducible first | exact HKW.out | apply Kept.alloc | apply Kept.drewN | apply Kept.drew) | exact HKW.out))⟩, ⟨G.bel⟩⟩
                ·rw [if_neg c23] at H
                 exact absurd H (by simp)
             ·rw [if_neg c20] at H
              exact absurd H (by simp)
            ·rw [if_neg c19] at H
             exact absurd H (by simp)
          ·rw [if_neg c16] at H
           exact absurd H (by simp)
         ·rw [if_neg c15] at H
          exact absurd H (by simp)
        ·rw [if_neg c14] at H
         have c14b0 : decide (x31_2 < (t278.length : Int)) = false := decide_eq_false c14
         clear c14
         have H' := Aside0.mk H
         clear H
         go_wp2
         go_roundg k2
         case measure => have := HK1.out; have := HK2.out; omega
         case rel => exact ⟨(x5_2), (wrap64 (x23_1 + 1)), G.tr, H', ⟨by have := HK1.out; have := HK2.out; omega⟩, ⟨by rw [HZ.out]; exact Kd.S_mono (ok := fun k_ => G.Taken own_ b15_ w6.heap.size x23_1 k_) (G.kS HO_5.out) (fun k_ hk_ => G.taken_next hk_)⟩, HHD, ⟨(by repeat (first | (with_reducible first | exact HKW.out | apply Kept.alloc | apply Kept.drewN | apply Kept.drew) | exact HKW.out))⟩, ⟨G.bel⟩⟩
     ·rw [if_neg c10] at H
      exact absurd H (by simp)
    ·rw [if_neg c9] at H
     exact absurd H (by simp)
   ·rw [if_neg c8] at H
    have c8b0 : decide (x23_1 < (t273.length : Int)) = false := decide_eq_false c8
    clear c8
    obtain rfl := Option.some.inj H
    go_wp2
    go_ret
    exact ⟨_, G.er, by (with_reducible repeat (first | apply Kd.S_alloc | apply Kd.S_drewN | apply Kd.S_drew)); exact Kd.S_mono HO_5.out (fun _ hk => trivial), G.bel⟩

/-! ### laws_big: function 41 -/
def laws_big.f (l0 : List Int) : Option (Bool) := some (decide ((l0.length : Int) > 1048576))
set_option maxHeartbeats 8000000 in
set_option maxRecDepth 100000 in
theorem laws_big.calls (A0 : Option Addr) (c0 : Nat) (l0 : List Int) (r : Bool) (w : World) (hr0 : Kd.C (Kd.int .u8) w A0 l0.length l0) (hc0 : l0.length ≤ c0) (h : laws_big.f l0 = some r) :
  Calls Try.prog 41 #[.slice A0 l0.length c0] w fun e w' => e = .returned (.bool r) ∧ Drawn0 w w' := by
 have HR0 := Aside0.mk hr0
 have HC0 := Aside0.mk hc0
 clear hr0 hc0
 have H : (some (decide ((l0.length : Int) > 1048576))) = some r := h
 clear h
 obtain rfl := Option.some.inj H
 go_enter Try.func41, Try.ntmps41
 go_wp2
 go_ret
 exact ⟨G.tr, G.dn⟩

end Go.Proofs.Ytolikggioekalab.PFnWords
