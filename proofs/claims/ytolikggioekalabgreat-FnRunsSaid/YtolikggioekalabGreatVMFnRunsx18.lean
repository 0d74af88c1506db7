/- The Go functions that the law FnRuns reaches (part 18): each as a Lean function, and that its code comes to these answers. No condition beyond those written. -/
import Derived.Test.YtolikggioekalabGreatVMFnRunsx17
namespace Go.Proofs.YtolikggioekalabGreat.PFnRuns
open Go.RowKit Go.Proofs.YtolikggioekalabGreatW.PrintWords Go.Proofs.YtolikggioekalabGreatW.PrintLast Go.Proofs.YtolikggioekalabGreatW.PrintMore
attribute [local go_sem] max2_int min2_int max_two min_two max_three min_three max_four min_four
set_option maxHeartbeats 8000000
set_option maxRecDepth 100000
set_option linter.unusedVariables false
set_option linter.unusedSimpArgs false
def spec_l8Put.l0 : Nat → List (List Int) → List Int → List (List Int) → Bool → Int → Option ((List (List Int)))
 | 0, _, _, _, _, _ => none
 | k + 1, x0, x1, x5, x6, x7 => if x7 < (x0.length : Int) then (if 0 ≤ x7 then ((spec_CompareWords.f k x1 (rd_L2 x0 x7)).bind fun t728 => (if t728 = 0 then (if t728 < 0 then (if x5.length < 5864062014805 then (spec_l8Put.l0 k x0 x1 (x5 ++ [rd_L2 x0 x7]) true (wrap64 (x7 + 1))) else (none)) else (if x5.length < 5864062014805 then (spec_l8Put.l0 k x0 x1 (x5 ++ [rd_L2 x0 x7]) true (wrap64 (x7 + 1))) else (none))) else (if t728 < 0 then (if x6 = true then (if x5.length < 5864062014805 then (spec_l8Put.l0 k x0 x1 (x5 ++ [rd_L2 x0 x7]) x6 (wrap64 (x7 + 1))) else (none)) else ((some (([] : List Int) : List Int)).bind fun y741 => (if y741.length + x1.length < 17592186044416 then (if x5.length < 5864062014805 then ((some (x5 ++ [(y741 ++ x1)] : List (List Int))).bind fun y747 => (if y747.length < 5864062014805 then (spec_l8Put.l0 k x0 x1 (y747 ++ [rd_L2 x0 x7]) true (wrap64 (x7 + 1))) else (none))) else (none)) else (none)))) else (if x5.length < 5864062014805 then (spec_l8Put.l0 k x0 x1 (x5 ++ [rd_L2 x0 x7]) x6 (wrap64 (x7 + 1))) else (none))))) else (none)) else (if x6 = true then (some x5) else ((some (([] : List Int) : List Int)).bind fun y718 => (if y718.length + x1.length < 17592186044416 then (if x5.length < 5864062014805 then (some (x5 ++ [(y718 ++ x1)])) else (none)) else (none))))
def spec_l8Put.f (k : Nat) (l0 : List (List Int)) (l1 : List Int) : Option ((List (List Int))) := spec_l8Put.l0 k l0 l1 (([] : List (List Int))) false 0
theorem spec_l8Put.calls (k : Nat) (P0_ : Nat → Prop) (A0 : Option Addr) (c0 : Nat) (l0 : List (List Int)) (A1 : Option Addr) (c1 : Nat) (l1 : List Int) (r : List (List Int)) (w : World) (hs0 : Kd.V (Kd.slice 3 (Kd.int .i64)) 24 w w.heap.size (fun k_ => P0_ k_) (.slice A0 l0.length c0) l0) (hr1 : Kd.C (Kd.int .i64) w A1 l1.length l1) (hc1 : l1.length ≤ c1) (h : spec_l8Put.f k l0 l1 = some r) :
  Calls Tryz.prog 67 #[.slice A0 l0.length c0, .slice A1 l1.length c1] w fun e w' => ∃ v0_ : Value, e = .returned (v0_) ∧ Kd.N (Kd.slice 3 (Kd.int .i64)) 24 w' w.heap.size (fun k_ => (P0_ k_ ∨ w.heap.size ≤ k_)) v0_ r ∧ Below w.heap.size w w' := by
 have HO0 := G.a (show Kd.V (Kd.slice 3 (Kd.int .i64)) 24 w w.heap.size (fun k_ => (P0_ k_ ∨ w.heap.size ≤ k_)) (.slice A0 l0.length c0) l0 from Kd.V_mono hs0 (fun k_ hk => .inl hk))
 have HR1 := G.a hr1
 have HC1 := G.a hc1
 clear hr1 hc1
 have HB := G.a (Below.refl w.heap.size w)
 have H : (spec_l8Put.l0 k l0 l1 (([] : List (List Int))) false 0) = some r := h
 clear h
 obtain ⟨y715, hy715⟩ : ∃ y_ : List (List Int), y_ = (([] : List (List Int))) := ⟨_, rfl⟩
 replace H : (spec_l8Put.l0 k l0 l1 y715 false 0) = some r := by first | (rw [hy715]; with_reducible exact H) | (have H2_ := (Option.bind_some _ _).symm.trans H; rw [hy715]; with_reducible exact H2_) | (have H2_ := (Option.bind_some _ _).symm.trans H; with_reducible exact H2_) | with_reducible exact H | (rw [hy715]; exact H) | exact H
 have Ny715 := G.a hy715
 clear hy715
 have H' := G.a H
 clear H
 go_enter Tryz.func67, Tryz.ntmps67
 go_wp2_with (first | ((with_reducible refine gate_dst (N := 9) rfl ?_); refine Kd.N_lit (Kd.slice 3 (Kd.int .i64)) _ 24 ?hg (N' := 9) ?hd (xs := ([] : List (List Int))) (inner := []) (ok := (fun k_ => (P0_ k_ ∨ w.heap.size ≤ k_))) (okp := (fun k_ => (P0_ k_ ∨ w.heap.size ≤ k_))) ?hr ?hp (fun _ hk => hk) ((show ∀ k_, w.heap.size ≤ k_ → (fun k_ => (P0_ k_ ∨ w.heap.size ≤ k_)) k_ from fun k_ hk => (.inr (Nat.le_trans (below_size G.bel) hk))) _ (Nat.le_refl _)) (Below.refl _ _) (Nat.le_refl _) (by simp) ?_; (case hd => rfl); (case hg => rfl); (case hr => first | (go_simp; done) | (go_simp; rfl)); (case hp => exact (Reps.none _ _)); intro v716 w3 ho4 hb hg_ hnew_; clear hg_ hnew_; (first | rw [← Ny715.out] at ho4 | (simp only [Int.reduceToNat] at ho4; rw [← Ny715.out] at ho4)); have n0_ := G.a (Kd.V_elder' (G.kV HO0.out) (Kd.N_base ho4) hb); have n1_ := G.a (Kd.N_lower ho4 (below_size G.bel)); have n2_ := G.a (below_step G.bel hb); clear HO0; clear HB; have HO0 := n0_; have HO717 := n1_; have HB := n2_; clear n0_ n1_ n2_; clear hb ho4))
 go_loopg [5, 6, 7] k (fun kq v5 v6 v7 w' => ∃ (x5_1 : List (List Int)) (x6_1 : Bool) (x7_1 : Int), v6 = .bool x6_1 ∧ v7 = .int .i64 x7_1 ∧ Aside0 (spec_l8Put.l0 kq l0 l1 x5_1 x6_1 x7_1 = some r) ∧ Aside0 (kq ≤ k) ∧ Aside0 (Kd.V (Kd.slice 3 (Kd.int .i64)) 24 w' w.heap.size (fun k_ => (P0_ k_ ∨ w.heap.size ≤ k_) ∧ some k_ ≠ (v5 : Value).ownBlock) (.slice A0 l0.length c0) l0) ∧ Aside0 (Kd.N (Kd.slice 3 (Kd.int .i64)) 24 w' w.heap.size (fun k_ => (P0_ k_ ∨ w.heap.size ≤ k_)) v5 x5_1) ∧ Aside0 (Below w.heap.size w w'))
 case atStart => exact ⟨(y715), (false), (0), G.tr, G.tr, H', ⟨Nat.le_refl _⟩, ⟨G.kV HO0.out⟩, ⟨G.kN HO717.out⟩, ⟨G.bel⟩⟩
 case round =>
  clear H'
  try clear c1; try clear p2
  obtain ⟨x5_1, x6_1, x7_1, rfl, rfl, HA, HK1, HO_0, HO_5, HB⟩ := hrel
  cases gk with
  | zero => exact absurd HA.out (by simp [spec_l8Put.l0])
  | succ k1 =>
   have H := HA.out
   clear HA
   simp only [spec_l8Put.l0] at H
   by_cases c5 : x7_1 < (l0.length : Int)
   ·rw [if_pos c5] at H
    have c5b0 : decide (x7_1 < (l0.length : Int)) = true := decide_eq_true c5
    clear c5
    by_cases c6 : 0 ≤ x7_1
    ·rw [if_pos c6] at H
     have c6b0 : decide (0 ≤ x7_1) = true := decide_eq_true c6
     clear c6
     obtain ⟨t728, A7, H⟩ := G.bx H
     by_cases c8 : t728 = 0
     ·rw [if_pos c8] at H
      have c8b0 : (t728 == 0) = true := beq_iff_eq.mpr c8
      have c8b1 : (t728 != 0) = false := bne_eq_false_iff_eq.mpr c8
      clear c8
      by_cases c9 : t728 < 0
      ·rw [if_pos c9] at H
       have c9b0 : decide (t728 < 0) = true := decide_eq_true c9
       clear c9
       by_cases c10 : x5_1.length < 5864062014805
       ·rw [if_pos c10] at H
        have LMc10 := G.a c10
        clear c10
        obtain ⟨y730, hy730⟩ : ∃ y_ : List (List Int), y_ = (x5_1 ++ [rd_L2 l0 x7_1]) := ⟨_, rfl⟩
        replace H : (spec_l8Put.l0 k1 l0 l1 y730 true (wrap64 (x7_1 + 1))) = some r := by first | (rw [hy730]; with_reducible exact H) | (have H2_ := (Option.bind_some _ _).symm.trans H; rw [hy730]; with_reducible exact H2_) | (have H2_ := (Option.bind_some _ _).symm.trans H; with_reducible exact H2_) | with_reducible exact H | (rw [hy730]; exact H) | exact H
        have Ny730 := G.a hy730
        clear hy730
        have H' := G.a H
        clear H
        have p727 : 0 ≤ (x7_1 : Int) := G.odt
        have q727 : x7_1 < (l0.length : Int) := G.odt
        obtain ⟨ad727, A727_0, c727_0, e727, hx727_0, hl727_0, hi727_0⟩ := at_L2 (Kd.V_reads' HO_0.out).2.2 x7_1 p727 q727
        cases e727
        obtain ⟨ce727, hce727, hMe727, hcc727⟩ := Kd.V_get HO_0.out [] x7_1 p727 (by first | exact q727 | exact G.odt | (have e_ := (Kd.V_reads' HO_0.out).1; omega))
        obtain ⟨ua727_0, uc727_0, rfl, ul727_0, ge727_0⟩ := Kd.FK_slice_open hMe727
        have hv727_0 := hcc727 0 _ rfl
        rw [Nat.add_zero, show ((Kd.slice 3 (Kd.int .i64))).sz = 1 from rfl, Nat.mul_one] at hv727_0
        replace hv727_0 := Option.some.inj (hv727_0.symm.trans hx727_0)
        injection hv727_0 with hva_ hvn_ hvc_
        rw [hva_] at ge727_0
        rw [hvc_] at ul727_0
        have HL727_0 := G.a (show Kd.V (Kd.int .i64) 3 _ w.heap.size _ _ (rd_L2 l0 x7_1) from Kd.V_mk ul727_0 ge727_0)
        clear hva_ hvn_ hvc_ ge727_0 ul727_0
        clear hcc727 hce727
        have HR727_0 := G.a hi727_0
        have HC727_0 := G.a hl727_0
        clear hi727_0 hl727_0
        replace p727 := eq_true p727
        replace q727 := eq_true q727
        go_wp2_with (first | ((with_reducible refine gate_callee (f := 33) rfl ?_); refine goesL_ (some 21) rfl rfl Tryz.func33 (by kernel_rfl) rfl #[.slice A1 l1.length c1, .slice A727_0 (rd_L2 l0 x7_1).length c727_0] rfl G.ar ?_; (with_reducible refine (spec_CompareWords.calls k1 _ _ l1 _ _ (rd_L2 l0 x7_1) t728 _ ?side1 ?side2 ?side3 ?side4 A7.out).mono ?_); (case side1 => exact G.kC (Kd.C_below HR1.out HB.out)); (case side2 => exact HC1.out); (case side3 => repeat (first | exact (by repeat (first | (with_reducible exact HR727_0.out) | (with_reducible refine Kd.C_alloc ?_ _) | (with_reducible refine Kd.C_drewN ?_ _) | (with_reducible refine Kd.C_drew ?_) | exact HR727_0.out)) | (with_reducible refine Kd.C_alloc ?_ _) | (with_reducible refine Kd.C_drewN ?_ _) | (with_reducible refine Kd.C_drew ?_))); (case side4 => exact HC727_0.out); rintro e w' ⟨rfl, ⟨nd, rfl⟩⟩; refine ⟨_, rfl, ?_⟩; have p729 : 0 ≤ (x7_1 : Int) := G.odt; have q729 : x7_1 < (l0.length : Int) := G.odt; obtain ⟨ad729, A729_0, c729_0, e729, hx729_0, hl729_0, hi729_0⟩ := at_L2 (Kd.V_reads' HO_0.out).2.2 x7_1 p729 q729; obtain rfl : ad727 = ad729 := (by injection e729); obtain ⟨ce729, hce729, hMe729, hcc729⟩ := Kd.V_get HO_0.out [] x7_1 p729 (by first | exact q729 | exact G.odt | (have e_ := (Kd.V_reads' HO_0.out).1; omega)); obtain ⟨ua729_0, uc729_0, rfl, ul729_0, ge729_0⟩ := Kd.FK_slice_open hMe729; have hv729_0 := hcc729 0 _ rfl; rw [Nat.add_zero, show ((Kd.slice 3 (Kd.int .i64))).sz = 1 from rfl, Nat.mul_one] at hv729_0; replace hv729_0 := Option.some.inj (hv729_0.symm.trans hx729_0); injection hv729_0 with hva_ hvn_ hvc_; rw [hva_] at ge729_0; rw [hvc_] at ul729_0; have HL729_0 := G.a (show Kd.V (Kd.int .i64) 3 _ w.heap.size _ _ (rd_L2 l0 x7_1) from Kd.V_mk ul729_0 ge729_0); clear hva_ hvn_ hvc_ ge729_0 ul729_0; clear hcc729 hce729; have HR729_0 := G.a hi729_0; have HC729_0 := G.a hl729_0; clear hi729_0 hl729_0; replace p729 := eq_true p729; replace q729 := eq_true q729; have ea_ := Option.some.inj (hx727_0.symm.trans hx729_0); injection ea_ with ea_ en_ ec_; subst ea_; subst ec_; clear en_) | ((with_reducible refine gate_builtin (b := .append) (xs := #[.tmp 36, .tmp 41]) rfl ?_); at_builtin; refine Kd.N_append (Kd.slice 3 (Kd.int .i64)) (w0 := w) w.heap.size rfl (.tmp 36) (.tmp 41) 63 24 (.slice none 0 0) 24 rfl Tryz.underlying63 info24 rfl (by decide) (by omega) u5 x5_1 (rd_L2 l0 x7_1) [.slice A727_0 (rd_L2 l0 x7_1).length c727_0] (fun k_ => (P0_ k_ ∨ w.heap.size ≤ k_)) (fun k_ => ((fun k_ => (P0_ k_ ∨ w.heap.size ≤ k_))) k_ ∧ some k_ ≠ (u5 : Value).ownBlock) rfl rfl ?aP (fun _ hk => hk) ?aF ?aO ?aB ?aS ?aL ?_; (case aP => have HLm_ := Kd.V_mono (ok' := (fun k_ => ((fun k_ => (P0_ k_ ∨ w.heap.size ≤ k_))) k_ ∧ some k_ ≠ (u5 : Value).ownBlock)) (HL729_0.out) (fun k_ hk => ⟨hk.1, hk.2⟩); exact (Kd.FK_slice_mk (Kd.V_reads' HLm_).2.1 (Kd.V_F (by (with_reducible repeat (first | apply Kd.V_alloc | apply Kd.V_drewN | apply Kd.V_drew)); exact HLm_)))); (case aB => exact G.bel); (case aF => exact (fun k_ hk => (.inr (Nat.le_trans (below_size G.bel) hk)))); (case aO => exact (G.kN HO_5.out)); (case aS => exact (below_size G.bel)); (case aL => have := LMc10.out; omega); intro v731 w11 ho hb hg hat; rw [← Ny730.out] at ho; have n0_ := G.a (Kd.V_afterv (ok := (fun k_ => (P0_ k_ ∨ w.heap.size ≤ k_))) (G.kV HO_0.out) hg hat); have n1_ := G.a (Kd.V_afterv (ok := (fun k_ => (P0_ k_ ∨ w.heap.size ≤ k_))) (G.kV HL727_0.out) hg hat); have n2_ := G.a (Kd.V_afterv (ok := (fun k_ => (P0_ k_ ∨ w.heap.size ≤ k_))) (G.kV HL729_0.out) hg hat); have n3_ := G.a (hb); have n4_ := G.a (ho); clear HO_0; clear HL727_0; clear HL729_0; clear HB; clear HO_5; have HO_0 := n0_; have HL727_0 := n1_; have HL729_0 := n2_; have HB := n3_; have HO732 := n4_; clear n0_ n1_ n2_ n3_ n4_; clear ho hb hg hat))
        go_roundg k1
        case measure => have := HK1.out; omega
        case rel => exact ⟨(y730), (true), (wrap64 (x7_1 + 1)), G.tr, G.tr, H', ⟨by have := HK1.out; omega⟩, ⟨G.kV HO_0.out⟩, ⟨G.kN HO732.out⟩, ⟨G.bel⟩⟩
       ·rw [if_neg c10] at H
        exact absurd H (by simp)
      ·rw [if_neg c9] at H
       have c9b0 : decide (t728 < 0) = false := decide_eq_false c9
       clear c9
       by_cases c12 : x5_1.length < 5864062014805
       ·rw [if_pos c12] at H
        have LMc12 := G.a c12
        clear c12
        obtain ⟨y734, hy734⟩ : ∃ y_ : List (List Int), y_ = (x5_1 ++ [rd_L2 l0 x7_1]) := ⟨_, rfl⟩
        replace H : (spec_l8Put.l0 k1 l0 l1 y734 true (wrap64 (x7_1 + 1))) = some r := by first | (rw [hy734]; with_reducible exact H) | (have H2_ := (Option.bind_some _ _).symm.trans H; rw [hy734]; with_reducible exact H2_) | (have H2_ := (Option.bind_some _ _).symm.trans H; with_reducible exact H2_) | with_reducible exact H | (rw [hy734]; exact H) | exact H
        have Ny734 := G.a hy734
        clear hy734
        have H' := G.a H
        clear H
        have p727 : 0 ≤ (x7_1 : Int) := G.odt
        have q727 : x7_1 < (l0.length : Int) := G.odt
        obtain ⟨ad727, A727_0, c727_0, e727, hx727_0, hl727_0, hi727_0⟩ := at_L2 (Kd.V_reads' HO_0.out).2.2 x7_1 p727 q727
        cases e727
        obtain ⟨ce727, hce727, hMe727, hcc727⟩ := Kd.V_get HO_0.out [] x7_1 p727 (by first | exact q727 | exact G.odt | (have e_ := (Kd.V_reads' HO_0.out).1; omega))
        obtain ⟨ua727_0, uc727_0, rfl, ul727_0, ge727_0⟩ := Kd.FK_slice_open hMe727
        have hv727_0 := hcc727 0 _ rfl
        rw [Nat.add_zero, show ((Kd.slice 3 (Kd.int .i64))).sz = 1 from rfl, Nat.mul_one] at hv727_0
        replace hv727_0 := Option.some.inj (hv727_0.symm.trans hx727_0)
        injection hv727_0 with hva_ hvn_ hvc_
        rw [hva_] at ge727_0
        rw [hvc_] at ul727_0
        have HL727_0 := G.a (show Kd.V (Kd.int .i64) 3 _ w.heap.size _ _ (rd_L2 l0 x7_1) from Kd.V_mk ul727_0 ge727_0)
        clear hva_ hvn_ hvc_ ge727_0 ul727_0
        clear hcc727 hce727
        have HR727_0 := G.a hi727_0
        have HC727_0 := G.a hl727_0
        clear hi727_0 hl727_0
        replace p727 := eq_true p727
        replace q727 := eq_true q727
        go_wp2_with (first | ((with_reducible refine gate_callee (f := 33) rfl ?_); refine goesL_ (some 21) rfl rfl Tryz.func33 (by kernel_rfl) rfl #[.slice A1 l1.length c1, .slice A727_0 (rd_L2 l0 x7_1).length c727_0] rfl G.ar ?_; (with_reducible refine (spec_CompareWords.calls k1 _ _ l1 _ _ (rd_L2 l0 x7_1) t728 _ ?side1 ?side2 ?side3 ?side4 A7.out).mono ?_); (case side1 => exact G.kC (Kd.C_below HR1.out HB.out)); (case side2 => exact HC1.out); (case side3 => repeat (first | exact (by repeat (first | (with_reducible exact HR727_0.out) | (with_reducible refine Kd.C_alloc ?_ _) | (with_reducible refine Kd.C_drewN ?_ _) | (with_reducible refine Kd.C_drew ?_) | exact HR727_0.out)) | (with_reducible refine Kd.C_alloc ?_ _) | (with_reducible refine Kd.C_drewN ?_ _) | (with_reducible refine Kd.C_drew ?_))); (case side4 => exact HC727_0.out); rintro e w' ⟨rfl, ⟨nd, rfl⟩⟩; refine ⟨_, rfl, ?_⟩; have p733 : 0 ≤ (x7_1 : Int) := G.odt; have q733 : x7_1 < (l0.length : Int) := G.odt; obtain ⟨ad733, A733_0, c733_0, e733, hx733_0, hl733_0, hi733_0⟩ := at_L2 (Kd.V_reads' HO_0.out).2.2 x7_1 p733 q733; obtain rfl : ad727 = ad733 := (by injection e733); obtain ⟨ce733, hce733, hMe733, hcc733⟩ := Kd.V_get HO_0.out [] x7_1 p733 (by first | exact q733 | exact G.odt | (have e_ := (Kd.V_reads' HO_0.out).1; omega)); obtain ⟨ua733_0, uc733_0, rfl, ul733_0, ge733_0⟩ := Kd.FK_slice_open hMe733; have hv733_0 := hcc733 0 _ rfl; rw [Nat.add_zero, show ((Kd.slice 3 (Kd.int .i64))).sz = 1 from rfl, Nat.mul_one] at hv733_0; replace hv733_0 := Option.some.inj (hv733_0.symm.trans hx733_0); injection hv733_0 with hva_ hvn_ hvc_; rw [hva_] at ge733_0; rw [hvc_] at ul733_0; have HL733_0 := G.a (show Kd.V (Kd.int .i64) 3 _ w.heap.size _ _ (rd_L2 l0 x7_1) from Kd.V_mk ul733_0 ge733_0); clear hva_ hvn_ hvc_ ge733_0 ul733_0; clear hcc733 hce733; have HR733_0 := G.a hi733_0; have HC733_0 := G.a hl733_0; clear hi733_0 hl733_0; replace p733 := eq_true p733; replace q733 := eq_true q733; have ea_ := Option.some.inj (hx727_0.symm.trans hx733_0); injection ea_ with ea_ en_ ec_; subst ea_; subst ec_; clear en_) | ((with_reducible refine gate_builtin (b := .append) (xs := #[.tmp 36, .tmp 41]) rfl ?_); at_builtin; refine Kd.N_append (Kd.slice 3 (Kd.int .i64)) (w0 := w) w.heap.size rfl (.tmp 36) (.tmp 41) 63 24 (.slice none 0 0) 24 rfl Tryz.underlying63 info24 rfl (by decide) (by omega) u5 x5_1 (rd_L2 l0 x7_1) [.slice A727_0 (rd_L2 l0 x7_1).length c727_0] (fun k_ => (P0_ k_ ∨ w.heap.size ≤ k_)) (fun k_ => ((fun k_ => (P0_ k_ ∨ w.heap.size ≤ k_))) k_ ∧ some k_ ≠ (u5 : Value).ownBlock) rfl rfl ?aP (fun _ hk => hk) ?aF ?aO ?aB ?aS ?aL ?_; (case aP => have HLm_ := Kd.V_mono (ok' := (fun k_ => ((fun k_ => (P0_ k_ ∨ w.heap.size ≤ k_))) k_ ∧ some k_ ≠ (u5 : Value).ownBlock)) (HL733_0.out) (fun k_ hk => ⟨hk.1, hk.2⟩); exact (Kd.FK_slice_mk (Kd.V_reads' HLm_).2.1 (Kd.V_F (by (with_reducible repeat (first | apply Kd.V_alloc | apply Kd.V_drewN | apply Kd.V_drew)); exact HLm_)))); (case aB => exact G.bel); (case aF => exact (fun k_ hk => (.inr (Nat.le_trans (below_size G.bel) hk)))); (case aO => exact (G.kN HO_5.out)); (case aS => exact (below_size G.bel)); (case aL => have := LMc12.out; omega); intro v735 w13 ho hb hg hat; rw [← Ny734.out] at ho; have n0_ := G.a (Kd.V_afterv (ok := (fun k_ => (P0_ k_ ∨ w.heap.size ≤ k_))) (G.kV HO_0.out) hg hat); have n1_ := G.a (Kd.V_afterv (ok := (fun k_ => (P0_ k_ ∨ w.heap.size ≤ k_))) (G.kV HL727_0.out) hg hat); have n2_ := G.a (Kd.V_afterv (ok := (fun k_ => (P0_ k_ ∨ w.heap.size ≤ k_))) (G.kV HL733_0.out) hg hat); have n3_ := G.a (hb); have n4_ := G.a (ho); clear HO_0; clear HL727_0; clear HL733_0; clear HB; clear HO_5; have HO_0 := n0_; have HL727_0 := n1_; have HL733_0 := n2_; have HB := n3_; have HO736 := n4_; clear n0_ n1_ n2_ n3_ n4_; clear ho hb hg hat))
        go_roundg k1
        case measure => have := HK1.out; omega
        case rel => exact ⟨(y734), (true), (wrap64 (x7_1 + 1)), G.tr, G.tr, H', ⟨by have := HK1.out; omega⟩, ⟨G.kV HO_0.out⟩, ⟨G.kN HO736.out⟩, ⟨G.bel⟩⟩
       ·rw [if_neg c12] at H
        exact absurd H (by simp)
     ·rw [if_neg c8] at H
      have c8b0 : (t728 == 0) = false := beq_eq_false_iff_ne.mpr c8
      have c8b1 : (t728 != 0) = true := bne_iff_ne.mpr c8
      by_cases c14 : t728 < 0
      ·rw [if_pos c14] at H
       have c14b0 : decide (t728 < 0) = true := decide_eq_true c14
       clear c14
       by_cases c15 : x6_1 = true
       ·subst c15
        rw [if_pos rfl] at H
        by_cases c16 : x5_1.length < 5864062014805
        ·rw [if_pos c16] at H
         have LMc16 := G.a c16
         clear c16
         obtain ⟨y738, hy738⟩ : ∃ y_ : List (List Int), y_ = (x5_1 ++ [rd_L2 l0 x7_1]) := ⟨_, rfl⟩
         replace H : (spec_l8Put.l0 k1 l0 l1 y738 true (wrap64 (x7_1 + 1))) = some r := by first | (rw [hy738]; with_reducible exact H) | (have H2_ := (Option.bind_some _ _).symm.trans H; rw [hy738]; with_reducible exact H2_) | (have H2_ := (Option.bind_some _ _).symm.trans H; with_reducible exact H2_) | with_reducible exact H | (rw [hy738]; exact H) | exact H
         have Ny738 := G.a hy738
         clear hy738
         have H' := G.a H
         clear H
         have p727 : 0 ≤ (x7_1 : Int) := G.odt
         have q727 : x7_1 < (l0.length : Int) := G.odt
         obtain ⟨ad727, A727_0, c727_0, e727, hx727_0, hl727_0, hi727_0⟩ := at_L2 (Kd.V_reads' HO_0.out).2.2 x7_1 p727 q727
         cases e727
         obtain ⟨ce727, hce727, hMe727, hcc727⟩ := Kd.V_get HO_0.out [] x7_1 p727 (by first | exact q727 | exact G.odt | (have e_ := (Kd.V_reads' HO_0.out).1; omega))
         obtain ⟨ua727_0, uc727_0, rfl, ul727_0, ge727_0⟩ := Kd.FK_slice_open hMe727
         have hv727_0 := hcc727 0 _ rfl
         rw [Nat.add_zero, show ((Kd.slice 3 (Kd.int .i64))).sz = 1 from rfl, Nat.mul_one] at hv727_0
         replace hv727_0 := Option.some.inj (hv727_0.symm.trans hx727_0)
         injection hv727_0 with hva_ hvn_ hvc_
         rw [hva_] at ge727_0
         rw [hvc_] at ul727_0
         have HL727_0 := G.a (show Kd.V (Kd.int .i64) 3 _ w.heap.size _ _ (rd_L2 l0 x7_1) from Kd.V_mk ul727_0 ge727_0)
         clear hva_ hvn_ hvc_ ge727_0 ul727_0
         clear hcc727 hce727
         have HR727_0 := G.a hi727_0
         have HC727_0 := G.a hl727_0
         clear hi727_0 hl727_0
         replace p727 := eq_true p727
         replace q727 := eq_true q727
         go_wp2_with (first | ((with_reducible refine gate_callee (f := 33) rfl ?_); refine goesL_ (some 21) rfl rfl Tryz.func33 (by kernel_rfl) rfl #[.slice A1 l1.length c1, .slice A727_0 (rd_L2 l0 x7_1).length c727_0] rfl G.ar ?_; (with_reducible refine (spec_CompareWords.calls k1 _ _ l1 _ _ (rd_L2 l0 x7_1) t728 _ ?side1 ?side2 ?side3 ?side4 A7.out).mono ?_); (case side1 => exact G.kC (Kd.C_below HR1.out HB.out)); (case side2 => exact HC1.out); (case side3 => repeat (first | exact (by repeat (first | (with_reducible exact HR727_0.out) | (with_reducible refine Kd.C_alloc ?_ _) | (with_reducible refine Kd.C_drewN ?_ _) | (with_reducible refine Kd.C_drew ?_) | exact HR727_0.out)) | (with_reducible refine Kd.C_alloc ?_ _) | (with_reducible refine Kd.C_drewN ?_ _) | (with_reducible refine Kd.C_drew ?_))); (case side4 => exact HC727_0.out); rintro e w' ⟨rfl, ⟨nd, rfl⟩⟩; refine ⟨_, rfl, ?_⟩; have p737 : 0 ≤ (x7_1 : Int) := G.odt; have q737 : x7_1 < (l0.length : Int) := G.odt; obtain ⟨ad737, A737_0, c737_0, e737, hx737_0, hl737_0, hi737_0⟩ := at_L2 (Kd.V_reads' HO_0.out).2.2 x7_1 p737 q737; obtain rfl : ad727 = ad737 := (by injection e737); obtain ⟨ce737, hce737, hMe737, hcc737⟩ := Kd.V_get HO_0.out [] x7_1 p737 (by first | exact q737 | exact G.odt | (have e_ := (Kd.V_reads' HO_0.out).1; omega)); obtain ⟨ua737_0, uc737_0, rfl, ul737_0, ge737_0⟩ := Kd.FK_slice_open hMe737; have hv737_0 := hcc737 0 _ rfl; rw [Nat.add_zero, show ((Kd.slice 3 (Kd.int .i64))).sz = 1 from rfl, Nat.mul_one] at hv737_0; replace hv737_0 := Option.some.inj (hv737_0.symm.trans hx737_0); injection hv737_0 with hva_ hvn_ hvc_; rw [hva_] at ge737_0; rw [hvc_] at ul737_0; have HL737_0 := G.a (show Kd.V (Kd.int .i64) 3 _ w.heap.size _ _ (rd_L2 l0 x7_1) from Kd.V_mk ul737_0 ge737_0); clear hva_ hvn_ hvc_ ge737_0 ul737_0; clear hcc737 hce737; have HR737_0 := G.a hi737_0; have HC737_0 := G.a hl737_0; clear hi737_0 hl737_0; replace p737 := eq_true p737; replace q737 := eq_true q737; have ea_ := Option.some.inj (hx727_0.symm.trans hx737_0); injection ea_ with ea_ en_ ec_; subst ea_; subst ec_; clear en_) | ((with_reducible refine gate_builtin (b := .append) (xs := #[.tmp 36, .tmp 41]) rfl ?_); at_builtin; refine Kd.N_append (Kd.slice 3 (Kd.int .i64)) (w0 := w) w.heap.size rfl (.tmp 36) (.tmp 41) 63 24 (.slice none 0 0) 24 rfl Tryz.underlying63 info24 rfl (by decide) (by omega) u5 x5_1 (rd_L2 l0 x7_1) [.slice A727_0 (rd_L2 l0 x7_1).length c727_0] (fun k_ => (P0_ k_ ∨ w.heap.size ≤ k_)) (fun k_ => ((fun k_ => (P0_ k_ ∨ w.heap.size ≤ k_))) k_ ∧ some k_ ≠ (u5 : Value).ownBlock) rfl rfl ?aP (fun _ hk => hk) ?aF ?aO ?aB ?aS ?aL ?_; (case aP => have HLm_ := Kd.V_mono (ok' := (fun k_ => ((fun k_ => (P0_ k_ ∨ w.heap.size ≤ k_))) k_ ∧ some k_ ≠ (u5 : Value).ownBlock)) (HL737_0.out) (fun k_ hk => ⟨hk.1, hk.2⟩); exact (Kd.FK_slice_mk (Kd.V_reads' HLm_).2.1 (Kd.V_F (by (with_reducible repeat (first | apply Kd.V_alloc | apply Kd.V_drewN | apply Kd.V_drew)); exact HLm_)))); (case aB => exact G.bel); (case aF => exact (fun k_ hk => (.inr (Nat.le_trans (below_size G.bel) hk)))); (case aO => exact (G.kN HO_5.out)); (case aS => exact (below_size G.bel)); (case aL => have := LMc16.out; omega); intro v739 w17 ho hb hg hat; rw [← Ny738.out] at ho; have n0_ := G.a (Kd.V_afterv (ok := (fun k_ => (P0_ k_ ∨ w.heap.size ≤ k_))) (G.kV HO_0.out) hg hat); have n1_ := G.a (Kd.V_afterv (ok := (fun k_ => (P0_ k_ ∨ w.heap.size ≤ k_))) (G.kV HL727_0.out) hg hat); have n2_ := G.a (Kd.V_afterv (ok := (fun k_ => (P0_ k_ ∨ w.heap.size ≤ k_))) (G.kV HL737_0.out) hg hat); have n3_ := G.a (hb); have n4_ := G.a (ho); clear HO_0; clear HL727_0; clear HL737_0; clear HB; clear HO_5; have HO_0 := n0_; have HL727_0 := n1_; have HL737_0 := n2_; have HB := n3_; have HO740 := n4_; clear n0_ n1_ n2_ n3_ n4_; clear ho hb hg hat))
         go_roundg k1
         case measure => have := HK1.out; omega
         case rel => exact ⟨(y738), (true), (wrap64 (x7_1 + 1)), G.tr, G.tr, H', ⟨by have := HK1.out; omega⟩, ⟨G.kV HO_0.out⟩, ⟨G.kN HO740.out⟩, ⟨G.bel⟩⟩
        ·rw [if_neg c16] at H
         exact absurd H (by simp)
       ·replace c15 := Bool.eq_false_iff.mpr c15
        subst c15
        rw [if_neg (show ¬ (false = true) by decide)] at H
        obtain ⟨y741, hy741⟩ : ∃ y_ : List Int, y_ = (([] : List Int)) := ⟨_, rfl⟩
        replace H : (if y741.length + l1.length < 17592186044416 then (if x5_1.length < 5864062014805 then ((some (x5_1 ++ [(y741 ++ l1)] : List (List Int))).bind fun y747 => (if y747.length < 5864062014805 then (spec_l8Put.l0 k1 l0 l1 (y747 ++ [rd_L2 l0 x7_1]) true (wrap64 (x7_1 + 1))) else (none))) else (none)) else (none)) = some r := by first | (rw [hy741]; with_reducible exact H) | (have H2_ := (Option.bind_some _ _).symm.trans H; rw [hy741]; with_reducible exact H2_) | (have H2_ := (Option.bind_some _ _).symm.trans H; with_reducible exact H2_) | with_reducible exact H | (rw [hy741]; exact H) | exact H
        have Ny741 := G.a hy741
        clear hy741
        by_cases c18 : y741.length + l1.length < 17592186044416
        ·rw [if_pos c18] at H
         have LMc18 := G.a c18
         clear c18
         obtain ⟨y744, hy744⟩ : ∃ y_ : List Int, y_ = (y741 ++ l1) := ⟨_, rfl⟩
         replace H : (if x5_1.length < 5864062014805 then ((some (x5_1 ++ [y744] : List (List Int))).bind fun y747 => (if y747.length < 5864062014805 then (spec_l8Put.l0 k1 l0 l1 (y747 ++ [rd_L2 l0 x7_1]) true (wrap64 (x7_1 + 1))) else (none))) else (none)) = some r := by first | (rw [hy744]; with_reducible exact H) | (have H2_ := (Option.bind_some _ _).symm.trans H; rw [hy744]; with_reducible exact H2_) | (have H2_ := (Option.bind_some _ _).symm.trans H; with_reducible exact H2_) | with_reducible exact H | (rw [hy744]; exact H) | exact H
         have Ny744 := G.a hy744
         clear hy744
         by_cases c19 : x5_1.length < 5864062014805
         ·rw [if_pos c19] at H
          have LMc19 := G.a c19
          clear c19
          obtain ⟨y747, hy747⟩ : ∃ y_ : List (List Int), y_ = (x5_1 ++ [y744]) := ⟨_, rfl⟩
          replace H : (if y747.length < 5864062014805 then (spec_l8Put.l0 k1 l0 l1 (y747 ++ [rd_L2 l0 x7_1]) true (wrap64 (x7_1 + 1))) else (none)) = some r := by first | (rw [hy747]; with_reducible exact H) | (have H2_ := (Option.bind_some _ _).symm.trans H; rw [hy747]; with_reducible exact H2_) | (have H2_ := (Option.bind_some _ _).symm.trans H; with_reducible exact H2_) | with_reducible exact H | (rw [hy747]; exact H) | exact H
          have Ny747 := G.a hy747
          clear hy747
          by_cases c20 : y747.length < 5864062014805
          ·rw [if_pos c20] at H
           have LMc20 := G.a c20
           clear c20
           obtain ⟨y751, hy751⟩ : ∃ y_ : List (List Int), y_ = (y747 ++ [rd_L2 l0 x7_1]) := ⟨_, rfl⟩
           replace H : (spec_l8Put.l0 k1 l0 l1 y751 true (wrap64 (x7_1 + 1))) = some r := by first | (rw [hy751]; with_reducible exact H) | (have H2_ := (Option.bind_some _ _).symm.trans H; rw [hy751]; with_reducible exact H2_) | (have H2_ := (Option.bind_some _ _).symm.trans H; with_reducible exact H2_) | with_reducible exact H | (rw [hy751]; exact H) | exact H
           have Ny751 := G.a hy751
           clear hy751
           have H' := G.a H
           clear H
           have p727 : 0 ≤ (x7_1 : Int) := G.odt
           have q727 : x7_1 < (l0.length : Int) := G.odt
           obtain ⟨ad727, A727_0, c727_0, e727, hx727_0, hl727_0, hi727_0⟩ := at_L2 (Kd.V_reads' HO_0.out).2.2 x7_1 p727 q727
           cases e727
           obtain ⟨ce727, hce727, hMe727, hcc727⟩ := Kd.V_get HO_0.out [] x7_1 p727 (by first | exact q727 | exact G.odt | (have e_ := (Kd.V_reads' HO_0.out).1; omega))
           obtain ⟨ua727_0, uc727_0, rfl, ul727_0, ge727_0⟩ := Kd.FK_slice_open hMe727
           have hv727_0 := hcc727 0 _ rfl
           rw [Nat.add_zero, show ((Kd.slice 3 (Kd.int .i64))).sz = 1 from rfl, Nat.mul_one] at hv727_0
           replace hv727_0 := Option.some.inj (hv727_0.symm.trans hx727_0)
           injection hv727_0 with hva_ hvn_ hvc_
           rw [hva_] at ge727_0
           rw [hvc_] at ul727_0
           have HL727_0 := G.a (show Kd.V (Kd.int .i64) 3 _ w.heap.size _ _ (rd_L2 l0 x7_1) from Kd.V_mk ul727_0 ge727_0)
           clear hva_ hvn_ hvc_ ge727_0 ul727_0
           clear hcc727 hce727
           have HR727_0 := G.a hi727_0
           have HC727_0 := G.a hl727_0
           clear hi727_0 hl727_0
           replace p727 := eq_true p727
           replace q727 := eq_true q727
           go_wp2_with (first | ((with_reducible refine gate_callee (f := 33) rfl ?_); refine goesL_ (some 21) rfl rfl Tryz.func33 (by kernel_rfl) rfl #[.slice A1 l1.length c1, .slice A727_0 (rd_L2 l0 x7_1).length c727_0] rfl G.ar ?_; (with_reducible refine (spec_CompareWords.calls k1 _ _ l1 _ _ (rd_L2 l0 x7_1) t728 _ ?side1 ?side2 ?side3 ?side4 A7.out).mono ?_); (case side1 => exact G.kC (Kd.C_below HR1.out HB.out)); (case side2 => exact HC1.out); (case side3 => repeat (first | exact (by repeat (first | (with_reducible exact HR727_0.out) | (with_reducible refine Kd.C_alloc ?_ _) | (with_reducible refine Kd.C_drewN ?_ _) | (with_reducible refine Kd.C_drew ?_) | exact HR727_0.out)) | (with_reducible refine Kd.C_alloc ?_ _) | (with_reducible refine Kd.C_drewN ?_ _) | (with_reducible refine Kd.C_drew ?_))); (case side4 => exact HC727_0.out); rintro e w' ⟨rfl, ⟨nd, rfl⟩⟩; refine ⟨_, rfl, ?_⟩) | ((with_reducible refine gate_dst (N := 31) rfl ?_); refine Kd.R_lit (Kd.int .i64) _ 3 ?hg (N := 31) ?hd (xs := ([] : List Int)) (inner := []) (ok := fun _ => True) (okp := fun _ => True) ?hr ?hp (fun _ hk => hk) trivial (Below.refl _ _) (Nat.le_refl _) (by simp) ?_; (case hd => rfl); (case hg => rfl); (case hr => first | (go_simp; done) | (go_simp; rfl)); (case hp => exact (Reps.none _ _)); intro v742 w21 ho22 hb hg_ hnew_; clear hg_ hnew_; (first | rw [← Ny741.out] at ho22 | (simp only [Int.reduceToNat] at ho22; rw [← Ny741.out] at ho22)); have n0_ := G.a (Kd.V_elder' (G.kV HO_0.out) (Kd.R_base ho22) hb); have n1_ := G.a (Kd.N_elder' (G.kN HO_5.out) (Kd.R_base ho22) hb); have n2_ := G.a (Kd.V_elder' (G.kV HL727_0.out) (Kd.R_base ho22) hb); have n3_ := G.a (Kd.R_lower (Kd.R_newM (M := fun k_ => (w.heap.size ≤ k_)) ho22 (below_size G.bel) (fun k_ h_ => h_)) (below_size G.bel)); have n4_ := G.a (Kd.C_below (by repeat (first | (with_reducible exact HR727_0.out) | (with_reducible refine Kd.C_alloc ?_ _) | (with_reducible refine Kd.C_drewN ?_ _) | (with_reducible refine Kd.C_drew ?_) | exact HR727_0.out)) hb); have n5_ := G.a (below_step G.bel hb); clear HO_0; clear HO_5; clear HL727_0; clear HR727_0; clear HB; have HO_0 := n0_; have HO_5 := n1_; have HL727_0 := n2_; have HO743 := n3_; have HR727_0 := n4_; have HB := n5_; clear n0_ n1_ n2_ n3_ n4_ n5_; clear hb ho22) | ((with_reducible refine gate_builtin (b := .append) (xs := #[.tmp 31, .tmp 32]) rfl ?_); at_builtin; refine Kd.R_append_rows (Kd.int .i64) (w0 := w) w.heap.size rfl (.tmp 31) (.tmp 32) 24 3 (.int .i64 0) 8 rfl Tryz.underlying24 info3 rfl (by decide) (by omega) v742 y741 l1 _ _ _ (fun k_ => (w.heap.size ≤ k_)) (fun _ => False) rfl rfl ?aO ?aR (fun _ _ h => h) (fun _ h => h.elim) ?aF ?aB ?aS ?aL ?_; (case aR => exact G.kC (Kd.C_below HR1.out HB.out)); (case aB => exact G.bel); (case aF => exact (fun k_ hk => (Nat.le_trans (below_size G.bel) hk))); (case aO => exact (by (with_reducible repeat (first | apply Kd.R_alloc | apply Kd.R_drewN | apply Kd.R_drew)); exact Kd.R_mono HO743.out (fun _ hk => hk.1))); (case aS => exact (below_size G.bel)); (case aL => have := LMc18.out; omega); intro v745 w23 ho hb hg hat; rw [← Ny744.out] at ho; have n0_ := G.a (Kd.V_afterv (ok := (fun k_ => (P0_ k_ ∨ w.heap.size ≤ k_) ∧ some k_ ≠ (u5 : Value).ownBlock)) (G.kV HO_0.out) hg hat); have n1_ := G.a (Kd.N_afterv (ok := (fun k_ => (P0_ k_ ∨ w.heap.size ≤ k_))) (G.kN HO_5.out) hg hat); have n2_ := G.a (Kd.V_afterv (ok := (fun k_ => (P0_ k_ ∨ w.heap.size ≤ k_) ∧ some k_ ≠ (u5 : Value).ownBlock)) (G.kV HL727_0.out) hg hat); have n3_ := G.a (hb); have n4_ := G.a (ho); clear HO_0; clear HO_5; clear HL727_0; clear HB; clear HO743; have HO_0 := n0_; have HO_5 := n1_; have HL727_0 := n2_; have HB := n3_; have HO746 := n4_; clear n0_ n1_ n2_ n3_ n4_; clear ho hb hg hat; obtain ⟨Ao25, co25, eo25⟩ := Kd.R_slice HO746.out; subst eo25) | ((with_reducible refine gate_builtin (b := .append) (xs := #[.tmp 30, .tmp 34]) rfl ?_); at_builtin; refine Kd.N_append (Kd.slice 3 (Kd.int .i64)) (w0 := w) w.heap.size rfl (.tmp 30) (.tmp 34) 63 24 (.slice none 0 0) 24 rfl Tryz.underlying63 info24 rfl (by decide) (by omega) u5 x5_1 y744 [.slice Ao25 y744.length co25] (fun k_ => (P0_ k_ ∨ w.heap.size ≤ k_)) (fun k_ => ((fun k_ => (P0_ k_ ∨ w.heap.size ≤ k_))) k_ ∧ some k_ ≠ (u5 : Value).ownBlock) rfl rfl ?aP (fun _ hk => hk) ?aF ?aO ?aB ?aS ?aL ?_; (case aP => exact (Kd.FK_slice_mk (Kd.R_reads' (Kd.R_mono (ok' := (fun k_ => ((fun k_ => (P0_ k_ ∨ w.heap.size ≤ k_))) k_ ∧ some k_ ≠ (u5 : Value).ownBlock)) (Kd.R_apart' (HO746.out) (Kd.N_typed HO_5.out) (by decide)) (fun k_ hk => ⟨(.inr (hk.1)), hk.2⟩))).2.1 (Kd.R_F (Kd.R_mono (ok' := (fun k_ => ((fun k_ => (P0_ k_ ∨ w.heap.size ≤ k_))) k_ ∧ some k_ ≠ (u5 : Value).ownBlock)) (Kd.R_apart' (HO746.out) (Kd.N_typed HO_5.out) (by decide)) (fun k_ hk => ⟨(.inr (hk.1)), hk.2⟩))))); (case aB => exact G.bel); (case aF => exact (fun k_ hk => (.inr (Nat.le_trans (below_size G.bel) hk)))); (case aO => exact (by (with_reducible repeat (first | apply Kd.N_alloc | apply Kd.N_drewN | apply Kd.N_drew)); exact Kd.N_mono HO_5.out (fun _ hk => hk.1))); (case aS => exact (below_size G.bel)); (case aL => have := LMc19.out; omega); intro v748 w24 ho hb hg hat; rw [← Ny747.out] at ho; have n0_ := G.a (Kd.V_afterv (ok := (fun k_ => (P0_ k_ ∨ w.heap.size ≤ k_) ∧ some k_ ≠ (.slice Ao25 y744.length co25 : Value).ownBlock)) (by (with_reducible repeat (first | apply Kd.V_alloc | apply Kd.V_drewN | apply Kd.V_drew)); exact Kd.V_mono HO_0.out (fun _ hk => ⟨⟨hk.1.1, hk.2⟩, hk.1.2⟩)) hg hat); have n1_ := G.a (Kd.V_afterv (ok := (fun k_ => (P0_ k_ ∨ w.heap.size ≤ k_) ∧ some k_ ≠ (.slice Ao25 y744.length co25 : Value).ownBlock)) (by (with_reducible repeat (first | apply Kd.V_alloc | apply Kd.V_drewN | apply Kd.V_drew)); exact Kd.V_mono HL727_0.out (fun _ hk => ⟨⟨hk.1.1, hk.2⟩, hk.1.2⟩)) hg hat); have n2_ := G.a (hb); have n3_ := G.a (ho); clear HO_0; clear HL727_0; clear HB; clear HO_5; clear HO746; have HO_0 := n0_; have HL727_0 := n1_; have HB := n2_; have HO749 := n3_; clear n0_ n1_ n2_ n3_; clear ho hb hg hat; have p750 : 0 ≤ (x7_1 : Int) := G.odt; have q750 : x7_1 < (l0.length : Int) := G.odt; obtain ⟨ad750, A750_0, c750_0, e750, hx750_0, hl750_0, hi750_0⟩ := at_L2 (Kd.V_reads' HO_0.out).2.2 x7_1 p750 q750; obtain rfl : ad727 = ad750 := (by injection e750); obtain ⟨ce750, hce750, hMe750, hcc750⟩ := Kd.V_get HO_0.out [] x7_1 p750 (by first | exact q750 | exact G.odt | (have e_ := (Kd.V_reads' HO_0.out).1; omega)); obtain ⟨ua750_0, uc750_0, rfl, ul750_0, ge750_0⟩ := Kd.FK_slice_open hMe750; have hv750_0 := hcc750 0 _ rfl; rw [Nat.add_zero, show ((Kd.slice 3 (Kd.int .i64))).sz = 1 from rfl, Nat.mul_one] at hv750_0; replace hv750_0 := Option.some.inj (hv750_0.symm.trans hx750_0); injection hv750_0 with hva_ hvn_ hvc_; rw [hva_] at ge750_0; rw [hvc_] at ul750_0; have HL750_0 := G.a (show Kd.V (Kd.int .i64) 3 _ w.heap.size _ _ (rd_L2 l0 x7_1) from Kd.V_mk ul750_0 ge750_0); clear hva_ hvn_ hvc_ ge750_0 ul750_0; clear hcc750 hce750; have HR750_0 := G.a hi750_0; have HC750_0 := G.a hl750_0; clear hi750_0 hl750_0; replace p750 := eq_true p750; replace q750 := eq_true q750) | ((with_reducible refine gate_builtin (b := .append) (xs := #[.tmp 36, .tmp 41]) rfl ?_); at_builtin; refine Kd.N_append (Kd.slice 3 (Kd.int .i64)) (w0 := w) w.heap.size rfl (.tmp 36) (.tmp 41) 63 24 (.slice none 0 0) 24 rfl Tryz.underlying63 info24 rfl (by decide) (by omega) v748 y747 (rd_L2 l0 x7_1) [.slice A750_0 (rd_L2 l0 x7_1).length c750_0] (fun k_ => (P0_ k_ ∨ w.heap.size ≤ k_)) (fun k_ => ((fun k_ => (P0_ k_ ∨ w.heap.size ≤ k_))) k_ ∧ some k_ ≠ (v748 : Value).ownBlock) rfl rfl ?aP (fun _ hk => hk) ?aF ?aO ?aB ?aS ?aL ?_; (case aP => have HLm_ := Kd.V_mono (ok' := (fun k_ => ((fun k_ => (P0_ k_ ∨ w.heap.size ≤ k_))) k_ ∧ some k_ ≠ (v748 : Value).ownBlock)) (HL750_0.out) (fun k_ hk => ⟨hk.1.1, hk.2⟩); exact (Kd.FK_slice_mk (Kd.V_reads' HLm_).2.1 (Kd.V_F (by (with_reducible repeat (first | apply Kd.V_alloc | apply Kd.V_drewN | apply Kd.V_drew)); exact HLm_)))); (case aB => exact G.bel); (case aF => exact (fun k_ hk => (.inr (Nat.le_trans (below_size G.bel) hk)))); (case aO => exact (G.kN HO749.out)); (case aS => exact (below_size G.bel)); (case aL => have := LMc20.out; omega); intro v752 w26 ho hb hg hat; rw [← Ny751.out] at ho; have n0_ := G.a (Kd.V_afterv (ok := (fun k_ => (P0_ k_ ∨ w.heap.size ≤ k_))) (by (with_reducible repeat (first | apply Kd.V_alloc | apply Kd.V_drewN | apply Kd.V_drew)); exact Kd.V_mono HO_0.out (fun _ hk => ⟨hk.1.1, hk.2⟩)) hg hat); have n1_ := G.a (Kd.V_afterv (ok := (fun k_ => (P0_ k_ ∨ w.heap.size ≤ k_))) (by (with_reducible repeat (first | apply Kd.V_alloc | apply Kd.V_drewN | apply Kd.V_drew)); exact Kd.V_mono HL727_0.out (fun _ hk => ⟨hk.1.1, hk.2⟩)) hg hat); have n2_ := G.a (Kd.V_afterv (ok := (fun k_ => (P0_ k_ ∨ w.heap.size ≤ k_))) (by (with_reducible repeat (first | apply Kd.V_alloc | apply Kd.V_drewN | apply Kd.V_drew)); exact Kd.V_mono HL750_0.out (fun _ hk => ⟨hk.1.1, hk.2⟩)) hg hat); have n3_ := G.a (hb); have n4_ := G.a (ho); clear HO_0; clear HL727_0; clear HL750_0; clear HB; clear HO749; have HO_0 := n0_; have HL727_0 := n1_; have HL750_0 := n2_; have HB := n3_; have HO753 := n4_; clear n0_ n1_ n2_ n3_ n4_; clear ho hb hg hat))
           go_roundg k1
           case measure => have := HK1.out; omega
           case rel => exact ⟨(y751), (true), (wrap64 (x7_1 + 1)), G.tr, G.tr, H', ⟨by have := HK1.out; omega⟩, ⟨G.kV HO_0.out⟩, ⟨G.kN HO753.out⟩, ⟨G.bel⟩⟩
          ·rw [if_neg c20] at H
           exact absurd H (by simp)
         ·rw [if_neg c19] at H
          exact absurd H (by simp)
        ·rw [if_neg c18] at H
         exact absurd H (by simp)
      ·rw [if_neg c14] at H
       have c14b0 : decide (t728 < 0) = false := decide_eq_false c14
       clear c14
       by_cases c27 : x5_1.length < 5864062014805
       ·rw [if_pos c27] at H
        have LMc27 := G.a c27
        clear c27
        obtain ⟨y755, hy755⟩ : ∃ y_ : List (List Int), y_ = (x5_1 ++ [rd_L2 l0 x7_1]) := ⟨_, rfl⟩
        replace H : (spec_l8Put.l0 k1 l0 l1 y755 x6_1 (wrap64 (x7_1 + 1))) = some r := by first | (rw [hy755]; with_reducible exact H) | (have H2_ := (Option.bind_some _ _).symm.trans H; rw [hy755]; with_reducible exact H2_) | (have H2_ := (Option.bind_some _ _).symm.trans H; with_reducible exact H2_) | with_reducible exact H | (rw [hy755]; exact H) | exact H
        have Ny755 := G.a hy755
        clear hy755
        have H' := G.a H
        clear H
        have p727 : 0 ≤ (x7_1 : Int) := G.odt
        have q727 : x7_1 < (l0.length : Int) := G.odt
        obtain ⟨ad727, A727_0, c727_0, e727, hx727_0, hl727_0, hi727_0⟩ := at_L2 (Kd.V_reads' HO_0.out).2.2 x7_1 p727 q727
        cases e727
        obtain ⟨ce727, hce727, hMe727, hcc727⟩ := Kd.V_get HO_0.out [] x7_1 p727 (by first | exact q727 | exact G.odt | (have e_ := (Kd.V_reads' HO_0.out).1; omega))
        obtain ⟨ua727_0, uc727_0, rfl, ul727_0, ge727_0⟩ := Kd.FK_slice_open hMe727
        have hv727_0 := hcc727 0 _ rfl
        rw [Nat.add_zero, show ((Kd.slice 3 (Kd.int .i64))).sz = 1 from rfl, Nat.mul_one] at hv727_0
        replace hv727_0 := Option.some.inj (hv727_0.symm.trans hx727_0)
        injection hv727_0 with hva_ hvn_ hvc_
        rw [hva_] at ge727_0
        rw [hvc_] at ul727_0
        have HL727_0 := G.a (show Kd.V (Kd.int .i64) 3 _ w.heap.size _ _ (rd_L2 l0 x7_1) from Kd.V_mk ul727_0 ge727_0)
        clear hva_ hvn_ hvc_ ge727_0 ul727_0
        clear hcc727 hce727
        have HR727_0 := G.a hi727_0
        have HC727_0 := G.a hl727_0
        clear hi727_0 hl727_0
        replace p727 := eq_true p727
        replace q727 := eq_true q727
        go_wp2_with (first | ((with_reducible refine gate_callee (f := 33) rfl ?_); refine goesL_ (some 21) rfl rfl Tryz.func33 (by kernel_rfl) rfl #[.slice A1 l1.length c1, .slice A727_0 (rd_L2 l0 x7_1).length c727_0] rfl G.ar ?_; (with_reducible refine (spec_CompareWords.calls k1 _ _ l1 _ _ (rd_L2 l0 x7_1) t728 _ ?side1 ?side2 ?side3 ?side4 A7.out).mono ?_); (case side1 => exact G.kC (Kd.C_below HR1.out HB.out)); (case side2 => exact HC1.out); (case side3 => repeat (first | exact (by repeat (first | (with_reducible exact HR727_0.out) | (with_reducible refine Kd.C_alloc ?_ _) | (with_reducible refine Kd.C_drewN ?_ _) | (with_reducible refine Kd.C_drew ?_) | exact HR727_0.out)) | (with_reducible refine Kd.C_alloc ?_ _) | (with_reducible refine Kd.C_drewN ?_ _) | (with_reducible refine Kd.C_drew ?_))); (case side4 => exact HC727_0.out); rintro e w' ⟨rfl, ⟨nd, rfl⟩⟩; refine ⟨_, rfl, ?_⟩; have p754 : 0 ≤ (x7_1 : Int) := G.odt; have q754 : x7_1 < (l0.length : Int) := G.odt; obtain ⟨ad754, A754_0, c754_0, e754, hx754_0, hl754_0, hi754_0⟩ := at_L2 (Kd.V_reads' HO_0.out).2.2 x7_1 p754 q754; obtain rfl : ad727 = ad754 := (by injection e754); obtain ⟨ce754, hce754, hMe754, hcc754⟩ := Kd.V_get HO_0.out [] x7_1 p754 (by first | exact q754 | exact G.odt | (have e_ := (Kd.V_reads' HO_0.out).1; omega)); obtain ⟨ua754_0, uc754_0, rfl, ul754_0, ge754_0⟩ := Kd.FK_slice_open hMe754; have hv754_0 := hcc754 0 _ rfl; rw [Nat.add_zero, show ((Kd.slice 3 (Kd.int .i64))).sz = 1 from rfl, Nat.mul_one] at hv754_0; replace hv754_0 := Option.some.inj (hv754_0.symm.trans hx754_0); injection hv754_0 with hva_ hvn_ hvc_; rw [hva_] at ge754_0; rw [hvc_] at ul754_0; have HL754_0 := G.a (show Kd.V (Kd.int .i64) 3 _ w.heap.size _ _ (rd_L2 l0 x7_1) from Kd.V_mk ul754_0 ge754_0); clear hva_ hvn_ hvc_ ge754_0 ul754_0; clear hcc754 hce754; have HR754_0 := G.a hi754_0; have HC754_0 := G.a hl754_0; clear hi754_0 hl754_0; replace p754 := eq_true p754; replace q754 := eq_true q754; have ea_ := Option.some.inj (hx727_0.symm.trans hx754_0); injection ea_ with ea_ en_ ec_; subst ea_; subst ec_; clear en_) | ((with_reducible refine gate_builtin (b := .append) (xs := #[.tmp 36, .tmp 41]) rfl ?_); at_builtin; refine Kd.N_append (Kd.slice 3 (Kd.int .i64)) (w0 := w) w.heap.size rfl (.tmp 36) (.tmp 41) 63 24 (.slice none 0 0) 24 rfl Tryz.underlying63 info24 rfl (by decide) (by omega) u5 x5_1 (rd_L2 l0 x7_1) [.slice A727_0 (rd_L2 l0 x7_1).length c727_0] (fun k_ => (P0_ k_ ∨ w.heap.size ≤ k_)) (fun k_ => ((fun k_ => (P0_ k_ ∨ w.heap.size ≤ k_))) k_ ∧ some k_ ≠ (u5 : Value).ownBlock) rfl rfl ?aP (fun _ hk => hk) ?aF ?aO ?aB ?aS ?aL ?_; (case aP => have HLm_ := Kd.V_mono (ok' := (fun k_ => ((fun k_ => (P0_ k_ ∨ w.heap.size ≤ k_))) k_ ∧ some k_ ≠ (u5 : Value).ownBlock)) (HL754_0.out) (fun k_ hk => ⟨hk.1, hk.2⟩); exact (Kd.FK_slice_mk (Kd.V_reads' HLm_).2.1 (Kd.V_F (by (with_reducible repeat (first | apply Kd.V_alloc | apply Kd.V_drewN | apply Kd.V_drew)); exact HLm_)))); (case aB => exact G.bel); (case aF => exact (fun k_ hk => (.inr (Nat.le_trans (below_size G.bel) hk)))); (case aO => exact (G.kN HO_5.out)); (case aS => exact (below_size G.bel)); (case aL => have := LMc27.out; omega); intro v756 w28 ho hb hg hat; rw [← Ny755.out] at ho; have n0_ := G.a (Kd.V_afterv (ok := (fun k_ => (P0_ k_ ∨ w.heap.size ≤ k_))) (G.kV HO_0.out) hg hat); have n1_ := G.a (Kd.V_afterv (ok := (fun k_ => (P0_ k_ ∨ w.heap.size ≤ k_))) (G.kV HL727_0.out) hg hat); have n2_ := G.a (Kd.V_afterv (ok := (fun k_ => (P0_ k_ ∨ w.heap.size ≤ k_))) (G.kV HL754_0.out) hg hat); have n3_ := G.a (hb); have n4_ := G.a (ho); clear HO_0; clear HL727_0; clear HL754_0; clear HB; clear HO_5; have HO_0 := n0_; have HL727_0 := n1_; have HL754_0 := n2_; have HB := n3_; have HO757 := n4_; clear n0_ n1_ n2_ n3_ n4_; clear ho hb hg hat))
        go_roundg k1
        case measure => have := HK1.out; omega
        case rel => exact ⟨(y755), (x6_1), (wrap64 (x7_1 + 1)), G.tr, G.tr, H', ⟨by have := HK1.out; omega⟩, ⟨G.kV HO_0.out⟩, ⟨G.kN HO757.out⟩, ⟨G.bel⟩⟩
       ·rw [if_neg c27] at H
        exact absurd H (by simp)
    ·rw [if_neg c6] at H
     exact absurd H (by simp)
   ·rw [if_neg c5] at H
    have c5b0 : decide (x7_1 < (l0.length : Int)) = false := decide_eq_false c5
    clear c5
    by_cases c29 : x6_1 = true
    ·subst c29
     rw [if_pos rfl] at H
     obtain rfl := Option.some.inj H
     go_wp2
     go_ret
     exact ⟨_, G.er, G.kN HO_5.out, G.bel⟩
    ·replace c29 := Bool.eq_false_iff.mpr c29
     subst c29
     rw [if_neg (show ¬ (false = true) by decide)] at H
     obtain ⟨y718, hy718⟩ : ∃ y_ : List Int, y_ = (([] : List Int)) := ⟨_, rfl⟩
     replace H : (if y718.length + l1.length < 17592186044416 then (if x5_1.length < 5864062014805 then (some (x5_1 ++ [(y718 ++ l1)])) else (none)) else (none)) = some r := by first | (rw [hy718]; with_reducible exact H) | (have H2_ := (Option.bind_some _ _).symm.trans H; rw [hy718]; with_reducible exact H2_) | (have H2_ := (Option.bind_some _ _).symm.trans H; with_reducible exact H2_) | with_reducible exact H | (rw [hy718]; exact H) | exact H
     have Ny718 := G.a hy718
     clear hy718
     by_cases c30 : y718.length + l1.length < 17592186044416
     ·rw [if_pos c30] at H
      have LMc30 := G.a c30
      clear c30
      obtain ⟨y721, hy721⟩ : ∃ y_ : List Int, y_ = (y718 ++ l1) := ⟨_, rfl⟩
      replace H : (if x5_1.length < 5864062014805 then (some (x5_1 ++ [y721])) else (none)) = some r := by first | (rw [hy721]; with_reducible exact H) | (have H2_ := (Option.bind_some _ _).symm.trans H; rw [hy721]; with_reducible exact H2_) | (have H2_ := (Option.bind_some _ _).symm.trans H; with_reducible exact H2_) | with_reducible exact H | (rw [hy721]; exact H) | exact H
      have Ny721 := G.a hy721
      clear hy721
      by_cases c31 : x5_1.length < 5864062014805
      ·rw [if_pos c31] at H
       have LMc31 := G.a c31
       clear c31
       obtain ⟨y724, hy724⟩ : ∃ y_ : List (List Int), y_ = (x5_1 ++ [y721]) := ⟨_, rfl⟩
       replace H : (some y724) = some r := by first | (rw [hy724]; with_reducible exact H) | (have H2_ := (Option.bind_some _ _).symm.trans H; rw [hy724]; with_reducible exact H2_) | (have H2_ := (Option.bind_some _ _).symm.trans H; with_reducible exact H2_) | with_reducible exact H | (rw [hy724]; exact H) | exact H
       have Ny724 := G.a hy724
       clear hy724
       obtain rfl := Option.some.inj H
       go_wp2_with (first | ((with_reducible refine gate_dst (N := 46) rfl ?_); refine Kd.R_lit (Kd.int .i64) _ 3 ?hg (N := 46) ?hd (xs := ([] : List Int)) (inner := []) (ok := fun _ => True) (okp := fun _ => True) ?hr ?hp (fun _ hk => hk) trivial (Below.refl _ _) (Nat.le_refl _) (by simp) ?_; (case hd => rfl); (case hg => rfl); (case hr => first | (go_simp; done) | (go_simp; rfl)); (case hp => exact (Reps.none _ _)); intro v719 w32 ho33 hb hg_ hnew_; clear hg_ hnew_; (first | rw [← Ny718.out] at ho33 | (simp only [Int.reduceToNat] at ho33; rw [← Ny718.out] at ho33)); have n0_ := G.a (Kd.V_elder' (G.kV HO_0.out) (Kd.R_base ho33) hb); have n1_ := G.a (Kd.N_elder' (G.kN HO_5.out) (Kd.R_base ho33) hb); have n2_ := G.a (Kd.R_lower (Kd.R_newM (M := fun k_ => (w.heap.size ≤ k_)) ho33 (below_size G.bel) (fun k_ h_ => h_)) (below_size G.bel)); have n3_ := G.a (below_step G.bel hb); clear HO_0; clear HO_5; clear HB; have HO_0 := n0_; have HO_5 := n1_; have HO720 := n2_; have HB := n3_; clear n0_ n1_ n2_ n3_; clear hb ho33) | ((with_reducible refine gate_builtin (b := .append) (xs := #[.tmp 46, .tmp 47]) rfl ?_); at_builtin; refine Kd.R_append_rows (Kd.int .i64) (w0 := w) w.heap.size rfl (.tmp 46) (.tmp 47) 24 3 (.int .i64 0) 8 rfl Tryz.underlying24 info3 rfl (by decide) (by omega) v719 y718 l1 _ _ _ (fun k_ => (w.heap.size ≤ k_)) (fun _ => False) rfl rfl ?aO ?aR (fun _ _ h => h) (fun _ h => h.elim) ?aF ?aB ?aS ?aL ?_; (case aR => exact G.kC (Kd.C_below HR1.out HB.out)); (case aB => exact G.bel); (case aF => exact (fun k_ hk => (Nat.le_trans (below_size G.bel) hk))); (case aO => exact (by (with_reducible repeat (first | apply Kd.R_alloc | apply Kd.R_drewN | apply Kd.R_drew)); exact Kd.R_mono HO720.out (fun _ hk => hk.1))); (case aS => exact (below_size G.bel)); (case aL => have := LMc30.out; omega); intro v722 w34 ho hb hg hat; rw [← Ny721.out] at ho; have n0_ := G.a (Kd.V_afterv (ok := (fun k_ => (P0_ k_ ∨ w.heap.size ≤ k_) ∧ some k_ ≠ (u5 : Value).ownBlock)) (G.kV HO_0.out) hg hat); have n1_ := G.a (Kd.N_afterv (ok := (fun k_ => (P0_ k_ ∨ w.heap.size ≤ k_))) (G.kN HO_5.out) hg hat); have n2_ := G.a (hb); have n3_ := G.a (ho); clear HO_0; clear HO_5; clear HB; clear HO720; have HO_0 := n0_; have HO_5 := n1_; have HB := n2_; have HO723 := n3_; clear n0_ n1_ n2_ n3_; clear ho hb hg hat; obtain ⟨Ao36, co36, eo36⟩ := Kd.R_slice HO723.out; subst eo36) | ((with_reducible refine gate_builtin (b := .append) (xs := #[.tmp 45, .tmp 49]) rfl ?_); at_builtin; refine Kd.N_append (Kd.slice 3 (Kd.int .i64)) (w0 := w) w.heap.size rfl (.tmp 45) (.tmp 49) 63 24 (.slice none 0 0) 24 rfl Tryz.underlying63 info24 rfl (by decide) (by omega) u5 x5_1 y721 [.slice Ao36 y721.length co36] (fun k_ => (P0_ k_ ∨ w.heap.size ≤ k_)) (fun k_ => ((fun k_ => (P0_ k_ ∨ w.heap.size ≤ k_))) k_ ∧ some k_ ≠ (u5 : Value).ownBlock) rfl rfl ?aP (fun _ hk => hk) ?aF ?aO ?aB ?aS ?aL ?_; (case aP => exact (Kd.FK_slice_mk (Kd.R_reads' (Kd.R_mono (ok' := (fun k_ => ((fun k_ => (P0_ k_ ∨ w.heap.size ≤ k_))) k_ ∧ some k_ ≠ (u5 : Value).ownBlock)) (Kd.R_apart' (HO723.out) (Kd.N_typed HO_5.out) (by decide)) (fun k_ hk => ⟨(.inr (hk.1)), hk.2⟩))).2.1 (Kd.R_F (Kd.R_mono (ok' := (fun k_ => ((fun k_ => (P0_ k_ ∨ w.heap.size ≤ k_))) k_ ∧ some k_ ≠ (u5 : Value).ownBlock)) (Kd.R_apart' (HO723.out) (Kd.N_typed HO_5.out) (by decide)) (fun k_ hk => ⟨(.inr (hk.1)), hk.2⟩))))); (case aB => exact G.bel); (case aF => exact (fun k_ hk => (.inr (Nat.le_trans (below_size G.bel) hk)))); (case aO => exact (by (with_reducible repeat (first | apply Kd.N_alloc | apply Kd.N_drewN | apply Kd.N_drew)); exact Kd.N_mono HO_5.out (fun _ hk => hk.1))); (case aS => exact (below_size G.bel)); (case aL => have := LMc31.out; omega); intro v725 w35 ho hb hg hat; rw [← Ny724.out] at ho; have n0_ := G.a (Kd.V_afterv (ok := (fun k_ => (P0_ k_ ∨ w.heap.size ≤ k_) ∧ some k_ ≠ (.slice Ao36 y721.length co36 : Value).ownBlock)) (by (with_reducible repeat (first | apply Kd.V_alloc | apply Kd.V_drewN | apply Kd.V_drew)); exact Kd.V_mono HO_0.out (fun _ hk => ⟨⟨hk.1.1, hk.2⟩, hk.1.2⟩)) hg hat); have n1_ := G.a (hb); have n2_ := G.a (ho); clear HO_0; clear HB; clear HO_5; clear HO723; have HO_0 := n0_; have HB := n1_; have HO726 := n2_; clear n0_ n1_ n2_; clear ho hb hg hat))
       go_ret
       exact ⟨_, G.er, G.kN HO726.out, G.bel⟩
      ·rw [if_neg c31] at H
       exact absurd H (by simp)
     ·rw [if_neg c30] at H
      exact absurd H (by simp)
def spec_l11Turn.f (l0 : List Int) (a1 : Int) : Option (List Int) := (some (([] : List Int) : List Int)).bind fun y758 => (if 0 ≤ a1 then (if a1 ≤ (l0.length : Int) then (if y758.length + (l0.drop (a1 : Int).toNat).length < 17592186044416 then ((some (y758 ++ (l0.drop (a1 : Int).toNat) : List Int)).bind fun y762 => (if y762.length + (l0.take (a1 : Int).toNat).length < 17592186044416 then (some (y762 ++ (l0.take (a1 : Int).toNat))) else (none))) else (none)) else (none)) else (none))
def spec_l11Turn.T1 : Bool × List (List Nat × List Nat) := (true, [([], []), ([], []), ([], []), ([1, 2], [1, 2]), ([0, 3], [0, 3]), ([], []), ([], []), ([5, 6], [5, 6]), ([4, 7, 4], [4, 7]), ([8, 8, 0, 1, 2, 3, 4, 5, 6, 7, 8], [8])])
def spec_l11Turn.B1 : List Nat := [0, 0, 0, 6, 15, 0, 0, 96, 255, 511]
theorem spec_l11Turn.tab1 : rtab .any (opsOf Tryz.f68 1) = spec_l11Turn.T1 := by kernel_rfl
theorem spec_l11Turn.bits1 : waitsOk spec_l11Turn.T1.2 spec_l11Turn.B1 = true := by kernel_rfl
theorem spec_l11Turn.calls (A0 : Option Addr) (c0 : Nat) (l0 : List Int) (a1 : Int) (r : List Int) (w : World) (hr0 : Kd.C (Kd.int .i64) w A0 l0.length l0) (hc0 : l0.length ≤ c0) (h : spec_l11Turn.f l0 a1 = some r) :
  Calls Tryz.prog 68 #[.slice A0 l0.length c0, .int .i64 a1] w fun e w' => ∃ v0_ : Value, e = .returned (v0_) ∧ Kd.R (Kd.int .i64) 3 w' w.heap.size (fun _ => True) v0_ r ∧ Below w.heap.size w w' := by
 have HR0 := G.a hr0
 have HC0 := G.a hc0
 clear hr0 hc0
 have HB := G.a (Below.refl w.heap.size w)
 have H : ((some (([] : List Int) : List Int)).bind fun y758 => (if 0 ≤ a1 then (if a1 ≤ (l0.length : Int) then (if y758.length + (l0.drop (a1 : Int).toNat).length < 17592186044416 then ((some (y758 ++ (l0.drop (a1 : Int).toNat) : List Int)).bind fun y762 => (if y762.length + (l0.take (a1 : Int).toNat).length < 17592186044416 then (some (y762 ++ (l0.take (a1 : Int).toNat))) else (none))) else (none)) else (none)) else (none))) = some r := h
 clear h
 obtain ⟨y758, hy758⟩ : ∃ y_ : List Int, y_ = (([] : List Int)) := ⟨_, rfl⟩
 replace H : (if 0 ≤ a1 then (if a1 ≤ (l0.length : Int) then (if y758.length + (l0.drop (a1 : Int).toNat).length < 17592186044416 then ((some (y758 ++ (l0.drop (a1 : Int).toNat) : List Int)).bind fun y762 => (if y762.length + (l0.take (a1 : Int).toNat).length < 17592186044416 then (some (y762 ++ (l0.take (a1 : Int).toNat))) else (none))) else (none)) else (none)) else (none)) = some r := by first | (rw [hy758]; with_reducible exact H) | (have H2_ := (Option.bind_some _ _).symm.trans H; rw [hy758]; with_reducible exact H2_) | (have H2_ := (Option.bind_some _ _).symm.trans H; with_reducible exact H2_) | with_reducible exact H | (rw [hy758]; exact H) | exact H
 have Ny758 := G.a hy758
 clear hy758
 by_cases c3 : 0 ≤ a1
 ·rw [if_pos c3] at H
  have c3b0 := eq_true c3
  have c3b1 : decide (0 ≤ a1) = true := decide_eq_true c3
  clear c3
  by_cases c4 : a1 ≤ (l0.length : Int)
  ·rw [if_pos c4] at H
   have c4b0 := eq_true c4
   have c4b1 : decide (a1 ≤ (l0.length : Int)) = true := decide_eq_true c4
   clear c4
   by_cases c5 : y758.length + (l0.drop (a1 : Int).toNat).length < 17592186044416
   ·rw [if_pos c5] at H
    have LMc5 := G.a c5
    clear c5
    obtain ⟨y762, hy762⟩ : ∃ y_ : List Int, y_ = (y758 ++ (l0.drop (a1 : Int).toNat)) := ⟨_, rfl⟩
    replace H : (if y762.length + (l0.take (a1 : Int).toNat).length < 17592186044416 then (some (y762 ++ (l0.take (a1 : Int).toNat))) else (none)) = some r := by first | (rw [hy762]; with_reducible exact H) | (have H2_ := (Option.bind_some _ _).symm.trans H; rw [hy762]; with_reducible exact H2_) | (have H2_ := (Option.bind_some _ _).symm.trans H; with_reducible exact H2_) | with_reducible exact H | (rw [hy762]; exact H) | exact H
    have Ny762 := G.a hy762
    clear hy762
    have c6b0 := eq_true (G.odt : 0 ≤ a1)
    have c7b0 := eq_true (G.odt : a1 ≤ (l0.length : Int))
    by_cases c8 : y762.length + (l0.take (a1 : Int).toNat).length < 17592186044416
    ·rw [if_pos c8] at H
     have LMc8 := G.a c8
     clear c8
     obtain ⟨y766, hy766⟩ : ∃ y_ : List Int, y_ = (y762 ++ (l0.take (a1 : Int).toNat)) := ⟨_, rfl⟩
     replace H : (some y766) = some r := by first | (rw [hy766]; with_reducible exact H) | (have H2_ := (Option.bind_some _ _).symm.trans H; rw [hy766]; with_reducible exact H2_) | (have H2_ := (Option.bind_some _ _).symm.trans H; with_reducible exact H2_) | with_reducible exact H | (rw [hy766]; exact H) | exact H
     have Ny766 := G.a hy766
     clear hy766
     obtain rfl := Option.some.inj H
     go_enter Tryz.func68, Tryz.ntmps68
     try go_wp2
     have n0_ := G.a (below_drew1 HB.out)
     clear HB
     have HB := n0_
     clear n0_
     obtain ⟨i010, hi010, _, hsz10, _⟩ := info_parts info3
     obtain ⟨A10, hcut10, hA10, hC10⟩ := print_drop_of (P := Tryz.prog) (Value.int .i64) 0 24 3 .i64 Tryz.underlying24 hi010 hsz10 A0 c0 l0 a1 G.odt G.odt HC0.out
     have HR761 := G.a (Kd.C_of_reads (h1 := fun _ => rfl) (hA10 _ (Kd.reads_of_C HR0.out)))
     have HC761 := G.a hC10
     clear hA10 hC10 hi010 hsz10
     obtain ⟨i011, hi011, _, hsz11, _⟩ := info_parts info3
     obtain ⟨hcut11, hA11, hC11⟩ := print_take_of (P := Tryz.prog) (Value.int .i64) 0 24 3 .i64 Tryz.underlying24 hi011 hsz11 A0 c0 l0 a1 G.odt G.odt HC0.out
     have HR765 := G.a (Kd.C_of_reads (h1 := fun _ => rfl) (hA11 _ (Kd.reads_of_C HR0.out)))
     have HC765 := G.a hC11
     clear hA11 hC11 hi011 hsz11
     refine start_ (n := 10) (S := fun w' => True) (ds := []) #[false, false, false, false, false, false, false, false, false, false] (by kernel_rfl) rfl rfl trivial (fun hHeld => ?_); refine with_tabW spec_l11Turn.tab1 spec_l11Turn.bits1 (fun HT_ HW_ => ?_)
     generalize w.drew = w9 at HB HR761 HR765 hHeld ⊢
     refine G.pu 1 6 (G.bs 10 2) ?_
     refine G.pu 2 7 (G.bs 10 6) ?_
     refine G.pu 3 8 (G.bs 10 14) ?_
     refine G.pu 5 10 (G.bs 10 46) ?_
     refine G.pu 6 11 (G.bs 10 110) ?_
     refine G.pu 7 12 (G.bs 10 238) ?_
     refine one_ (i := 0) (N := some 5) (G.bs 10 239) rfl rfl (one_of HT_.out (by kernel_rfl)) (by decide) (fun K hK => ?_)
     refine Kd.R_lit_step (Kd.int .i64) _ 3 ?hg (N := 5) ?hd (xs := ([] : List Int)) (inner := []) (ok := fun _ => True) (okp := fun _ => True) ?hr ?hp (fun _ hk => hk) trivial (Below.refl _ _) (Nat.le_refl _) (by simp) ?_; (case hd => rfl); (case hg => rfl); (case hr => first | (go_simp; done) | (go_simp; rfl)); (case hp => exact (Reps.none _ _))
     intro v759 w12 ho13 hb hg_ hnew_
     clear hg_ hnew_
     (first | rw [← Ny758.out] at ho13 | (simp only [Int.reduceToNat] at ho13; rw [← Ny758.out] at ho13))
     have n0_ := G.a (Kd.R_lower ho13 (below_size G.bel))
     have n1_ := G.a (below_step G.bel hb)
     clear HB
     have HO760 := n0_
     have HB := n1_
     clear n0_ n1_
     clear hb ho13
     refine hK.out _ _ trivial (fun hHeld => ?_)
     clear hK K
     refine norm_ (a' := ?_) ?_ ?_
     rotate_left
     ·show Act.put _ (some 5) _ = _
      simp only [Act.put, List.setIfInBounds_toArray, List.set_cons_zero, List.set_cons_succ, i64_w, i32_w]
      rfl
     refine one_ (i := 4) (N := some 9) (G.bs 10 255) rfl rfl (one_of HT_.out (by kernel_rfl)) (by decide) (fun K hK => ?_)
     refine Kd.R_append_rows_step (Kd.int .i64) (w0 := w) w.heap.size (by rfl) (.tmp 5) (.tmp 8) 24 3 (.int .i64 0) 8 rfl Tryz.underlying24 info3 rfl (by decide) (by omega) v759 y758 (l0.drop (a1 : Int).toNat) _ _ _ (fun _ => True) (fun _ => False) rfl rfl ?aO ?aR (fun _ _ h => h) (fun _ h => h.elim) ?aF ?aB ?aS ?aL ?_
     (case aR => first | (have h_ := HR761.out; simp only [Int.toNat_natCast, List.take_length] at h_ ⊢; exact (Kd.C_below h_ HB.out)) | (have h_ := HR761.out; rw [show (l0.drop (a1 : Int).toNat).length = (l0.length - a1.toNat) from List.length_drop] at h_; exact (Kd.C_below h_ HB.out)) | exact (Kd.C_below HR761.out HB.out) | (have h_ := HR765.out; simp only [Int.toNat_natCast, List.take_length] at h_ ⊢; exact (Kd.C_below h_ HB.out)) | (have h_ := HR765.out; rw [show (l0.drop (a1 : Int).toNat).length = (l0.length - a1.toNat) from List.length_drop] at h_; exact (Kd.C_below h_ HB.out)) | exact (Kd.C_below HR765.out HB.out) | (rw [← show (l0.drop (a1 : Int).toNat).length = (l0.length - a1.toNat) from List.length_drop]; repeat (first | exact (Kd.C_below HR761.out HB.out) | (with_reducible refine Kd.C_alloc ?_ _) | (with_reducible refine Kd.C_drewN ?_ _) | (with_reducible refine Kd.C_drew ?_))) | (repeat (first | exact (Kd.C_below HR761.out HB.out) | (with_reducible refine Kd.C_alloc ?_ _) | (with_reducible refine Kd.C_drewN ?_ _) | (with_reducible refine Kd.C_drew ?_))))
     (case aB => exact G.bel)
     (case aF => exact (fun _ _ => trivial))
     (case aO => exact (G.kR HO760.out))
     (case aS => exact (below_size G.bel))
     (case aL => have := LMc5.out; have hlx_ := (show (l0.drop (a1 : Int).toNat).length = (l0.length - a1.toNat) from List.length_drop); omega)
     intro v763 w14 ho hb hg hat
     rw [← Ny762.out] at ho
     have n0_ := G.a (hb)
     have n1_ := G.a (ho)
     clear HB
     clear HO760
     have HB := n0_
     have HO764 := n1_
     clear n0_ n1_
     clear ho hb hg hat
     refine hK.out _ _ trivial (fun hHeld => ?_)
     clear hK K
     refine norm_ (a' := ?_) ?_ ?_
     rotate_left
     ·show Act.put _ (some 9) _ = _
      simp only [Act.put, List.setIfInBounds_toArray, List.set_cons_zero, List.set_cons_succ, i64_w, i32_w]
      rfl
     refine one_ (i := 8) (N := some 13) (G.bs 10 511) rfl rfl (one_of HT_.out (by kernel_rfl)) (by decide) (fun K hK => ?_)
     refine Kd.R_append_rows_step (Kd.int .i64) (w0 := w) w.heap.size (by rfl) (.tmp 9) (.tmp 12) 24 3 (.int .i64 0) 8 rfl Tryz.underlying24 info3 rfl (by decide) (by omega) v763 y762 (l0.take (a1 : Int).toNat) _ _ _ (fun _ => True) (fun _ => False) rfl rfl ?aO ?aR (fun _ _ h => h) (fun _ h => h.elim) ?aF ?aB ?aS ?aL ?_
     (case aR => first | (have h_ := HR765.out; simp only [Int.toNat_natCast, List.take_length] at h_ ⊢; exact (Kd.C_below h_ HB.out)) | (have h_ := HR765.out; rw [show (l0.take (a1 : Int).toNat).length = a1.toNat from (by rw [List.length_take]; have h_ : (a1 : Int) ≤ (l0.length : Int) := G.odt; omega)] at h_; exact (Kd.C_below h_ HB.out)) | exact (Kd.C_below HR765.out HB.out) | (have h_ := HR761.out; simp only [Int.toNat_natCast, List.take_length] at h_ ⊢; exact (Kd.C_below h_ HB.out)) | (have h_ := HR761.out; rw [show (l0.take (a1 : Int).toNat).length = a1.toNat from (by rw [List.length_take]; have h_ : (a1 : Int) ≤ (l0.length : Int) := G.odt; omega)] at h_; exact (Kd.C_below h_ HB.out)) | exact (Kd.C_below HR761.out HB.out) | (rw [← show (l0.take (a1 : Int).toNat).length = a1.toNat from (by rw [List.length_take]; have h_ : (a1 : Int) ≤ (l0.length : Int) := G.odt; omega)]; repeat (first | exact (Kd.C_below HR765.out HB.out) | (with_reducible refine Kd.C_alloc ?_ _) | (with_reducible refine Kd.C_drewN ?_ _) | (with_reducible refine Kd.C_drew ?_))) | (repeat (first | exact (Kd.C_below HR765.out HB.out) | (with_reducible refine Kd.C_alloc ?_ _) | (with_reducible refine Kd.C_drewN ?_ _) | (with_reducible refine Kd.C_drew ?_))))
     (case aB => exact G.bel)
     (case aF => exact (fun _ _ => trivial))
     (case aO => exact (G.kR HO764.out))
     (case aS => exact (below_size G.bel))
     (case aL => have := LMc8.out; have hlx_ := (show (l0.take (a1 : Int).toNat).length = a1.toNat from (by rw [List.length_take]; have h_ : (a1 : Int) ≤ (l0.length : Int) := G.odt; omega)); omega)
     intro v767 w15 ho hb hg hat
     rw [← Ny766.out] at ho
     have n0_ := G.a (hb)
     have n1_ := G.a (ho)
     clear HB
     clear HO764
     have HB := n0_
     have HO768 := n1_
     clear n0_ n1_
     clear ho hb hg hat
     refine hK.out _ _ trivial (fun hHeld => ?_)
     clear hK K
     refine norm_ (a' := ?_) ?_ ?_
     rotate_left
     ·show Act.put _ (some 13) _ = _
      simp only [Act.put, List.setIfInBounds_toArray, List.set_cons_zero, List.set_cons_succ, i64_w, i32_w]
      rfl
     refine G.pu 9 4 (G.bs 10 1023) ?_
     refine done_ (done_of HT_.out (by kernel_rfl)) ?_
     try go_wp2
     go_ret
     exact ⟨_, G.er, G.kR HO768.out, G.bel⟩
    ·rw [if_neg c8] at H
     exact absurd H (by simp)
   ·rw [if_neg c5] at H
    exact absurd H (by simp)
  ·rw [if_neg c4] at H
   exact absurd H (by simp)
 ·rw [if_neg c3] at H
  exact absurd H (by simp)
mutual
def spec_ConjugatesOf.l0 : Nat → List Int → List (List Int) → Int → Option ((List (List Int)))
 | 0, _, _, _ => none
 | k + 1, x0, x3, x4 => if x4 < (x0.length : Int) then (spec_ConjugatesOf.j1 k x0 x3 x4 (decide ((x0.length : Int) ≤ 64))) else (spec_ConjugatesOf.j1 k x0 x3 x4 false)
def spec_ConjugatesOf.j1 : Nat → List Int → List (List Int) → Int → Bool → Option ((List (List Int)))
 | 0, _, _, _, _ => none
 | k + 1, x0, x3, x4, x14 => if x14 = true then ((spec_l11Turn.f x0 x4).bind fun t772 => ((spec_l8Put.f k x3 t772).bind fun t775 => (spec_ConjugatesOf.l0 k x0 t775 (wrap64 (x4 + 1))))) else (some x3)
end
def spec_ConjugatesOf.f (k : Nat) (l0 : List Int) : Option ((List (List Int))) := spec_ConjugatesOf.l0 k l0 (([] : List (List Int))) 0
theorem spec_ConjugatesOf.calls (k : Nat) (A0 : Option Addr) (c0 : Nat) (l0 : List Int) (r : List (List Int)) (w : World) (hr0 : Kd.C (Kd.int .i64) w A0 l0.length l0) (hc0 : l0.length ≤ c0) (h : spec_ConjugatesOf.f k l0 = some r) :
  Calls Tryz.prog 48 #[.slice A0 l0.length c0] w fun e w' => ∃ v0_ : Value, e = .returned (v0_) ∧ Kd.N (Kd.slice 3 (Kd.int .i64)) 24 w' w.heap.size (fun k_ => (w.heap.size ≤ k_)) v0_ r ∧ Below w.heap.size w w' := by
 have HR0 := G.a hr0
 have HC0 := G.a hc0
 clear hr0 hc0
 have HB := G.a (Below.refl w.heap.size w)
 have H : (spec_ConjugatesOf.l0 k l0 (([] : List (List Int))) 0) = some r := h
 clear h
 obtain ⟨y769, hy769⟩ : ∃ y_ : List (List Int), y_ = (([] : List (List Int))) := ⟨_, rfl⟩
 replace H : (spec_ConjugatesOf.l0 k l0 y769 0) = some r := by first | (rw [hy769]; with_reducible exact H) | (have H2_ := (Option.bind_some _ _).symm.trans H; rw [hy769]; with_reducible exact H2_) | (have H2_ := (Option.bind_some _ _).symm.trans H; with_reducible exact H2_) | with_reducible exact H | (rw [hy769]; exact H) | exact H
 have Ny769 := G.a hy769
 clear hy769
 have H' := G.a H
 clear H
 go_enter Tryz.func48, Tryz.ntmps48
 go_wp2_with (first | ((with_reducible refine gate_dst (N := 5) rfl ?_); (try (refine gate_guard (by rfl) ?_; dsimp only)); refine Kd.N_lit (Kd.slice 3 (Kd.int .i64)) _ 24 ?hg (N' := 5) ?hd (xs := ([] : List (List Int))) (inner := []) (ok := (fun k_ => (w.heap.size ≤ k_))) (okp := (fun k_ => (w.heap.size ≤ k_))) ?hr ?hp (fun _ hk => hk) ((show ∀ k_, w.heap.size ≤ k_ → (fun k_ => (w.heap.size ≤ k_)) k_ from fun k_ hk => (Nat.le_trans (below_size G.bel) hk)) _ (Nat.le_refl _)) (Below.refl _ _) (Nat.le_refl _) (by simp) ?_; (case hd => rfl); (case hg => rfl); (case hr => first | (go_simp; done) | (go_simp; rfl)); (case hp => exact (Reps.none _ _)); intro v770 w2 ho3 hb hg_ hnew_; clear hg_ hnew_; (first | rw [← Ny769.out] at ho3 | (simp only [Int.reduceToNat] at ho3; rw [← Ny769.out] at ho3)); have n0_ := G.a (Kd.N_lower ho3 (below_size G.bel)); have n1_ := G.a (below_step G.bel hb); clear HB; have HO771 := n0_; have HB := n1_; clear n0_ n1_; clear hb ho3))
 go_loopg [3, 4] k (fun kq v3 v4 w' => ∃ (x3_1 : List (List Int)) (x4_1 : Int), v4 = .int .i64 x4_1 ∧ Aside0 (spec_ConjugatesOf.l0 kq l0 x3_1 x4_1 = some r) ∧ Aside0 (kq ≤ k) ∧ Aside0 (Kd.N (Kd.slice 3 (Kd.int .i64)) 24 w' w.heap.size (fun k_ => (w.heap.size ≤ k_)) v3 x3_1) ∧ Aside0 (Below w.heap.size w w'))
 case atStart => exact ⟨(y769), (0), G.tr, H', ⟨Nat.le_refl _⟩, ⟨G.kN HO771.out⟩, ⟨G.bel⟩⟩
 case round =>
  clear H'
  try clear p2
  obtain ⟨x3_1, x4_1, rfl, HA, HK1, HO_3, HB⟩ := hrel
  cases gk with
  | zero => exact absurd HA.out (by simp [spec_ConjugatesOf.l0])
  | succ k1 =>
   have H := HA.out
   clear HA
   simp only [spec_ConjugatesOf.l0] at H
   have HC4 := G.a H
   clear H
   go_upto_region 3 with (fail)
   go_cut [14] (fun v14 wc => ∃ (kq : Nat) (x14_3 : Bool), v14 = .bool x14_3 ∧ Aside0 (spec_ConjugatesOf.j1 kq l0 x3_1 x4_1 x14_3 = some r) ∧ Aside0 (kq ≤ k1) ∧ Aside0 (Kd.N (Kd.slice 3 (Kd.int .i64)) 24 wc w.heap.size (fun k_ => (w.heap.size ≤ k_)) u3 x3_1) ∧ Aside0 (Below w.heap.size w wc))
   case first =>
    have H := HC4.out
    clear HC4
    by_cases c5 : x4_1 < (l0.length : Int)
    ·rw [if_pos c5] at H
     have c5b0 : decide (x4_1 < (l0.length : Int)) = true := decide_eq_true c5
     clear c5
     (first | rw [c5b0] | (simp only [i64_w, i32_w]; rw [c5b0]) | skip)
     have H' := G.a H
     clear H
     go_wp2
     go_meet
     case rel => exact ⟨_, (decide ((l0.length : Int) ≤ 64)), G.tr, H', ⟨by have := HK1.out; first | omega | exact Nat.le_refl _⟩, ⟨G.kN HO_3.out⟩, ⟨G.bel⟩⟩
    ·rw [if_neg c5] at H
     have c5b0 : decide (x4_1 < (l0.length : Int)) = false := decide_eq_false c5
     clear c5
     (first | rw [c5b0] | (simp only [i64_w, i32_w]; rw [c5b0]) | skip)
     have H' := G.a H
     clear H
     go_wp2
     go_meet
     case rel => exact ⟨_, (false), G.tr, H', ⟨by have := HK1.out; first | omega | exact Nat.le_refl _⟩, ⟨G.kN HO_3.out⟩, ⟨G.bel⟩⟩
   case rest =>
    clear HC4
    try clear p2; try clear c4; try clear c5; try clear c5b0; try clear p2
    obtain ⟨kq, x14_3, rfl, HA, HJ3, HO_3, HB⟩ := hcut
    cases kq with
    | zero => exact absurd HA.out (by simp [spec_ConjugatesOf.j1])
    | succ kj3 =>
     have H := HA.out
     clear HA
     simp only [spec_ConjugatesOf.j1] at H
     by_cases c6 : x14_3 = true
     ·subst c6
      rw [if_pos rfl] at H
      obtain ⟨t772, A7, H⟩ := G.bx H
      obtain ⟨t775, A8, H⟩ := G.bx H
      have H' := G.a H
      clear H
      go_wp2_with (first | ((with_reducible refine gate_callee (f := 68) rfl ?_); refine goesL_ (some 20) rfl rfl Tryz.func68 (by kernel_rfl) rfl #[.slice A0 l0.length c0, .int .i64 x4_1] rfl G.ar ?_; (with_reducible refine (spec_l11Turn.calls _ _ l0 x4_1 t772 _ ?side1 ?side2 A7.out).mono ?_); (case side1 => exact G.kC (Kd.C_below HR0.out HB.out)); (case side2 => exact HC0.out); rintro e w9 ⟨v773, rfl, ho0, hb⟩; refine ⟨_, rfl, ?_⟩; have n0_ := G.a (Kd.N_elder' (G.kN HO_3.out) (Kd.R_base ho0) hb); have n1_ := G.a (Kd.R_lower (Kd.R_newM (M := fun k_ => (w.heap.size ≤ k_)) ho0 (below_size G.bel) (fun k_ h_ => h_)) (below_size G.bel)); have n2_ := G.a (below_step G.bel hb); clear HO_3; clear HB; have HO_3 := n0_; have HO774 := n1_; have HB := n2_; clear n0_ n1_ n2_; (try clear hb); (try clear hb2); (try clear hk); (try clear hi); (try clear ho0); obtain ⟨Ao10, co10, eo10⟩ := Kd.N_slice HO_3.out; subst eo10; obtain ⟨Ao11, co11, eo11⟩ := Kd.R_slice HO774.out; subst eo11) | ((with_reducible refine gate_callee (f := 67) rfl ?_); refine goesL_ (some 21) rfl rfl Tryz.func67 (by kernel_rfl) rfl #[.slice Ao10 x3_1.length co10, .slice Ao11 t772.length co11] rfl G.ar ?_; (with_reducible refine (spec_l8Put.calls kj3 (fun k_ => ((w.heap.size ≤ k_) ∧ some k_ ≠ (.slice Ao11 t772.length co11 : Value).ownBlock)) _ _ x3_1 _ _ t772 t775 _ ?side1 ?side2 ?side3 A8.out).mono ?_); (case side1 => exact Kd.N_V (HO_3.out)); (case side2 => repeat (first | exact (Kd.R_reads' HO774.out).2.2 | (with_reducible refine Kd.C_alloc ?_ _) | (with_reducible refine Kd.C_drewN ?_ _) | (with_reducible refine Kd.C_drew ?_))); (case side3 => exact (Kd.R_reads' HO774.out).2.1); rintro e w12 ⟨v776, rfl, ho0, hb⟩; refine ⟨_, rfl, ?_⟩; have n0_ := G.a (Kd.N_elder' (G.kN HO_3.out) (Kd.N_base ho0) hb); have n1_ := G.a (Kd.R_below (G.kR HO774.out) hb); have n2_ := G.a (Kd.N_lower (Kd.N_mono (ok' := fun k_ => (w.heap.size ≤ k_) ∧ some k_ ≠ (.slice Ao11 t772.length co11 : Value).ownBlock) ho0 (fun k_ hk_ => ⟨Or.elim hk_ (fun hs_ => hs_.1) (fun hn_ => (Nat.le_trans (below_size G.bel) hn_)), Or.elim hk_ (fun hs_ => hs_.2) (fun hn_ => (Kd.fresh' (Kd.R_lt (G.kR HO774.out)) k_ hn_))⟩)) (below_size G.bel)); have n3_ := G.a (below_step G.bel hb); clear HO_3; clear HO774; clear HB; have HO_3 := n0_; have HO774 := n1_; have HO777 := n2_; have HB := n3_; clear n0_ n1_ n2_ n3_; (try clear hb); (try clear hb2); (try clear hk); (try clear hi); (try clear ho0)))
      go_roundg kj3
      case measure => have := HK1.out; have := HJ3.out; omega
      case rel => exact ⟨(t775), (wrap64 (x4_1 + 1)), G.tr, H', ⟨by have := HK1.out; have := HJ3.out; omega⟩, ⟨by (with_reducible repeat (first | apply Kd.N_alloc | apply Kd.N_drewN | apply Kd.N_drew)); exact Kd.N_mono HO777.out (fun _ hk => hk.1)⟩, ⟨G.bel⟩⟩
     ·replace c6 := Bool.eq_false_iff.mpr c6
      subst c6
      rw [if_neg (show ¬ (false = true) by decide)] at H
      obtain rfl := Option.some.inj H
      go_wp2
      go_ret
      exact ⟨_, G.er, G.kN HO_3.out, G.bel⟩
def spec_LeastConjugate.f (k : Nat) (l0 : List Int) : Option (List Int) := (spec_ConjugatesOf.f k l0).bind fun t778 => (if (t778.length : Int) = 0 then ((some (([] : List Int) : List Int)).bind fun y781 => (if y781.length + l0.length < 17592186044416 then (some (y781 ++ l0)) else (none))) else (if 0 < (t778.length : Int) then (some (rd_L2 t778 0)) else (none)))
theorem spec_LeastConjugate.calls (k : Nat) (A0 : Option Addr) (c0 : Nat) (l0 : List Int) (r : List Int) (w : World) (hr0 : Kd.C (Kd.int .i64) w A0 l0.length l0) (hc0 : l0.length ≤ c0) (h : spec_LeastConjugate.f k l0 = some r) :
  Calls Tryz.prog 36 #[.slice A0 l0.length c0] w fun e w' => ∃ v0_ : Value, e = .returned (v0_) ∧ Kd.V (Kd.int .i64) 3 w' w.heap.size (fun k_ => (w.heap.size ≤ k_)) v0_ r ∧ Below w.heap.size w w' := by
 have HR0 := G.a hr0
 have HC0 := G.a hc0
 clear hr0 hc0
 have HB := G.a (Below.refl w.heap.size w)
 have H : ((spec_ConjugatesOf.f k l0).bind fun t778 => (if (t778.length : Int) = 0 then ((some (([] : List Int) : List Int)).bind fun y781 => (if y781.length + l0.length < 17592186044416 then (some (y781 ++ l0)) else (none))) else (if 0 < (t778.length : Int) then (some (rd_L2 t778 0)) else (none)))) = some r := h
 clear h
 obtain ⟨t778, A2, H⟩ := G.bx H
 by_cases c3 : (t778.length : Int) = 0
 ·rw [if_pos c3] at H
  have c3b0 : ((t778.length : Int) == 0) = true := beq_iff_eq.mpr c3
  have c3b1 : ((t778.length : Int) != 0) = false := bne_eq_false_iff_eq.mpr c3
  clear c3
  obtain ⟨y781, hy781⟩ : ∃ y_ : List Int, y_ = (([] : List Int)) := ⟨_, rfl⟩
  replace H : (if y781.length + l0.length < 17592186044416 then (some (y781 ++ l0)) else (none)) = some r := by first | (rw [hy781]; with_reducible exact H) | (have H2_ := (Option.bind_some _ _).symm.trans H; rw [hy781]; with_reducible exact H2_) | (have H2_ := (Option.bind_some _ _).symm.trans H; with_reducible exact H2_) | with_reducible exact H | (rw [hy781]; exact H) | exact H
  have Ny781 := G.a hy781
  clear hy781
  by_cases c4 : y781.length + l0.length < 17592186044416
  ·rw [if_pos c4] at H
   have LMc4 := G.a c4
   clear c4
   obtain ⟨y784, hy784⟩ : ∃ y_ : List Int, y_ = (y781 ++ l0) := ⟨_, rfl⟩
   replace H : (some y784) = some r := by first | (rw [hy784]; with_reducible exact H) | (have H2_ := (Option.bind_some _ _).symm.trans H; rw [hy784]; with_reducible exact H2_) | (have H2_ := (Option.bind_some _ _).symm.trans H; with_reducible exact H2_) | with_reducible exact H | (rw [hy784]; exact H) | exact H
   have Ny784 := G.a hy784
   clear hy784
   obtain rfl := Option.some.inj H
   go_enter Tryz.func36, Tryz.ntmps36
   go_wp2_with (first | ((with_reducible refine gate_callee (f := 48) rfl ?_); refine goesL_ (some 5) rfl rfl Tryz.func48 (by kernel_rfl) rfl #[.slice A0 l0.length c0] rfl G.ar ?_; (with_reducible refine (spec_ConjugatesOf.calls k _ _ l0 t778 _ ?side1 ?side2 A2.out).mono ?_); (case side1 => exact G.kC HR0.out); (case side2 => exact HC0.out); rintro e w5 ⟨v779, rfl, ho0, hb⟩; refine ⟨_, rfl, ?_⟩; have n0_ := G.a (Kd.N_lower (Kd.N_mono (ok' := fun k_ => (w.heap.size ≤ k_)) ho0 (fun k_ hk_ => (Nat.le_trans (below_size G.bel) hk_))) (below_size G.bel)); have n1_ := G.a (below_step G.bel hb); clear HB; have HO780 := n0_; have HB := n1_; clear n0_ n1_; (try clear hb); (try clear hb2); (try clear hk); (try clear hi); (try clear ho0); obtain ⟨Ao6, co6, eo6⟩ := Kd.N_slice HO780.out; subst eo6) | ((with_reducible refine gate_dst (N := 9) rfl ?_); refine Kd.R_lit (Kd.int .i64) _ 3 ?hg (N := 9) ?hd (xs := ([] : List Int)) (inner := []) (ok := fun _ => True) (okp := fun _ => True) ?hr ?hp (fun _ hk => hk) trivial (Below.refl _ _) (Nat.le_refl _) (by simp) ?_; (case hd => rfl); (case hg => rfl); (case hr => first | (go_simp; done) | (go_simp; rfl)); (case hp => exact (Reps.none _ _)); intro v782 w7 ho8 hb hg_ hnew_; clear hg_ hnew_; (first | rw [← Ny781.out] at ho8 | (simp only [Int.reduceToNat] at ho8; rw [← Ny781.out] at ho8)); have n0_ := G.a (Kd.N_elder' (G.kN HO780.out) (Kd.R_base ho8) hb); have n1_ := G.a (Kd.R_lower (Kd.R_newM (M := fun k_ => (w.heap.size ≤ k_)) ho8 (below_size G.bel) (fun k_ h_ => h_)) (below_size G.bel)); have n2_ := G.a (below_step G.bel hb); clear HO780; clear HB; have HO780 := n0_; have HO783 := n1_; have HB := n2_; clear n0_ n1_ n2_; clear hb ho8) | ((with_reducible refine gate_builtin (b := .append) (xs := #[.tmp 9, .tmp 10]) rfl ?_); at_builtin; refine Kd.R_append_rows (Kd.int .i64) (w0 := w) w.heap.size rfl (.tmp 9) (.tmp 10) 24 3 (.int .i64 0) 8 rfl Tryz.underlying24 info3 rfl (by decide) (by omega) v782 y781 l0 _ _ _ (fun k_ => (w.heap.size ≤ k_)) (fun _ => False) rfl rfl ?aO ?aR (fun _ _ h => h) (fun _ h => h.elim) ?aF ?aB ?aS ?aL ?_; (case aR => exact G.kC (Kd.C_below HR0.out HB.out)); (case aB => exact G.bel); (case aF => exact (fun k_ hk => (Nat.le_trans (below_size G.bel) hk))); (case aO => exact (by (with_reducible repeat (first | apply Kd.R_alloc | apply Kd.R_drewN | apply Kd.R_drew)); exact Kd.R_mono HO783.out (fun _ hk => hk.1))); (case aS => exact (below_size G.bel)); (case aL => have := LMc4.out; omega); intro v785 w9 ho hb hg hat; rw [← Ny784.out] at ho; have n0_ := G.a (Kd.N_afterv (ok := (fun k_ => (w.heap.size ≤ k_))) (G.kN HO780.out) hg hat); have n1_ := G.a (hb); have n2_ := G.a (ho); clear HO780; clear HB; clear HO783; have HO780 := n0_; have HB := n1_; have HO786 := n2_; clear n0_ n1_ n2_; clear ho hb hg hat))
   go_ret
   exact ⟨_, G.er, Kd.R_V (G.kR HO786.out), G.bel⟩
  ·rw [if_neg c4] at H
   exact absurd H (by simp)
 ·rw [if_neg c3] at H
  have c3b0 : ((t778.length : Int) == 0) = false := beq_eq_false_iff_ne.mpr c3
  have c3b1 : ((t778.length : Int) != 0) = true := bne_iff_ne.mpr c3
  have c3b2 : ¬ (t778 = []) := fun h_ => c3 (by rw [h_]; rfl)
  by_cases c10 : 0 < (t778.length : Int)
  ·rw [if_pos c10] at H
   have c10b0 : decide (0 < (t778.length : Int)) = true := decide_eq_true c10
   have c10b1 : decide (0 < t778.length) = true := decide_eq_true (by omega)
   clear c10
   obtain rfl := Option.some.inj H
   go_enter Tryz.func36, Tryz.ntmps36
   go_wp2_with (first | ((with_reducible refine gate_callee (f := 48) rfl ?_); refine goesL_ (some 5) rfl rfl Tryz.func48 (by kernel_rfl) rfl #[.slice A0 l0.length c0] rfl G.ar ?_; (with_reducible refine (spec_ConjugatesOf.calls k _ _ l0 t778 _ ?side1 ?side2 A2.out).mono ?_); (case side1 => exact G.kC HR0.out); (case side2 => exact HC0.out); rintro e w11 ⟨v779, rfl, ho0, hb⟩; refine ⟨_, rfl, ?_⟩; have n0_ := G.a (Kd.N_lower (Kd.N_mono (ok' := fun k_ => (w.heap.size ≤ k_)) ho0 (fun k_ hk_ => (Nat.le_trans (below_size G.bel) hk_))) (below_size G.bel)); have n1_ := G.a (below_step G.bel hb); clear HB; have HO780 := n0_; have HB := n1_; clear n0_ n1_; (try clear hb); (try clear hb2); (try clear hk); (try clear hi); (try clear ho0); obtain ⟨Ao12, co12, eo12⟩ := Kd.N_slice HO780.out; subst eo12; have p787 : 0 ≤ (0 : Int) := (by omega); have q787 : 0 < (t778.length : Int) := G.odt; obtain ⟨ad787, A787_0, c787_0, e787, hx787_0, hl787_0, hi787_0⟩ := at_L2 (Kd.N_reads' HO780.out).2.2 0 p787 q787; cases e787; obtain ⟨ce787, hce787, hMe787, hcc787⟩ := Kd.N_get HO780.out [] 0 p787 (by first | exact q787 | exact G.odt | (have e_ := (Kd.N_reads' HO780.out).1; omega)); obtain ⟨ua787_0, uc787_0, rfl, ul787_0, ge787_0⟩ := Kd.FK_slice_open hMe787; have hv787_0 := hcc787 0 _ rfl; rw [Nat.add_zero, show ((Kd.slice 3 (Kd.int .i64))).sz = 1 from rfl, Nat.mul_one] at hv787_0; replace hv787_0 := Option.some.inj (hv787_0.symm.trans hx787_0); injection hv787_0 with hva_ hvn_ hvc_; rw [hva_] at ge787_0; rw [hvc_] at ul787_0; have HL787_0 := G.a (show Kd.V (Kd.int .i64) 3 _ w.heap.size _ _ (rd_L2 t778 0) from Kd.V_mk ul787_0 ge787_0); clear hva_ hvn_ hvc_ ge787_0 ul787_0; clear hcc787 hce787; have qi787 : (0 < t778.length) = True := eq_true (by omega); (try rw [show ((0 : Int)).toNat = 0 from rfl] at hx787_0); (try rw [Addr.add_zero'] at hx787_0); have HR787_0 := G.a hi787_0; have HC787_0 := G.a hl787_0; clear hi787_0 hl787_0; replace p787 := eq_true p787; replace q787 := eq_true q787))
   go_ret
   exact ⟨_, G.er, by (with_reducible repeat (first | apply Kd.V_alloc | apply Kd.V_drewN | apply Kd.V_drew)); exact Kd.V_mono HL787_0.out (fun _ hk => hk.1), G.bel⟩
  ·rw [if_neg c10] at H
   exact absurd H (by simp)
def spec_RootOfRun.f (k : Nat) (l0 : List Int) (a1_0 : Int) (a1_1 : Int) (a1_2 : Int) : Option (List Int × Bool) := (spec_IsRun.f k l0 a1_0 a1_1 a1_2).bind fun t789 => (if t789 = true then (if 0 ≤ a1_0 then (if a1_0 ≤ (wrap64 (a1_0 + a1_2)) then (if (wrap64 (a1_0 + a1_2)) ≤ (l0.length : Int) then ((spec_LeastConjugate.f k ((l0.take ((wrap64 (a1_0 + a1_2)) : Int).toNat).drop (a1_0 : Int).toNat)).bind fun t791 => (some (t791, true))) else (none)) else (none)) else (none)) else (some ((([] : List Int)), false)))
theorem spec_RootOfRun.calls (k : Nat) (A0 : Option Addr) (c0 : Nat) (l0 : List Int) (a1_0 : Int) (a1_1 : Int) (a1_2 : Int) (r1 : List Int) (r2 : Bool) (w : World) (hr0 : Kd.C (Kd.int .i64) w A0 l0.length l0) (hc0 : l0.length ≤ c0) (h : spec_RootOfRun.f k l0 a1_0 a1_1 a1_2 = some (r1, r2)) :
  Calls Tryz.prog 18 #[.slice A0 l0.length c0, .agg #[.int .i64 a1_0, .int .i64 a1_1, .int .i64 a1_2]] w fun e w' => ∃ v0_ : Value, e = .returned (.tuple #[v0_, .bool r2]) ∧ Kd.V (Kd.int .i64) 3 w' w.heap.size (fun k_ => (w.heap.size ≤ k_)) v0_ r1 ∧ Below w.heap.size w w' := by
 have hu32 := Tryz.underlying32
 have HR0 := G.a hr0
 have HC0 := G.a hc0
 clear hr0 hc0
 have HB := G.a (Below.refl w.heap.size w)
 have H : ((spec_IsRun.f k l0 a1_0 a1_1 a1_2).bind fun t789 => (if t789 = true then (if 0 ≤ a1_0 then (if a1_0 ≤ (wrap64 (a1_0 + a1_2)) then (if (wrap64 (a1_0 + a1_2)) ≤ (l0.length : Int) then ((spec_LeastConjugate.f k ((l0.take ((wrap64 (a1_0 + a1_2)) : Int).toNat).drop (a1_0 : Int).toNat)).bind fun t791 => (some (t791, true))) else (none)) else (none)) else (none)) else (some ((([] : List Int)), false)))) = some (r1, r2) := h
 clear h
 obtain ⟨t789, A3, H⟩ := G.bx H
 by_cases c4 : t789 = true
 ·subst c4
  rw [if_pos rfl] at H
  by_cases c5 : 0 ≤ a1_0
  ·rw [if_pos c5] at H
   have c5b0 := eq_true c5
   have c5b1 : decide (0 ≤ a1_0) = true := decide_eq_true c5
   clear c5
   by_cases c6 : a1_0 ≤ (wrap64 (a1_0 + a1_2))
   ·rw [if_pos c6] at H
    have c6b0 := eq_true c6
    have c6b1 : decide (a1_0 ≤ (wrap64 (a1_0 + a1_2))) = true := decide_eq_true c6
    by_cases c7 : (wrap64 (a1_0 + a1_2)) ≤ (l0.length : Int)
    ·rw [if_pos c7] at H
     have c7b0 := eq_true c7
     have c7b1 : decide ((wrap64 (a1_0 + a1_2)) ≤ (l0.length : Int)) = true := decide_eq_true c7
     obtain ⟨t791, A8, H⟩ := G.bx H
     simp only [Option.some.injEq, Prod.mk.injEq] at H
     obtain ⟨rfl, rfl⟩ := H
     go_enter Tryz.func18, Tryz.ntmps18
     go_wp2_with (first | ((with_reducible refine gate_dst (N := 3) rfl ?_); refine box_event ?hg (N := 3) ?hd (cs := #[.int .i64 a1_0, .int .i64 a1_1, .int .i64 a1_2]) (t := 32) ?hr ?_; (case hd => rfl); (case hg => rfl); (case hr => first | (go_simp; done) | (go_simp; rfl)); intro gb788 hg w9 hbox hb; have n0_ := G.a (below_step G.bel hb); have n1_ := G.a (hbox); have n2_ := G.a ((by rw [hg]; exact (below_size G.bel) : w.heap.size ≤ gb788)); have n3_ := G.a ((by rw [hg]; exact (below_size G.bel) : w.heap.size ≤ gb788)); clear HB; have HB := n0_; have BK788 := n1_; have GW788 := n2_; have GE788 := n3_; clear n0_ n1_ n2_ n3_; clear hb hbox hg; have hcz10_0 : w9.cell? ⟨gb788, 0, none⟩ = some (.int .i64 a1_0) := (blk_cell BK788.out 0).trans rfl; have hcz10_1 : w9.cell? ⟨gb788, 1, none⟩ = some (.int .i64 a1_1) := (blk_cell BK788.out 1).trans rfl; have hcz10_2 : w9.cell? ⟨gb788, 2, none⟩ = some (.int .i64 a1_2) := (blk_cell BK788.out 2).trans rfl; have hfz10_0 := blk_frozen BK788.out 0; have hfz10_1 := blk_frozen BK788.out 1; have hfz10_2 := blk_frozen BK788.out 2) | ((with_reducible refine gate_callee (f := 20) rfl ?_); refine goesL_ (some 8) rfl rfl Tryz.func20 (by kernel_rfl) rfl #[.slice A0 l0.length c0, .agg #[.int .i64 a1_0, .int .i64 a1_1, .int .i64 a1_2]] rfl G.ar ?_; (with_reducible refine (spec_IsRun.calls k _ _ l0 a1_0 a1_1 a1_2 true _ ?side1 ?side2 A3.out).mono ?_); (case side1 => exact G.kC (Kd.C_below HR0.out HB.out)); (case side2 => exact HC0.out); rintro e w11 ⟨rfl, hb⟩; refine ⟨_, rfl, ?_⟩; have n0_ := G.a (blk_below (g := gb788) (o := .cells #[.int .i64 a1_0, .int .i64 a1_1, .int .i64 a1_2] 32 (0, 0)) (G.kB BK788.out) hb); have n1_ := G.a (below_step (G.bes GE788.out) hb); clear BK788; clear HB; have BK788 := n0_; have HB := n1_; clear n0_ n1_; (try clear hb); (try clear hb2); (try clear hk); (try clear hi); have hcz12_0 : w11.cell? ⟨gb788, 0, none⟩ = some (.int .i64 a1_0) := (blk_cell BK788.out 0).trans rfl; have hcz12_1 : w11.cell? ⟨gb788, 1, none⟩ = some (.int .i64 a1_1) := (blk_cell BK788.out 1).trans rfl; have hcz12_2 : w11.cell? ⟨gb788, 2, none⟩ = some (.int .i64 a1_2) := (blk_cell BK788.out 2).trans rfl; have hfz12_0 := blk_frozen BK788.out 0; have hfz12_1 := blk_frozen BK788.out 1; have hfz12_2 := blk_frozen BK788.out 2; obtain ⟨i013, hi013, _, hsz13, _⟩ := info_parts info3; obtain ⟨A13, hcut13, hA13, hC13⟩ := print_mid_of (P := Tryz.prog) (Value.int .i64) 0 24 3 .i64 .i64 Tryz.underlying24 hi013 hsz13 A0 c0 l0 a1_0 (wrap64 (a1_0 + a1_2)) G.odt (by first | omega | exact G.odt) G.odt HC0.out; have HR790 := G.a (Kd.C_of_reads (h1 := fun _ => rfl) (hA13 _ (Kd.reads_of_C HR0.out))); have HC790 := G.a hC13; clear hA13 hC13 hi013 hsz13) | ((with_reducible refine gate_callee (f := 36) rfl ?_); refine goesL_ (some 20) rfl rfl Tryz.func36 (by kernel_rfl) rfl #[.slice A13 ((l0.take ((wrap64 (a1_0 + a1_2)) : Int).toNat).drop (a1_0 : Int).toNat).length (c0 - a1_0.toNat)] rfl (by (try simp only [List.map_toArray, List.map_cons, List.map_nil]); first | done | (rw [show ((l0.take ((wrap64 (a1_0 + a1_2)) : Int).toNat).drop (a1_0 : Int).toNat).length = ((wrap64 (a1_0 + a1_2)).toNat - a1_0.toNat) from (by rw [List.length_drop, List.length_take]; have h_ : ((wrap64 (a1_0 + a1_2)) : Int) ≤ (l0.length : Int) := G.odt; omega)] <;> rfl) | rfl | (simp only [List.length_drop, List.length_take]; rfl)) ?_; (with_reducible refine (spec_LeastConjugate.calls k _ _ ((l0.take ((wrap64 (a1_0 + a1_2)) : Int).toNat).drop (a1_0 : Int).toNat) t791 _ ?side1 ?side2 A8.out).mono ?_); (case side1 => exact G.kC (Kd.C_below HR790.out HB.out)); (case side2 => exact HC790.out); rintro e w14 ⟨v792, rfl, ho0, hb⟩; refine ⟨_, rfl, ?_⟩; have n0_ := G.a (Kd.V_lower (Kd.V_mono (ok' := fun k_ => (w.heap.size ≤ k_) ∧ k_ ≠ gb788) ho0 (fun k_ hk_ => ⟨(Nat.le_trans (below_size (G.bes GE788.out)) hk_), (Kd.freshB (g := gb788) (o := .cells #[.int .i64 a1_0, .int .i64 a1_1, .int .i64 a1_2] 32 (0, 0)) (G.kB BK788.out) k_ hk_)⟩)) (below_size (G.bes GE788.out))); have n1_ := G.a (blk_below (g := gb788) (o := .cells #[.int .i64 a1_0, .int .i64 a1_1, .int .i64 a1_2] 32 (0, 0)) (G.kB BK788.out) hb); have n2_ := G.a (below_step (G.bes GE788.out) hb); clear BK788; clear HB; have HO793 := n0_; have BK788 := n1_; have HB := n2_; clear n0_ n1_ n2_; (try clear hb); (try clear hb2); (try clear hk); (try clear hi); (try clear ho0)))
     go_ret2
     exact ⟨_, G.er, by (with_reducible repeat (first | apply Kd.V_alloc | apply Kd.V_drewN | apply Kd.V_drew)); exact Kd.V_mono HO793.out (fun _ hk => hk.1), G.bes GE788.out⟩
    ·rw [if_neg c7] at H
     exact absurd H (by simp)
   ·rw [if_neg c6] at H
    exact absurd H (by simp)
  ·rw [if_neg c5] at H
   exact absurd H (by simp)
 ·replace c4 := Bool.eq_false_iff.mpr c4
  subst c4
  rw [if_neg (show ¬ (false = true) by decide)] at H
  obtain ⟨y794, hy794⟩ : ∃ y_ : List Int, y_ = (([] : List Int)) := ⟨_, rfl⟩
  replace H : (some (y794, false)) = some (r1, r2) := by first | (rw [hy794]; with_reducible exact H) | (have H2_ := (Option.bind_some _ _).symm.trans H; rw [hy794]; with_reducible exact H2_) | (have H2_ := (Option.bind_some _ _).symm.trans H; with_reducible exact H2_) | with_reducible exact H | (rw [hy794]; exact H) | exact H
  have Ny794 := G.a hy794
  clear hy794
  simp only [Option.some.injEq, Prod.mk.injEq] at H
  obtain ⟨rfl, rfl⟩ := H
  go_enter Tryz.func18, Tryz.ntmps18
  go_wp2_with (first | ((with_reducible refine gate_dst (N := 3) rfl ?_); refine box_event ?hg (N := 3) ?hd (cs := #[.int .i64 a1_0, .int .i64 a1_1, .int .i64 a1_2]) (t := 32) ?hr ?_; (case hd => rfl); (case hg => rfl); (case hr => first | (go_simp; done) | (go_simp; rfl)); intro gb788 hg w15 hbox hb; have n0_ := G.a (below_step G.bel hb); have n1_ := G.a (hbox); have n2_ := G.a ((by rw [hg]; exact (below_size G.bel) : w.heap.size ≤ gb788)); have n3_ := G.a ((by rw [hg]; exact (below_size G.bel) : w.heap.size ≤ gb788)); clear HB; have HB := n0_; have BK788 := n1_; have GW788 := n2_; have GE788 := n3_; clear n0_ n1_ n2_ n3_; clear hb hbox hg; have hcz16_0 : w15.cell? ⟨gb788, 0, none⟩ = some (.int .i64 a1_0) := (blk_cell BK788.out 0).trans rfl; have hcz16_1 : w15.cell? ⟨gb788, 1, none⟩ = some (.int .i64 a1_1) := (blk_cell BK788.out 1).trans rfl; have hcz16_2 : w15.cell? ⟨gb788, 2, none⟩ = some (.int .i64 a1_2) := (blk_cell BK788.out 2).trans rfl; have hfz16_0 := blk_frozen BK788.out 0; have hfz16_1 := blk_frozen BK788.out 1; have hfz16_2 := blk_frozen BK788.out 2) | ((with_reducible refine gate_callee (f := 20) rfl ?_); refine goesL_ (some 8) rfl rfl Tryz.func20 (by kernel_rfl) rfl #[.slice A0 l0.length c0, .agg #[.int .i64 a1_0, .int .i64 a1_1, .int .i64 a1_2]] rfl G.ar ?_; (with_reducible refine (spec_IsRun.calls k _ _ l0 a1_0 a1_1 a1_2 false _ ?side1 ?side2 A3.out).mono ?_); (case side1 => exact G.kC (Kd.C_below HR0.out HB.out)); (case side2 => exact HC0.out); rintro e w17 ⟨rfl, hb⟩; refine ⟨_, rfl, ?_⟩; have n0_ := G.a (blk_below (g := gb788) (o := .cells #[.int .i64 a1_0, .int .i64 a1_1, .int .i64 a1_2] 32 (0, 0)) (G.kB BK788.out) hb); have n1_ := G.a (below_step (G.bes GE788.out) hb); clear BK788; clear HB; have BK788 := n0_; have HB := n1_; clear n0_ n1_; (try clear hb); (try clear hb2); (try clear hk); (try clear hi)) | ((with_reducible refine gate_dst (N := 10) rfl ?_); refine Kd.R_lit (Kd.int .i64) _ 3 ?hg (N := 10) ?hd (xs := ([] : List Int)) (inner := []) (ok := fun _ => True) (okp := fun _ => True) ?hr ?hp (fun _ hk => hk) trivial (Below.refl _ _) (Nat.le_refl _) (by simp) ?_; (case hd => rfl); (case hg => rfl); (case hr => first | (go_simp; done) | (go_simp; rfl)); (case hp => exact (Reps.none _ _)); intro v795 w18 ho19 hb hg_ hnew_; clear hg_ hnew_; (first | rw [← Ny794.out] at ho19 | (simp only [Int.reduceToNat] at ho19; rw [← Ny794.out] at ho19)); have n0_ := G.a (Kd.R_lower (Kd.R_newM (M := fun k_ => (w.heap.size ≤ k_)) ho19 (below_size (G.bes GE788.out)) (fun k_ h_ => h_)) (below_size (G.bes GE788.out))); have n1_ := G.a (blk_below (g := gb788) (o := .cells #[.int .i64 a1_0, .int .i64 a1_1, .int .i64 a1_2] 32 (0, 0)) (G.kB BK788.out) hb); have n2_ := G.a (below_step (G.bes GE788.out) hb); clear BK788; clear HB; have HO796 := n0_; have BK788 := n1_; have HB := n2_; clear n0_ n1_ n2_; clear hb ho19))
  go_ret2
  exact ⟨_, G.er, Kd.R_V (by (with_reducible repeat (first | apply Kd.R_alloc | apply Kd.R_drewN | apply Kd.R_drew)); exact Kd.R_mono HO796.out (fun _ hk => hk.1)), G.bes GE788.out⟩
end Go.Proofs.YtolikggioekalabGreat.PFnRuns
