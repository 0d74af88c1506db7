/- The Go functions that the law FnRuns reaches (part 12): each as a Lean function, and that its code comes to these answers. No condition beyond those written. -/
import Derived.Test.YtolikggioekalabGreatVMFnRunsx11
namespace Go.Proofs.YtolikggioekalabGreat.PFnRuns
open Go.RowKit Go.Proofs.YtolikggioekalabGreatW.PrintWords Go.Proofs.YtolikggioekalabGreatW.PrintLast Go.Proofs.YtolikggioekalabGreatW.PrintMore
attribute [local go_sem] max2_int min2_int max_two min_two max_three min_three max_four min_four
set_option maxHeartbeats 8000000
set_option maxRecDepth 100000
set_option linter.unusedVariables false
set_option linter.unusedSimpArgs false
def spec_BordersOf.l0 : Nat → List Int → List Int → Int → Option (List Int)
 | 0, _, _, _ => none
 | k + 1, x3, x4, x5 => if x5 > 0 then (if 0 ≤ (wrap64 (x5 - 1)) then (if (wrap64 (x5 - 1)) < (x4.length : Int) then ((some (([rd x4 (wrap64 (x5 - 1))] : List Int) : List Int)).bind fun y540 => (if y540.length + x3.length < 17592186044416 then (spec_BordersOf.l0 k (y540 ++ x3) x4 (rd x4 (wrap64 (x5 - 1)))) else (none))) else (none)) else (none)) else (some x3)
def spec_BordersOf.f (k : Nat) (l0 : List Int) : Option (List Int) := (spec_l9Borders.f k l0).bind fun t536 => (spec_BordersOf.l0 k (([] : List Int)) t536 (l0.length : Int))
theorem spec_BordersOf.calls (k : Nat) (A0 : Option Addr) (c0 : Nat) (l0 : List Int) (r : List Int) (w : World) (hr0 : Kd.C (Kd.int .i64) w A0 l0.length l0) (hc0 : l0.length ≤ c0) (h : spec_BordersOf.f k l0 = some r) :
  Calls Tryz.prog 64 #[.slice A0 l0.length c0] w fun e w' => ∃ v0_ : Value, e = .returned (v0_) ∧ Kd.R (Kd.int .i64) 3 w' w.heap.size (fun _ => True) v0_ r ∧ Below w.heap.size w w' := by
 have HR0 := G.a hr0
 have HC0 := G.a hc0
 clear hr0 hc0
 have HB := G.a (Below.refl w.heap.size w)
 have H : ((spec_l9Borders.f k l0).bind fun t536 => (spec_BordersOf.l0 k (([] : List Int)) t536 (l0.length : Int))) = some r := h
 clear h
 obtain ⟨y533, hy533⟩ : ∃ y_ : List Int, y_ = (([] : List Int)) := ⟨_, rfl⟩
 replace H : ((spec_l9Borders.f k l0).bind fun t536 => (spec_BordersOf.l0 k y533 t536 (l0.length : Int))) = some r := by first | (rw [hy533]; with_reducible exact H) | (have H2_ := (Option.bind_some _ _).symm.trans H; rw [hy533]; with_reducible exact H2_) | (have H2_ := (Option.bind_some _ _).symm.trans H; with_reducible exact H2_) | with_reducible exact H | (rw [hy533]; exact H) | exact H
 have Ny533 := G.a hy533
 clear hy533
 obtain ⟨t536, A2, H⟩ := G.bx H
 have H' := G.a H
 clear H
 go_enter Tryz.func64, Tryz.ntmps64
 go_wp2_with (first | ((with_reducible refine gate_dst (N := 6) rfl ?_); refine Kd.R_lit (Kd.int .i64) _ 3 ?hg (N := 6) ?hd (xs := ([] : List Int)) (inner := []) (ok := fun _ => True) (okp := fun _ => True) ?hr ?hp (fun _ hk => hk) trivial (Below.refl _ _) (Nat.le_refl _) (by simp) ?_; (case hd => rfl); (case hg => rfl); (case hr => first | (go_simp; done) | (go_simp; rfl)); (case hp => exact (Reps.none _ _)); intro v534 w3 ho4 hb hg_ hnew_; clear hg_ hnew_; (first | rw [← Ny533.out] at ho4 | (simp only [Int.reduceToNat] at ho4; rw [← Ny533.out] at ho4)); have n0_ := G.a (Kd.R_lower ho4 (below_size G.bel)); have n1_ := G.a (below_step G.bel hb); clear HB; have HO535 := n0_; have HB := n1_; clear n0_ n1_; clear hb ho4) | ((with_reducible refine gate_callee (f := 81) rfl ?_); refine goesL_ (some 8) rfl rfl Tryz.func81 (by kernel_rfl) rfl #[.slice A0 l0.length c0] rfl G.ar ?_; (with_reducible refine (spec_l9Borders.calls k _ _ l0 t536 _ ?side1 ?side2 A2.out).mono ?_); (case side1 => exact G.kC (Kd.C_below HR0.out HB.out)); (case side2 => exact HC0.out); rintro e w5 ⟨v537, rfl, ho0, hb⟩; refine ⟨_, rfl, ?_⟩; have n0_ := G.a (Kd.R_elder' (G.kR HO535.out) (Kd.R_base ho0) hb); have n1_ := G.a (Kd.R_lower (Kd.R_new' ho0 (Kd.R_lt (G.kR HO535.out))) (below_size G.bel)); have n2_ := G.a (below_step G.bel hb); clear HO535; clear HB; have HO535 := n0_; have HO538 := n1_; have HB := n2_; clear n0_ n1_ n2_; (try clear hb); (try clear hb2); (try clear hk); (try clear hi); (try clear ho0)))
 go_loopg [3, 5] k (fun kq v3 v5 w' => ∃ (x3_1 : List Int) (x5_1 : Int), v5 = .int .i64 x5_1 ∧ Aside0 (spec_BordersOf.l0 kq x3_1 t536 x5_1 = some r) ∧ Aside0 (kq ≤ k) ∧ Aside0 (Kd.R (Kd.int .i64) 3 w' w.heap.size (fun k_ => some k_ ≠ (v537 : Value).ownBlock) v3 x3_1) ∧ Aside0 (Kd.R (Kd.int .i64) 3 w' w.heap.size (fun k_ => some k_ ≠ (v3 : Value).ownBlock) v537 t536) ∧ Aside0 (Below w.heap.size w w'))
 case atStart => exact ⟨(y533), ((l0.length : Int)), G.tr, H', ⟨Nat.le_refl _⟩, ⟨by (with_reducible repeat (first | apply Kd.R_alloc | apply Kd.R_drewN | apply Kd.R_drew)); exact Kd.R_mono HO535.out (fun _ hk => hk.2)⟩, ⟨by (with_reducible repeat (first | apply Kd.R_alloc | apply Kd.R_drewN | apply Kd.R_drew)); exact Kd.R_mono HO538.out (fun _ hk => hk.2)⟩, ⟨G.bel⟩⟩
 case round =>
  clear H'
  try clear p2
  obtain ⟨x3_1, x5_1, rfl, HA, HK1, HO_3, HO_4, HB⟩ := hrel
  cases gk with
  | zero => exact absurd HA.out (by simp [spec_BordersOf.l0])
  | succ k1 =>
   have H := HA.out
   clear HA
   simp only [spec_BordersOf.l0] at H
   by_cases c6 : x5_1 > 0
   ·rw [if_pos c6] at H
    have c6b0 : decide (0 < x5_1) = true := decide_eq_true c6
    clear c6
    obtain ⟨ji7, hji7⟩ : ∃ j_ : Int, (wrap64 (x5_1 - 1)) = j_ := ⟨_, rfl⟩
    replace H : (if 0 ≤ (ji7) then (if (ji7) < (t536.length : Int) then ((some (([rd t536 (ji7)] : List Int) : List Int)).bind fun y540 => (if y540.length + x3_1.length < 17592186044416 then (spec_BordersOf.l0 k1 (y540 ++ x3_1) t536 (rd t536 (ji7))) else (none))) else (none)) else (none)) = some r := by first | (rw [hji7] at H; exact H) | (simp only [hji7] at H ⊢; exact H)
    have hji7w : (IntKind.i64.wrap (x5_1 - 1)) = ji7 := (i64_w _).trans hji7
    by_cases c8 : 0 ≤ (ji7)
    ·rw [if_pos c8] at H
     have c8b0 : decide (0 ≤ (ji7)) = true := decide_eq_true c8
     clear c8
     by_cases c9 : (ji7) < (t536.length : Int)
     ·rw [if_pos c9] at H
      have c9b0 : decide ((ji7) < (t536.length : Int)) = true := decide_eq_true c9
      clear c9
      obtain ⟨y540, hy540⟩ : ∃ y_ : List Int, y_ = (([rd t536 (ji7)] : List Int)) := ⟨_, rfl⟩
      replace H : (if y540.length + x3_1.length < 17592186044416 then (spec_BordersOf.l0 k1 (y540 ++ x3_1) t536 (rd t536 (ji7))) else (none)) = some r := by first | (rw [hy540]; with_reducible exact H) | (have H2_ := (Option.bind_some _ _).symm.trans H; rw [hy540]; with_reducible exact H2_) | (have H2_ := (Option.bind_some _ _).symm.trans H; with_reducible exact H2_) | with_reducible exact H | (rw [hy540]; exact H) | exact H
      have Ny540 := G.a hy540
      clear hy540
      by_cases c10 : y540.length + x3_1.length < 17592186044416
      ·rw [if_pos c10] at H
       have LMc10 := G.a c10
       clear c10
       obtain ⟨y543, hy543⟩ : ∃ y_ : List Int, y_ = (y540 ++ x3_1) := ⟨_, rfl⟩
       replace H : (spec_BordersOf.l0 k1 y543 t536 (rd t536 (ji7))) = some r := by first | (rw [hy543]; with_reducible exact H) | (have H2_ := (Option.bind_some _ _).symm.trans H; rw [hy543]; with_reducible exact H2_) | (have H2_ := (Option.bind_some _ _).symm.trans H; with_reducible exact H2_) | with_reducible exact H | (rw [hy543]; exact H) | exact H
       have Ny543 := G.a hy543
       clear hy543
       have H' := G.a H
       clear H
       obtain ⟨Ao11, co11, eo11⟩ := Kd.R_slice HO_4.out
       subst eo11
       have p539 : 0 ≤ ((ji7) : Int) := G.odt
       have q539 : (ji7) < (t536.length : Int) := G.odt
       obtain ⟨ad539, e539, hx539_0⟩ := Kd.at_int (Kd.R_reads' HO_4.out).2.2 (ji7) p539 q539
       cases e539
       replace p539 := eq_true p539
       replace q539 := eq_true q539
       go_wp2_with (first | ((with_reducible refine gate_dst (N := 19) rfl ?_); refine Kd.R_lit (Kd.int .i64) _ 3 ?hg (N := 19) ?hd (xs := ([rd t536 (ji7)] : List Int)) (inner := [.int .i64 (rd t536 (ji7))]) (ok := fun _ => True) (okp := fun _ => True) ?hr ?hp (fun _ hk => hk) trivial (Below.refl _ _) (Nat.le_refl _) (by simp) ?_; (case hd => rfl); (case hg => rfl); (case hr => first | (go_simp; done) | (go_simp; rfl)); (case hp => exact (Reps.one (show Kd.M (Kd.int .i64) _ _ _ (rd t536 (ji7)) [.int .i64 (rd t536 (ji7))] from rfl) (Reps.none _ _))); intro v541 w12 ho13 hb hg_ hnew_; clear hg_ hnew_; (first | rw [← Ny540.out] at ho13 | (simp only [Int.reduceToNat] at ho13; rw [← Ny540.out] at ho13)); have n0_ := G.a (Kd.R_elder' (G.kR HO_3.out) (Kd.R_base ho13) hb); have n1_ := G.a (Kd.R_elder' (G.kR HO_4.out) (Kd.R_base ho13) hb); have n2_ := G.a (Kd.R_lower (Kd.R_new' (Kd.R_new' ho13 (Kd.R_lt (G.kR HO_3.out))) (Kd.R_lt (G.kR HO_4.out))) (below_size G.bel)); have n3_ := G.a (below_step G.bel hb); clear HO_3; clear HO_4; clear HB; have HO_3 := n0_; have HO_4 := n1_; have HO542 := n2_; have HB := n3_; clear n0_ n1_ n2_ n3_; clear hb ho13; obtain ⟨Ao15, co15, eo15⟩ := Kd.R_slice HO_3.out; subst eo15) | ((with_reducible refine gate_builtin (b := .append) (xs := #[.tmp 19, .tmp 20]) rfl ?_); at_builtin; refine Kd.R_append_rows (Kd.int .i64) (w0 := w) w.heap.size rfl (.tmp 19) (.tmp 20) 24 3 (.int .i64 0) 8 rfl Tryz.underlying24 info3 rfl (by decide) (by omega) v541 y540 x3_1 _ _ _ (fun k_ => some k_ ≠ (.slice Ao15 x3_1.length co15 : Value).ownBlock ∧ some k_ ≠ (.slice (some ad539) t536.length co11 : Value).ownBlock) (fun _ => False) rfl rfl ?aO ?aR (fun _ _ h => h) (fun _ h => h.elim) ?aF ?aB ?aS ?aL ?_; (case aR => repeat (first | exact (Kd.R_reads' HO_3.out).2.2 | (with_reducible refine Kd.C_alloc ?_ _) | (with_reducible refine Kd.C_drewN ?_ _) | (with_reducible refine Kd.C_drew ?_))); (case aB => exact G.bel); (case aF => exact (fun k_ hk => ⟨Kd.fresh' (Kd.R_lt (G.kR HO_3.out)) k_ hk, Kd.fresh' (Kd.R_lt (G.kR HO_4.out)) k_ hk⟩)); (case aO => exact (by (with_reducible repeat (first | apply Kd.R_alloc | apply Kd.R_drewN | apply Kd.R_drew)); exact Kd.R_mono HO542.out (fun _ hk => ⟨hk.1.2, hk.2⟩))); (case aS => exact (below_size G.bel)); (case aL => have := LMc10.out; omega); intro v544 w14 ho hb hg hat; rw [← Ny543.out] at ho; have n0_ := G.a (Kd.R_after (ok := (fun k_ => some k_ ≠ (.slice (some ad539) t536.length co11 : Value).ownBlock)) (G.kR HO_3.out) hg hat); have n1_ := G.a (Kd.R_after (ok := (fun k_ => some k_ ≠ (.slice Ao15 x3_1.length co15 : Value).ownBlock)) (G.kR HO_4.out) hg hat); have n2_ := G.a (hb); have n3_ := G.a (ho); clear HO_3; clear HO_4; clear HB; clear HO542; have HO_3 := n0_; have HO_4 := n1_; have HB := n2_; have HO545 := n3_; clear n0_ n1_ n2_ n3_; clear ho hb hg hat))
       go_roundg k1
       case measure => have := HK1.out; omega
       case rel => exact ⟨(y543), (rd t536 (ji7)), (by first | rfl | (simp; done) | (simp only [← hji7] <;> (first | rfl | simp)) | (simp [*]; done)), H', ⟨by have := HK1.out; omega⟩, ⟨by (with_reducible repeat (first | apply Kd.R_alloc | apply Kd.R_drewN | apply Kd.R_drew)); exact Kd.R_mono HO545.out (fun _ hk => hk.2)⟩, ⟨by (with_reducible repeat (first | apply Kd.R_alloc | apply Kd.R_drewN | apply Kd.R_drew)); exact Kd.R_mono HO_4.out (fun _ hk => hk.2)⟩, ⟨G.bel⟩⟩
      ·rw [if_neg c10] at H
       exact absurd H (by simp)
     ·rw [if_neg c9] at H
      exact absurd H (by simp)
    ·rw [if_neg c8] at H
     exact absurd H (by simp)
   ·rw [if_neg c6] at H
    have c6b0 : decide (0 < x5_1) = false := decide_eq_false c6
    clear c6
    obtain rfl := Option.some.inj H
    go_wp2
    go_ret
    exact ⟨_, G.er, by (with_reducible repeat (first | apply Kd.R_alloc | apply Kd.R_drewN | apply Kd.R_drew)); exact Kd.R_mono HO_3.out (fun _ hk => trivial), G.bel⟩
def spec_PeriodsOf.l0 : Nat → List Int → List Int → List Int → Int → Option (List Int)
 | 0, _, _, _, _ => none
 | k + 1, x0, x3, x4, x5 => if x5 ≥ 0 then (if 0 ≤ x5 then (if x5 < (x4.length : Int) then (if x3.length < 17592186044416 then (spec_PeriodsOf.l0 k x0 (x3 ++ [wrap64 ((x0.length : Int) - (rd x4 x5))]) x4 (wrap64 (x5 - 1))) else (none)) else (none)) else (none)) else (some x3)
def spec_PeriodsOf.f (k : Nat) (l0 : List Int) : Option (List Int) := (spec_BordersOf.f k l0).bind fun t549 => (spec_PeriodsOf.l0 k l0 (([] : List Int)) t549 (wrap64 ((t549.length : Int) - 1)))
theorem spec_PeriodsOf.calls (k : Nat) (A0 : Option Addr) (c0 : Nat) (l0 : List Int) (r : List Int) (w : World) (hr0 : Kd.C (Kd.int .i64) w A0 l0.length l0) (hc0 : l0.length ≤ c0) (h : spec_PeriodsOf.f k l0 = some r) :
  Calls Tryz.prog 44 #[.slice A0 l0.length c0] w fun e w' => ∃ v0_ : Value, e = .returned (v0_) ∧ Kd.R (Kd.int .i64) 3 w' w.heap.size (fun _ => True) v0_ r ∧ Below w.heap.size w w' := by
 have HR0 := G.a hr0
 have HC0 := G.a hc0
 clear hr0 hc0
 have HB := G.a (Below.refl w.heap.size w)
 have H : ((spec_BordersOf.f k l0).bind fun t549 => (spec_PeriodsOf.l0 k l0 (([] : List Int)) t549 (wrap64 ((t549.length : Int) - 1)))) = some r := h
 clear h
 obtain ⟨y546, hy546⟩ : ∃ y_ : List Int, y_ = (([] : List Int)) := ⟨_, rfl⟩
 replace H : ((spec_BordersOf.f k l0).bind fun t549 => (spec_PeriodsOf.l0 k l0 y546 t549 (wrap64 ((t549.length : Int) - 1)))) = some r := by first | (rw [hy546]; with_reducible exact H) | (have H2_ := (Option.bind_some _ _).symm.trans H; rw [hy546]; with_reducible exact H2_) | (have H2_ := (Option.bind_some _ _).symm.trans H; with_reducible exact H2_) | with_reducible exact H | (rw [hy546]; exact H) | exact H
 have Ny546 := G.a hy546
 clear hy546
 obtain ⟨t549, A2, H⟩ := G.bx H
 have H' := G.a H
 clear H
 go_enter Tryz.func44, Tryz.ntmps44
 go_wp2_with (first | ((with_reducible refine gate_dst (N := 6) rfl ?_); refine Kd.R_lit (Kd.int .i64) _ 3 ?hg (N := 6) ?hd (xs := ([] : List Int)) (inner := []) (ok := fun _ => True) (okp := fun _ => True) ?hr ?hp (fun _ hk => hk) trivial (Below.refl _ _) (Nat.le_refl _) (by simp) ?_; (case hd => rfl); (case hg => rfl); (case hr => first | (go_simp; done) | (go_simp; rfl)); (case hp => exact (Reps.none _ _)); intro v547 w3 ho4 hb hg_ hnew_; clear hg_ hnew_; (first | rw [← Ny546.out] at ho4 | (simp only [Int.reduceToNat] at ho4; rw [← Ny546.out] at ho4)); have n0_ := G.a (Kd.R_lower ho4 (below_size G.bel)); have n1_ := G.a (below_step G.bel hb); clear HB; have HO548 := n0_; have HB := n1_; clear n0_ n1_; clear hb ho4) | ((with_reducible refine gate_callee (f := 64) rfl ?_); refine goesL_ (some 8) rfl rfl Tryz.func64 (by kernel_rfl) rfl #[.slice A0 l0.length c0] rfl G.ar ?_; (with_reducible refine (spec_BordersOf.calls k _ _ l0 t549 _ ?side1 ?side2 A2.out).mono ?_); (case side1 => exact G.kC (Kd.C_below HR0.out HB.out)); (case side2 => exact HC0.out); rintro e w5 ⟨v550, rfl, ho0, hb⟩; refine ⟨_, rfl, ?_⟩; have n0_ := G.a (Kd.R_elder' (G.kR HO548.out) (Kd.R_base ho0) hb); have n1_ := G.a (Kd.R_lower (Kd.R_new' ho0 (Kd.R_lt (G.kR HO548.out))) (below_size G.bel)); have n2_ := G.a (below_step G.bel hb); clear HO548; clear HB; have HO548 := n0_; have HO551 := n1_; have HB := n2_; clear n0_ n1_ n2_; (try clear hb); (try clear hb2); (try clear hk); (try clear hi); (try clear ho0); obtain ⟨Ao6, co6, eo6⟩ := Kd.R_slice HO551.out; subst eo6))
 go_loopg [3, 5] k (fun kq v3 v5 w' => ∃ (x3_1 : List Int) (x5_1 : Int), v5 = .int .i64 x5_1 ∧ Aside0 (spec_PeriodsOf.l0 kq l0 x3_1 t549 x5_1 = some r) ∧ Aside0 (kq ≤ k) ∧ Aside0 (Kd.R (Kd.int .i64) 3 w' w.heap.size (fun k_ => some k_ ≠ ((.slice Ao6 t549.length co6) : Value).ownBlock) v3 x3_1) ∧ Aside0 (Kd.R (Kd.int .i64) 3 w' w.heap.size (fun k_ => some k_ ≠ (v3 : Value).ownBlock) (.slice Ao6 t549.length co6) t549) ∧ Aside0 (Below w.heap.size w w'))
 case atStart => exact ⟨(y546), (wrap64 ((t549.length : Int) - 1)), G.tr, H', ⟨Nat.le_refl _⟩, ⟨by (with_reducible repeat (first | apply Kd.R_alloc | apply Kd.R_drewN | apply Kd.R_drew)); exact Kd.R_mono HO548.out (fun _ hk => hk.2)⟩, ⟨by (with_reducible repeat (first | apply Kd.R_alloc | apply Kd.R_drewN | apply Kd.R_drew)); exact Kd.R_mono HO551.out (fun _ hk => hk.2)⟩, ⟨G.bel⟩⟩
 case round =>
  clear H'
  try clear p2; try clear c4; try clear c6; try clear p6
  obtain ⟨x3_1, x5_1, rfl, HA, HK1, HO_3, HO_4, HB⟩ := hrel
  cases gk with
  | zero => exact absurd HA.out (by simp [spec_PeriodsOf.l0])
  | succ k1 =>
   have H := HA.out
   clear HA
   simp only [spec_PeriodsOf.l0] at H
   by_cases c7 : x5_1 ≥ 0
   ·rw [if_pos c7] at H
    have c7b0 : decide (0 ≤ x5_1) = true := decide_eq_true c7
    clear c7
    by_cases c8 : 0 ≤ x5_1
    ·rw [if_pos c8] at H
     have c8b0 : decide (0 ≤ x5_1) = true := decide_eq_true c8
     clear c8
     by_cases c9 : x5_1 < (t549.length : Int)
     ·rw [if_pos c9] at H
      have c9b0 : decide (x5_1 < (t549.length : Int)) = true := decide_eq_true c9
      clear c9
      by_cases c10 : x3_1.length < 17592186044416
      ·rw [if_pos c10] at H
       have LMc10 := G.a c10
       clear c10
       obtain ⟨y553, hy553⟩ : ∃ y_ : List Int, y_ = (x3_1 ++ [wrap64 ((l0.length : Int) - (rd t549 x5_1))]) := ⟨_, rfl⟩
       replace H : (spec_PeriodsOf.l0 k1 l0 y553 t549 (wrap64 (x5_1 - 1))) = some r := by first | (rw [hy553]; with_reducible exact H) | (have H2_ := (Option.bind_some _ _).symm.trans H; rw [hy553]; with_reducible exact H2_) | (have H2_ := (Option.bind_some _ _).symm.trans H; with_reducible exact H2_) | with_reducible exact H | (rw [hy553]; exact H) | exact H
       have Ny553 := G.a hy553
       clear hy553
       have H' := G.a H
       clear H
       have p552 : 0 ≤ (x5_1 : Int) := G.odt
       have q552 : x5_1 < (t549.length : Int) := G.odt
       obtain ⟨ad552, e552, hx552_0⟩ := Kd.at_int (Kd.R_reads' HO_4.out).2.2 x5_1 p552 q552
       cases e552
       replace p552 := eq_true p552
       replace q552 := eq_true q552
       go_wp2_with (first | ((with_reducible refine gate_builtin (b := .append) (xs := #[.tmp 16, .tmp 24]) rfl ?_); at_builtin; refine Kd.R_append (Kd.int .i64) (w0 := w) w.heap.size rfl (.tmp 16) (.tmp 24) 24 3 (.int .i64 0) 8 rfl Tryz.underlying24 info3 rfl (by decide) (by omega) u3 x3_1 (wrap64 ((l0.length : Int) - (rd t549 x5_1))) [.int .i64 (wrap64 ((l0.length : Int) - (rd t549 x5_1)))] (fun k_ => some k_ ≠ (.slice (some ad552) t549.length co6 : Value).ownBlock) (fun _ => False) rfl rfl ?aP (fun _ hk => hk.elim) ?aF ?aO ?aB ?aS ?aL ?_; (case aP => exact rfl); (case aB => exact G.bel); (case aF => exact (fun k_ hk => Kd.fresh' (Kd.R_lt (G.kR HO_4.out)) k_ hk)); (case aO => exact (G.kR HO_3.out)); (case aS => exact (below_size G.bel)); (case aL => have := LMc10.out; omega); intro v554 w11 ho hb hg hat; rw [← Ny553.out] at ho; have n0_ := G.a (Kd.R_after (ok := (fun _ => True)) (by (with_reducible repeat (first | apply Kd.R_alloc | apply Kd.R_drewN | apply Kd.R_drew)); exact Kd.R_mono HO_4.out (fun _ hk => ⟨trivial, hk⟩)) hg hat); have n1_ := G.a (hb); have n2_ := G.a (ho); clear HO_4; clear HB; clear HO_3; have HO_4 := n0_; have HB := n1_; have HO555 := n2_; clear n0_ n1_ n2_; clear ho hb hg hat))
       go_roundg k1
       case measure => have := HK1.out; omega
       case rel => exact ⟨(y553), (wrap64 (x5_1 - 1)), G.tr, H', ⟨by have := HK1.out; omega⟩, ⟨G.kR HO555.out⟩, ⟨by (with_reducible repeat (first | apply Kd.R_alloc | apply Kd.R_drewN | apply Kd.R_drew)); exact Kd.R_mono HO_4.out (fun _ hk => hk.2)⟩, ⟨G.bel⟩⟩
      ·rw [if_neg c10] at H
       exact absurd H (by simp)
     ·rw [if_neg c9] at H
      exact absurd H (by simp)
    ·rw [if_neg c8] at H
     exact absurd H (by simp)
   ·rw [if_neg c7] at H
    have c7b0 : decide (0 ≤ x5_1) = false := decide_eq_false c7
    clear c7
    obtain rfl := Option.some.inj H
    go_wp2
    go_ret
    exact ⟨_, G.er, by (with_reducible repeat (first | apply Kd.R_alloc | apply Kd.R_drewN | apply Kd.R_drew)); exact Kd.R_mono HO_3.out (fun _ hk => trivial), G.bel⟩
def spec_LeastPeriod.f (k : Nat) (l0 : List Int) : Option (Int) := (spec_PeriodsOf.f k l0).bind fun t556 => (if (t556.length : Int) = 0 then (some 0) else (if 0 < (t556.length : Int) then (some (rd t556 0)) else (none)))
theorem spec_LeastPeriod.calls (k : Nat) (A0 : Option Addr) (c0 : Nat) (l0 : List Int) (r : Int) (w : World) (hr0 : Kd.C (Kd.int .i64) w A0 l0.length l0) (hc0 : l0.length ≤ c0) (h : spec_LeastPeriod.f k l0 = some r) :
  Calls Tryz.prog 30 #[.slice A0 l0.length c0] w fun e w' => e = .returned (.int .i64 r) ∧ Below w.heap.size w w' := by
 have HR0 := G.a hr0
 have HC0 := G.a hc0
 clear hr0 hc0
 have HB := G.a (Below.refl w.heap.size w)
 have H : ((spec_PeriodsOf.f k l0).bind fun t556 => (if (t556.length : Int) = 0 then (some 0) else (if 0 < (t556.length : Int) then (some (rd t556 0)) else (none)))) = some r := h
 clear h
 obtain ⟨t556, A2, H⟩ := G.bx H
 by_cases c3 : (t556.length : Int) = 0
 ·rw [if_pos c3] at H
  have c3b0 : ((t556.length : Int) == 0) = true := beq_iff_eq.mpr c3
  have c3b1 : ((t556.length : Int) != 0) = false := bne_eq_false_iff_eq.mpr c3
  clear c3
  obtain rfl := Option.some.inj H
  go_enter Tryz.func30, Tryz.ntmps30
  go_wp2_with (first | ((with_reducible refine gate_callee (f := 44) rfl ?_); refine goesL_ (some 5) rfl rfl Tryz.func44 (by kernel_rfl) rfl #[.slice A0 l0.length c0] rfl G.ar ?_; (with_reducible refine (spec_PeriodsOf.calls k _ _ l0 t556 _ ?side1 ?side2 A2.out).mono ?_); (case side1 => exact G.kC HR0.out); (case side2 => exact HC0.out); rintro e w4 ⟨v557, rfl, ho0, hb⟩; refine ⟨_, rfl, ?_⟩; have n0_ := G.a (Kd.R_lower ho0 (below_size G.bel)); have n1_ := G.a (below_step G.bel hb); clear HB; have HO558 := n0_; have HB := n1_; clear n0_ n1_; (try clear hb); (try clear hb2); (try clear hk); (try clear hi); (try clear ho0); obtain ⟨Ao5, co5, eo5⟩ := Kd.R_slice HO558.out; subst eo5))
  go_ret
  exact ⟨G.er, G.bel⟩
 ·rw [if_neg c3] at H
  have c3b0 : ((t556.length : Int) == 0) = false := beq_eq_false_iff_ne.mpr c3
  have c3b1 : ((t556.length : Int) != 0) = true := bne_iff_ne.mpr c3
  have c3b2 : ¬ (t556 = []) := fun h_ => c3 (by rw [h_]; rfl)
  by_cases c6 : 0 < (t556.length : Int)
  ·rw [if_pos c6] at H
   have c6b0 : decide (0 < (t556.length : Int)) = true := decide_eq_true c6
   have c6b1 : decide (0 < t556.length) = true := decide_eq_true (by omega)
   clear c6
   obtain rfl := Option.some.inj H
   go_enter Tryz.func30, Tryz.ntmps30
   go_wp2_with (first | ((with_reducible refine gate_callee (f := 44) rfl ?_); refine goesL_ (some 5) rfl rfl Tryz.func44 (by kernel_rfl) rfl #[.slice A0 l0.length c0] rfl G.ar ?_; (with_reducible refine (spec_PeriodsOf.calls k _ _ l0 t556 _ ?side1 ?side2 A2.out).mono ?_); (case side1 => exact G.kC HR0.out); (case side2 => exact HC0.out); rintro e w7 ⟨v557, rfl, ho0, hb⟩; refine ⟨_, rfl, ?_⟩; have n0_ := G.a (Kd.R_lower ho0 (below_size G.bel)); have n1_ := G.a (below_step G.bel hb); clear HB; have HO558 := n0_; have HB := n1_; clear n0_ n1_; (try clear hb); (try clear hb2); (try clear hk); (try clear hi); (try clear ho0); obtain ⟨Ao8, co8, eo8⟩ := Kd.R_slice HO558.out; subst eo8; have p559 : 0 ≤ (0 : Int) := (by omega); have q559 : 0 < (t556.length : Int) := G.odt; obtain ⟨ad559, e559, hx559_0⟩ := Kd.at_int (Kd.R_reads' HO558.out).2.2 0 p559 q559; cases e559; have qi559 : (0 < t556.length) = True := eq_true (by omega); (try rw [show ((0 : Int)).toNat = 0 from rfl] at hx559_0); (try rw [Addr.add_zero'] at hx559_0); replace p559 := eq_true p559; replace q559 := eq_true q559))
   go_ret
   exact ⟨G.er, G.bel⟩
  ·rw [if_neg c6] at H
   exact absurd H (by simp)
end Go.Proofs.YtolikggioekalabGreat.PFnRuns
