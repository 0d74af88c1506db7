/- The Go functions that the law FnRuns reaches (part 16): each as a Lean function, and that its code comes to these answers. No condition beyond those written. -/
import Derived.Test.YtolikggioekalabGreatVMFnRunsx15
namespace Go.Proofs.YtolikggioekalabGreat.PFnRuns
open Go.RowKit Go.Proofs.YtolikggioekalabGreatW.PrintWords Go.Proofs.YtolikggioekalabGreatW.PrintLast Go.Proofs.YtolikggioekalabGreatW.PrintMore
attribute [local go_sem] max2_int min2_int max_two min_two max_three min_three max_four min_four
set_option maxHeartbeats 8000000
set_option maxRecDepth 100000
set_option linter.unusedVariables false
set_option linter.unusedSimpArgs false
def impl_LeastConjugate.f (k : Nat) (l0 : List Int) : Option (List Int) := (impl_ConjugatesOf.f k l0).bind fun t635 => (if (t635.length : Int) = 0 then ((some (([] : List Int) : List Int)).bind fun y638 => (if y638.length + l0.length < 17592186044416 then (some (y638 ++ l0)) else (none))) else (if 0 < (t635.length : Int) then (some (rd_L2 t635 0)) else (none)))
theorem impl_LeastConjugate.calls (k : Nat) (A0 : Option Addr) (c0 : Nat) (l0 : List Int) (r : List Int) (w : World) (hr0 : Kd.C (Kd.int .i64) w A0 l0.length l0) (hc0 : l0.length ≤ c0) (h : impl_LeastConjugate.f k l0 = some r) :
  Calls Tryz.prog 31 #[.slice A0 l0.length c0] w fun e w' => ∃ v0_ : Value, e = .returned (v0_) ∧ Kd.R (Kd.int .i64) 3 w' w.heap.size (fun _ => True) v0_ r ∧ Below w.heap.size w w' := by
 have HR0 := G.a hr0
 have HC0 := G.a hc0
 clear hr0 hc0
 have HB := G.a (Below.refl w.heap.size w)
 have H : ((impl_ConjugatesOf.f k l0).bind fun t635 => (if (t635.length : Int) = 0 then ((some (([] : List Int) : List Int)).bind fun y638 => (if y638.length + l0.length < 17592186044416 then (some (y638 ++ l0)) else (none))) else (if 0 < (t635.length : Int) then (some (rd_L2 t635 0)) else (none)))) = some r := h
 clear h
 obtain ⟨t635, A2, H⟩ := G.bx H
 by_cases c3 : (t635.length : Int) = 0
 ·rw [if_pos c3] at H
  have c3b0 : ((t635.length : Int) == 0) = true := beq_iff_eq.mpr c3
  have c3b1 : ((t635.length : Int) != 0) = false := bne_eq_false_iff_eq.mpr c3
  clear c3
  obtain ⟨y638, hy638⟩ : ∃ y_ : List Int, y_ = (([] : List Int)) := ⟨_, rfl⟩
  replace H : (if y638.length + l0.length < 17592186044416 then (some (y638 ++ l0)) else (none)) = some r := by first | (rw [hy638]; with_reducible exact H) | (have H2_ := (Option.bind_some _ _).symm.trans H; rw [hy638]; with_reducible exact H2_) | (have H2_ := (Option.bind_some _ _).symm.trans H; with_reducible exact H2_) | with_reducible exact H | (rw [hy638]; exact H) | exact H
  have Ny638 := G.a hy638
  clear hy638
  by_cases c4 : y638.length + l0.length < 17592186044416
  ·rw [if_pos c4] at H
   have LMc4 := G.a c4
   clear c4
   obtain ⟨y641, hy641⟩ : ∃ y_ : List Int, y_ = (y638 ++ l0) := ⟨_, rfl⟩
   replace H : (some y641) = some r := by first | (rw [hy641]; with_reducible exact H) | (have H2_ := (Option.bind_some _ _).symm.trans H; rw [hy641]; with_reducible exact H2_) | (have H2_ := (Option.bind_some _ _).symm.trans H; with_reducible exact H2_) | with_reducible exact H | (rw [hy641]; exact H) | exact H
   have Ny641 := G.a hy641
   clear hy641
   obtain rfl := Option.some.inj H
   go_enter Tryz.func31, Tryz.ntmps31
   go_wp2_with (first | ((with_reducible refine gate_callee (f := 45) rfl ?_); refine goesL_ (some 5) rfl rfl Tryz.func45 (by kernel_rfl) rfl #[.slice A0 l0.length c0] rfl G.ar ?_; (with_reducible refine (impl_ConjugatesOf.calls k _ _ l0 t635 _ ?side1 ?side2 A2.out).mono ?_); (case side1 => exact G.kC HR0.out); (case side2 => exact HC0.out); rintro e w5 ⟨v636, rfl, ho0, hb⟩; refine ⟨_, rfl, ?_⟩; have n0_ := G.a (Kd.S_lower ho0 (below_size G.bel)); have n1_ := G.a (below_step G.bel hb); clear HB; have HO637 := n0_; have HB := n1_; clear n0_ n1_; (try clear hb); (try clear hb2); (try clear hk); (try clear hi); (try clear ho0); obtain ⟨Ao6, co6, eo6⟩ := Kd.S_slice HO637.out; subst eo6) | ((with_reducible refine gate_dst (N := 9) rfl ?_); refine Kd.R_lit (Kd.int .i64) _ 3 ?hg (N := 9) ?hd (xs := ([] : List Int)) (inner := []) (ok := fun _ => True) (okp := fun _ => True) ?hr ?hp (fun _ hk => hk) trivial (Below.refl _ _) (Nat.le_refl _) (by simp) ?_; (case hd => rfl); (case hg => rfl); (case hr => first | (go_simp; done) | (go_simp; rfl)); (case hp => exact (Reps.none _ _)); intro v639 w7 ho8 hb hg_ hnew_; clear hg_ hnew_; (first | rw [← Ny638.out] at ho8 | (simp only [Int.reduceToNat] at ho8; rw [← Ny638.out] at ho8)); have n0_ := G.a (Kd.S_elder' (G.kS HO637.out) (Kd.R_base ho8) hb); have n1_ := G.a (Kd.R_lower ho8 (below_size G.bel)); have n2_ := G.a (below_step G.bel hb); clear HO637; clear HB; have HO637 := n0_; have HO640 := n1_; have HB := n2_; clear n0_ n1_ n2_; clear hb ho8) | ((with_reducible refine gate_builtin (b := .append) (xs := #[.tmp 9, .tmp 10]) rfl ?_); at_builtin; refine Kd.R_append_rows (Kd.int .i64) (w0 := w) w.heap.size rfl (.tmp 9) (.tmp 10) 24 3 (.int .i64 0) 8 rfl Tryz.underlying24 info3 rfl (by decide) (by omega) v639 y638 l0 _ _ _ (fun _ => True) (fun _ => False) rfl rfl ?aO ?aR (fun _ _ h => h) (fun _ h => h.elim) ?aF ?aB ?aS ?aL ?_; (case aR => exact G.kC (Kd.C_below HR0.out HB.out)); (case aB => exact G.bel); (case aF => exact (fun _ _ => trivial)); (case aO => exact (G.kR HO640.out)); (case aS => exact (below_size G.bel)); (case aL => have := LMc4.out; omega); intro v642 w9 ho hb hg hat; rw [← Ny641.out] at ho; have n0_ := G.a (Kd.S_after (ok := (fun _ => True)) (G.kS HO637.out) hg hat); have n1_ := G.a (hb); have n2_ := G.a (ho); clear HO637; clear HB; clear HO640; have HO637 := n0_; have HB := n1_; have HO643 := n2_; clear n0_ n1_ n2_; clear ho hb hg hat))
   go_ret
   exact ⟨_, G.er, G.kR HO643.out, G.bel⟩
  ·rw [if_neg c4] at H
   exact absurd H (by simp)
 ·rw [if_neg c3] at H
  have c3b0 : ((t635.length : Int) == 0) = false := beq_eq_false_iff_ne.mpr c3
  have c3b1 : ((t635.length : Int) != 0) = true := bne_iff_ne.mpr c3
  have c3b2 : ¬ (t635 = []) := fun h_ => c3 (by rw [h_]; rfl)
  by_cases c10 : 0 < (t635.length : Int)
  ·rw [if_pos c10] at H
   have c10b0 : decide (0 < (t635.length : Int)) = true := decide_eq_true c10
   have c10b1 : decide (0 < t635.length) = true := decide_eq_true (by omega)
   clear c10
   obtain rfl := Option.some.inj H
   go_enter Tryz.func31, Tryz.ntmps31
   go_wp2_with (first | ((with_reducible refine gate_callee (f := 45) rfl ?_); refine goesL_ (some 5) rfl rfl Tryz.func45 (by kernel_rfl) rfl #[.slice A0 l0.length c0] rfl G.ar ?_; (with_reducible refine (impl_ConjugatesOf.calls k _ _ l0 t635 _ ?side1 ?side2 A2.out).mono ?_); (case side1 => exact G.kC HR0.out); (case side2 => exact HC0.out); rintro e w11 ⟨v636, rfl, ho0, hb⟩; refine ⟨_, rfl, ?_⟩; have n0_ := G.a (Kd.S_lower ho0 (below_size G.bel)); have n1_ := G.a (below_step G.bel hb); clear HB; have HO637 := n0_; have HB := n1_; clear n0_ n1_; (try clear hb); (try clear hb2); (try clear hk); (try clear hi); (try clear ho0); obtain ⟨Ao12, co12, eo12⟩ := Kd.S_slice HO637.out; subst eo12; have p644 : 0 ≤ (0 : Int) := (by omega); have q644 : 0 < (t635.length : Int) := G.odt; obtain ⟨ad644, A644_0, c644_0, e644, hx644_0, hl644_0, hi644_0⟩ := at_L2 (Kd.S_reads' HO637.out).2.2 0 p644 q644; cases e644; obtain ⟨ce644, hce644, hMe644, hcc644⟩ := Kd.S_get HO637.out [] 0 p644 (by first | exact q644 | exact G.odt | (have e_ := (Kd.S_reads' HO637.out).1; omega)); obtain ⟨ve644_0, rfl, ge644_0⟩ := hMe644; have hv644_0 := hcc644 0 _ rfl; rw [Nat.add_zero, show ((Kd.slice 3 (Kd.int .i64))).sz = 1 from rfl, Nat.mul_one] at hv644_0; replace hv644_0 := Option.some.inj (hv644_0.symm.trans hx644_0); rw [hv644_0] at ge644_0; have HL644_0 := G.a (show Kd.R (Kd.int .i64) 3 _ _ _ _ (rd_L2 t635 0) from ge644_0); clear hv644_0 ge644_0; clear hcc644 hce644; have qi644 : (0 < t635.length) = True := eq_true (by omega); (try rw [show ((0 : Int)).toNat = 0 from rfl] at hx644_0); (try rw [Addr.add_zero'] at hx644_0); have HR644_0 := G.a hi644_0; have HC644_0 := G.a hl644_0; clear hi644_0 hl644_0; replace p644 := eq_true p644; replace q644 := eq_true q644))
   go_ret
   exact ⟨_, G.er, by (with_reducible repeat (first | apply Kd.R_alloc | apply Kd.R_drewN | apply Kd.R_drew)); exact Kd.R_mono HL644_0.out (fun _ hk => trivial), G.bel⟩
  ·rw [if_neg c10] at H
   exact absurd H (by simp)
def impl_RootOfRun.f (k : Nat) (l0 : List Int) (a1_0 : Int) (a1_1 : Int) (a1_2 : Int) : Option (List Int × Bool) := (impl_IsRun.f k l0 a1_0 a1_1 a1_2).bind fun t646 => (if t646 = true then (if 0 ≤ a1_0 then (if a1_0 ≤ (wrap64 (a1_0 + a1_2)) then (if (wrap64 (a1_0 + a1_2)) ≤ (l0.length : Int) then ((impl_LeastConjugate.f k ((l0.take ((wrap64 (a1_0 + a1_2)) : Int).toNat).drop (a1_0 : Int).toNat)).bind fun t648 => (some (t648, true))) else (none)) else (none)) else (none)) else (some ((([] : List Int)), false)))
theorem impl_RootOfRun.calls (k : Nat) (A0 : Option Addr) (c0 : Nat) (l0 : List Int) (a1_0 : Int) (a1_1 : Int) (a1_2 : Int) (r1 : List Int) (r2 : Bool) (w : World) (hr0 : Kd.C (Kd.int .i64) w A0 l0.length l0) (hc0 : l0.length ≤ c0) (h : impl_RootOfRun.f k l0 a1_0 a1_1 a1_2 = some (r1, r2)) :
  Calls Tryz.prog 11 #[.slice A0 l0.length c0, .agg #[.int .i64 a1_0, .int .i64 a1_1, .int .i64 a1_2]] w fun e w' => ∃ v0_ : Value, e = .returned (.tuple #[v0_, .bool r2]) ∧ Kd.R (Kd.int .i64) 3 w' w.heap.size (fun _ => True) v0_ r1 ∧ Below w.heap.size w w' := by
 have hu32 := Tryz.underlying32
 have HR0 := G.a hr0
 have HC0 := G.a hc0
 clear hr0 hc0
 have HB := G.a (Below.refl w.heap.size w)
 have H : ((impl_IsRun.f k l0 a1_0 a1_1 a1_2).bind fun t646 => (if t646 = true then (if 0 ≤ a1_0 then (if a1_0 ≤ (wrap64 (a1_0 + a1_2)) then (if (wrap64 (a1_0 + a1_2)) ≤ (l0.length : Int) then ((impl_LeastConjugate.f k ((l0.take ((wrap64 (a1_0 + a1_2)) : Int).toNat).drop (a1_0 : Int).toNat)).bind fun t648 => (some (t648, true))) else (none)) else (none)) else (none)) else (some ((([] : List Int)), false)))) = some (r1, r2) := h
 clear h
 obtain ⟨t646, A3, H⟩ := G.bx H
 by_cases c4 : t646 = true
 ·subst c4
  rw [if_pos rfl] at H
  by_cases c5 : 0 ≤ a1_0
  ·rw [if_pos c5] at H
   have c5b0 := eq_true c5
   have c5b1 : decide (0 ≤ a1_0) = true := decide_eq_true c5
   clear c5
   by_cases c6 : a1_0 ≤ (wrap64 (a1_0 + a1_2))
   ·rw [if_pos c6] at H
    have c6b0 := eq_true c6
    have c6b1 : decide (a1_0 ≤ (wrap64 (a1_0 + a1_2))) = true := decide_eq_true c6
    by_cases c7 : (wrap64 (a1_0 + a1_2)) ≤ (l0.length : Int)
    ·rw [if_pos c7] at H
     have c7b0 := eq_true c7
     have c7b1 : decide ((wrap64 (a1_0 + a1_2)) ≤ (l0.length : Int)) = true := decide_eq_true c7
     obtain ⟨t648, A8, H⟩ := G.bx H
     simp only [Option.some.injEq, Prod.mk.injEq] at H
     obtain ⟨rfl, rfl⟩ := H
     go_enter Tryz.func11, Tryz.ntmps11
     go_wp2_with (first | ((with_reducible refine gate_dst (N := 3) rfl ?_); refine box_event ?hg (N := 3) ?hd (cs := #[.int .i64 a1_0, .int .i64 a1_1, .int .i64 a1_2]) (t := 32) ?hr ?_; (case hd => rfl); (case hg => rfl); (case hr => first | (go_simp; done) | (go_simp; rfl)); intro gb645 hg w9 hbox hb; have n0_ := G.a (below_step G.bel hb); have n1_ := G.a (hbox); have n2_ := G.a ((by rw [hg]; exact (below_size G.bel) : w.heap.size ≤ gb645)); have n3_ := G.a ((by rw [hg]; exact (below_size G.bel) : w.heap.size ≤ gb645)); clear HB; have HB := n0_; have BK645 := n1_; have GW645 := n2_; have GE645 := n3_; clear n0_ n1_ n2_ n3_; clear hb hbox hg; have hcz10_0 : w9.cell? ⟨gb645, 0, none⟩ = some (.int .i64 a1_0) := (blk_cell BK645.out 0).trans rfl; have hcz10_1 : w9.cell? ⟨gb645, 1, none⟩ = some (.int .i64 a1_1) := (blk_cell BK645.out 1).trans rfl; have hcz10_2 : w9.cell? ⟨gb645, 2, none⟩ = some (.int .i64 a1_2) := (blk_cell BK645.out 2).trans rfl; have hfz10_0 := blk_frozen BK645.out 0; have hfz10_1 := blk_frozen BK645.out 1; have hfz10_2 := blk_frozen BK645.out 2) | ((with_reducible refine gate_callee (f := 12) rfl ?_); refine goesL_ (some 8) rfl rfl Tryz.func12 (by kernel_rfl) rfl #[.slice A0 l0.length c0, .agg #[.int .i64 a1_0, .int .i64 a1_1, .int .i64 a1_2]] rfl G.ar ?_; (with_reducible refine (impl_IsRun.calls k _ _ l0 a1_0 a1_1 a1_2 true _ ?side1 ?side2 A3.out).mono ?_); (case side1 => exact G.kC (Kd.C_below HR0.out HB.out)); (case side2 => exact HC0.out); rintro e w11 ⟨rfl, hb⟩; refine ⟨_, rfl, ?_⟩; have n0_ := G.a (blk_below (g := gb645) (o := .cells #[.int .i64 a1_0, .int .i64 a1_1, .int .i64 a1_2] 32 (0, 0)) (G.kB BK645.out) hb); have n1_ := G.a (below_step (G.bes GE645.out) hb); clear BK645; clear HB; have BK645 := n0_; have HB := n1_; clear n0_ n1_; (try clear hb); (try clear hb2); (try clear hk); (try clear hi); have hcz12_0 : w11.cell? ⟨gb645, 0, none⟩ = some (.int .i64 a1_0) := (blk_cell BK645.out 0).trans rfl; have hcz12_1 : w11.cell? ⟨gb645, 1, none⟩ = some (.int .i64 a1_1) := (blk_cell BK645.out 1).trans rfl; have hcz12_2 : w11.cell? ⟨gb645, 2, none⟩ = some (.int .i64 a1_2) := (blk_cell BK645.out 2).trans rfl; have hfz12_0 := blk_frozen BK645.out 0; have hfz12_1 := blk_frozen BK645.out 1; have hfz12_2 := blk_frozen BK645.out 2; obtain ⟨i013, hi013, _, hsz13, _⟩ := info_parts info3; obtain ⟨A13, hcut13, hA13, hC13⟩ := print_mid_of (P := Tryz.prog) (Value.int .i64) 0 24 3 .i64 .i64 Tryz.underlying24 hi013 hsz13 A0 c0 l0 a1_0 (wrap64 (a1_0 + a1_2)) G.odt (by first | omega | exact G.odt) G.odt HC0.out; have HR647 := G.a (Kd.C_of_reads (h1 := fun _ => rfl) (hA13 _ (Kd.reads_of_C HR0.out))); have HC647 := G.a hC13; clear hA13 hC13 hi013 hsz13) | ((with_reducible refine gate_callee (f := 31) rfl ?_); refine goesL_ (some 20) rfl rfl Tryz.func31 (by kernel_rfl) rfl #[.slice A13 ((l0.take ((wrap64 (a1_0 + a1_2)) : Int).toNat).drop (a1_0 : Int).toNat).length (c0 - a1_0.toNat)] rfl (by (try simp only [List.map_toArray, List.map_cons, List.map_nil]); first | done | (rw [show ((l0.take ((wrap64 (a1_0 + a1_2)) : Int).toNat).drop (a1_0 : Int).toNat).length = ((wrap64 (a1_0 + a1_2)).toNat - a1_0.toNat) from (by rw [List.length_drop, List.length_take]; have h_ : ((wrap64 (a1_0 + a1_2)) : Int) ≤ (l0.length : Int) := G.odt; omega)] <;> rfl) | rfl | (simp only [List.length_drop, List.length_take]; rfl)) ?_; (with_reducible refine (impl_LeastConjugate.calls k _ _ ((l0.take ((wrap64 (a1_0 + a1_2)) : Int).toNat).drop (a1_0 : Int).toNat) t648 _ ?side1 ?side2 A8.out).mono ?_); (case side1 => exact G.kC (Kd.C_below HR647.out HB.out)); (case side2 => exact HC647.out); rintro e w14 ⟨v649, rfl, ho0, hb⟩; refine ⟨_, rfl, ?_⟩; have n0_ := G.a (Kd.R_lower ho0 (below_size (G.bes GE645.out))); have n1_ := G.a (blk_below (g := gb645) (o := .cells #[.int .i64 a1_0, .int .i64 a1_1, .int .i64 a1_2] 32 (0, 0)) (G.kB BK645.out) hb); have n2_ := G.a (below_step (G.bes GE645.out) hb); clear BK645; clear HB; have HO650 := n0_; have BK645 := n1_; have HB := n2_; clear n0_ n1_ n2_; (try clear hb); (try clear hb2); (try clear hk); (try clear hi); (try clear ho0)))
     go_ret2
     exact ⟨_, G.er, G.kR HO650.out, G.bes GE645.out⟩
    ·rw [if_neg c7] at H
     exact absurd H (by simp)
   ·rw [if_neg c6] at H
    exact absurd H (by simp)
  ·rw [if_neg c5] at H
   exact absurd H (by simp)
 ·replace c4 := Bool.eq_false_iff.mpr c4
  subst c4
  rw [if_neg (show ¬ (false = true) by decide)] at H
  obtain ⟨y651, hy651⟩ : ∃ y_ : List Int, y_ = (([] : List Int)) := ⟨_, rfl⟩
  replace H : (some (y651, false)) = some (r1, r2) := by first | (rw [hy651]; with_reducible exact H) | (have H2_ := (Option.bind_some _ _).symm.trans H; rw [hy651]; with_reducible exact H2_) | (have H2_ := (Option.bind_some _ _).symm.trans H; with_reducible exact H2_) | with_reducible exact H | (rw [hy651]; exact H) | exact H
  have Ny651 := G.a hy651
  clear hy651
  simp only [Option.some.injEq, Prod.mk.injEq] at H
  obtain ⟨rfl, rfl⟩ := H
  go_enter Tryz.func11, Tryz.ntmps11
  go_wp2_with (first | ((with_reducible refine gate_dst (N := 3) rfl ?_); refine box_event ?hg (N := 3) ?hd (cs := #[.int .i64 a1_0, .int .i64 a1_1, .int .i64 a1_2]) (t := 32) ?hr ?_; (case hd => rfl); (case hg => rfl); (case hr => first | (go_simp; done) | (go_simp; rfl)); intro gb645 hg w15 hbox hb; have n0_ := G.a (below_step G.bel hb); have n1_ := G.a (hbox); have n2_ := G.a ((by rw [hg]; exact (below_size G.bel) : w.heap.size ≤ gb645)); have n3_ := G.a ((by rw [hg]; exact (below_size G.bel) : w.heap.size ≤ gb645)); clear HB; have HB := n0_; have BK645 := n1_; have GW645 := n2_; have GE645 := n3_; clear n0_ n1_ n2_ n3_; clear hb hbox hg; have hcz16_0 : w15.cell? ⟨gb645, 0, none⟩ = some (.int .i64 a1_0) := (blk_cell BK645.out 0).trans rfl; have hcz16_1 : w15.cell? ⟨gb645, 1, none⟩ = some (.int .i64 a1_1) := (blk_cell BK645.out 1).trans rfl; have hcz16_2 : w15.cell? ⟨gb645, 2, none⟩ = some (.int .i64 a1_2) := (blk_cell BK645.out 2).trans rfl; have hfz16_0 := blk_frozen BK645.out 0; have hfz16_1 := blk_frozen BK645.out 1; have hfz16_2 := blk_frozen BK645.out 2) | ((with_reducible refine gate_callee (f := 12) rfl ?_); refine goesL_ (some 8) rfl rfl Tryz.func12 (by kernel_rfl) rfl #[.slice A0 l0.length c0, .agg #[.int .i64 a1_0, .int .i64 a1_1, .int .i64 a1_2]] rfl G.ar ?_; (with_reducible refine (impl_IsRun.calls k _ _ l0 a1_0 a1_1 a1_2 false _ ?side1 ?side2 A3.out).mono ?_); (case side1 => exact G.kC (Kd.C_below HR0.out HB.out)); (case side2 => exact HC0.out); rintro e w17 ⟨rfl, hb⟩; refine ⟨_, rfl, ?_⟩; have n0_ := G.a (blk_below (g := gb645) (o := .cells #[.int .i64 a1_0, .int .i64 a1_1, .int .i64 a1_2] 32 (0, 0)) (G.kB BK645.out) hb); have n1_ := G.a (below_step (G.bes GE645.out) hb); clear BK645; clear HB; have BK645 := n0_; have HB := n1_; clear n0_ n1_; (try clear hb); (try clear hb2); (try clear hk); (try clear hi)) | ((with_reducible refine gate_dst (N := 10) rfl ?_); refine Kd.R_lit (Kd.int .i64) _ 3 ?hg (N := 10) ?hd (xs := ([] : List Int)) (inner := []) (ok := fun _ => True) (okp := fun _ => True) ?hr ?hp (fun _ hk => hk) trivial (Below.refl _ _) (Nat.le_refl _) (by simp) ?_; (case hd => rfl); (case hg => rfl); (case hr => first | (go_simp; done) | (go_simp; rfl)); (case hp => exact (Reps.none _ _)); intro v652 w18 ho19 hb hg_ hnew_; clear hg_ hnew_; (first | rw [← Ny651.out] at ho19 | (simp only [Int.reduceToNat] at ho19; rw [← Ny651.out] at ho19)); have n0_ := G.a (Kd.R_lower ho19 (below_size (G.bes GE645.out))); have n1_ := G.a (blk_below (g := gb645) (o := .cells #[.int .i64 a1_0, .int .i64 a1_1, .int .i64 a1_2] 32 (0, 0)) (G.kB BK645.out) hb); have n2_ := G.a (below_step (G.bes GE645.out) hb); clear BK645; clear HB; have HO653 := n0_; have BK645 := n1_; have HB := n2_; clear n0_ n1_ n2_; clear hb ho19))
  go_ret2
  exact ⟨_, G.er, G.kR HO653.out, G.bes GE645.out⟩
mutual
def spec_CompareWords.l0 : Nat → List Int → List Int → Int → Option (Int)
 | 0, _, _, _ => none
 | k + 1, x0, x1, x5 => if x5 < (x0.length : Int) then (spec_CompareWords.j1 k x0 x1 x5 (decide (x5 < (x1.length : Int)))) else (spec_CompareWords.j1 k x0 x1 x5 false)
def spec_CompareWords.j1 : Nat → List Int → List Int → Int → Bool → Option (Int)
 | 0, _, _, _, _ => none
 | k + 1, x0, x1, x5, x15 => if x15 = true then (if 0 ≤ x5 then (if x5 < (x0.length : Int) then (if x5 < (x1.length : Int) then (if (rd x0 x5) < (rd x1 x5) then (some (-1)) else (if (rd x0 x5) > (rd x1 x5) then (some 1) else (spec_CompareWords.l0 k x0 x1 (wrap64 (x5 + 1))))) else (none)) else (none)) else (none)) else (if (x0.length : Int) < (x1.length : Int) then (some (-1)) else (if (x0.length : Int) > (x1.length : Int) then (some 1) else (some 0)))
end
def spec_CompareWords.f (k : Nat) (l0 : List Int) (l1 : List Int) : Option (Int) := spec_CompareWords.l0 k l0 l1 0
theorem spec_CompareWords.calls (k : Nat) (A0 : Option Addr) (c0 : Nat) (l0 : List Int) (A1 : Option Addr) (c1 : Nat) (l1 : List Int) (r : Int) (w : World) (hr0 : Kd.C (Kd.int .i64) w A0 l0.length l0) (hc0 : l0.length ≤ c0) (hr1 : Kd.C (Kd.int .i64) w A1 l1.length l1) (hc1 : l1.length ≤ c1) (h : spec_CompareWords.f k l0 l1 = some r) :
  Calls Tryz.prog 33 #[.slice A0 l0.length c0, .slice A1 l1.length c1] w fun e w' => e = .returned (.int .i64 r) ∧ Drawn0 w w' := by
 have HR0 := G.a hr0
 have HC0 := G.a hc0
 clear hr0 hc0
 have HR1 := G.a hr1
 have HC1 := G.a hc1
 clear hr1 hc1
 have H : (spec_CompareWords.l0 k l0 l1 0) = some r := h
 clear h
 have H' := G.a H
 clear H
 go_enter Tryz.func33, Tryz.ntmps33
 go_wp2
 repeat (go_quiet (fail); try go_wp2)
 go_loopg [5] k (fun kq v5 w' => ∃ (x5_1 : Int), v5 = .int .i64 x5_1 ∧ Aside0 (spec_CompareWords.l0 kq l0 l1 x5_1 = some r) ∧ Aside0 (kq ≤ k) ∧ Drawn0 w w')
 case atStart => exact ⟨(0), G.tr, H', ⟨Nat.le_refl _⟩, G.dn⟩
 case round =>
  clear H'
  try clear c1; try clear p2
  obtain ⟨x5_1, rfl, HA, HK1, ⟨m1, rfl⟩⟩ := hrel
  cases gk with
  | zero => exact absurd HA.out (by simp [spec_CompareWords.l0])
  | succ k1 =>
   have H := HA.out
   clear HA
   simp only [spec_CompareWords.l0] at H
   have HC3 := G.a H
   clear H
   go_upto_region 2 with (fail)
   repeat (go_quiet (fail); go_upto_region 2 with (fail))
   go_cut [15] (fun v15 wc => ∃ (kq : Nat) (x15_2 : Bool), v15 = .bool x15_2 ∧ Aside0 (spec_CompareWords.j1 kq l0 l1 x5_1 x15_2 = some r) ∧ Aside0 (kq ≤ k1) ∧ Drawn0 w wc)
   case first =>
    have H := HC3.out
    clear HC3
    by_cases c4 : x5_1 < (l0.length : Int)
    ·rw [if_pos c4] at H
     have c4b0 : decide (x5_1 < (l0.length : Int)) = true := decide_eq_true c4
     clear c4
     (first | rw [c4b0] | (simp only [i64_w, i32_w]; rw [c4b0]) | skip)
     have H' := G.a H
     clear H
     go_wp2
     repeat (go_quiet (fail); try go_wp2)
     go_meet
     case rel => exact ⟨_, (decide (x5_1 < (l1.length : Int))), G.tr, H', ⟨by have := HK1.out; first | omega | exact Nat.le_refl _⟩, G.dn⟩
    ·rw [if_neg c4] at H
     have c4b0 : decide (x5_1 < (l0.length : Int)) = false := decide_eq_false c4
     clear c4
     (first | rw [c4b0] | (simp only [i64_w, i32_w]; rw [c4b0]) | skip)
     have H' := G.a H
     clear H
     go_wp2
     repeat (go_quiet (fail); try go_wp2)
     go_meet
     case rel => exact ⟨_, (false), G.tr, H', ⟨by have := HK1.out; first | omega | exact Nat.le_refl _⟩, G.dn⟩
   case rest =>
    clear HC3
    try clear c1; try clear p2; try clear c3; try clear c4; try clear c4b0; try clear p2
    obtain ⟨kq, x15_2, rfl, HA, HJ2, ⟨mc2, rfl⟩⟩ := hcut
    cases kq with
    | zero => exact absurd HA.out (by simp [spec_CompareWords.j1])
    | succ kj2 =>
     have H := HA.out
     clear HA
     simp only [spec_CompareWords.j1] at H
     by_cases c5 : x15_2 = true
     ·subst c5
      rw [if_pos rfl] at H
      by_cases c6 : 0 ≤ x5_1
      ·rw [if_pos c6] at H
       have c6b0 : decide (0 ≤ x5_1) = true := decide_eq_true c6
       clear c6
       by_cases c7 : x5_1 < (l0.length : Int)
       ·rw [if_pos c7] at H
        have c7b0 : decide (x5_1 < (l0.length : Int)) = true := decide_eq_true c7
        clear c7
        by_cases c8 : x5_1 < (l1.length : Int)
        ·rw [if_pos c8] at H
         have c8b0 : decide (x5_1 < (l1.length : Int)) = true := decide_eq_true c8
         clear c8
         by_cases c9 : (rd l0 x5_1) < (rd l1 x5_1)
         ·rw [if_pos c9] at H
          have c9b0 : decide ((rd l0 x5_1) < (rd l1 x5_1)) = true := decide_eq_true c9
          clear c9
          obtain rfl := Option.some.inj H
          have p654 : 0 ≤ (x5_1 : Int) := G.odt
          have q654 : x5_1 < (l0.length : Int) := G.odt
          obtain ⟨ad654, e654, hx654_0⟩ := Kd.at_int HR0.out x5_1 p654 q654
          cases e654
          replace p654 := eq_true p654
          replace q654 := eq_true q654
          have p655 : 0 ≤ (x5_1 : Int) := G.odt
          have q655 : x5_1 < (l1.length : Int) := G.odt
          obtain ⟨ad655, e655, hx655_0⟩ := Kd.at_int HR1.out x5_1 p655 q655
          cases e655
          replace p655 := eq_true p655
          replace q655 := eq_true q655
          go_wp2
          repeat (go_quiet (fail); try go_wp2)
          go_ret
          exact ⟨G.tr, G.dn⟩
         ·rw [if_neg c9] at H
          have c9b0 : decide ((rd l0 x5_1) < (rd l1 x5_1)) = false := decide_eq_false c9
          clear c9
          by_cases c10 : (rd l0 x5_1) > (rd l1 x5_1)
          ·rw [if_pos c10] at H
           have c10b0 : decide ((rd l1 x5_1) < (rd l0 x5_1)) = true := decide_eq_true c10
           clear c10
           obtain rfl := Option.some.inj H
           have p654 : 0 ≤ (x5_1 : Int) := G.odt
           have q654 : x5_1 < (l0.length : Int) := G.odt
           obtain ⟨ad654, e654, hx654_0⟩ := Kd.at_int HR0.out x5_1 p654 q654
           cases e654
           replace p654 := eq_true p654
           replace q654 := eq_true q654
           have p655 : 0 ≤ (x5_1 : Int) := G.odt
           have q655 : x5_1 < (l1.length : Int) := G.odt
           obtain ⟨ad655, e655, hx655_0⟩ := Kd.at_int HR1.out x5_1 p655 q655
           cases e655
           replace p655 := eq_true p655
           replace q655 := eq_true q655
           have p656 : 0 ≤ (x5_1 : Int) := G.odt
           have q656 : x5_1 < (l0.length : Int) := G.odt
           obtain ⟨ad656, e656, hx656_0⟩ := Kd.at_int HR0.out x5_1 p656 q656
           obtain rfl : ad654 = ad656 := (by injection e656)
           replace p656 := eq_true p656
           replace q656 := eq_true q656
           have p657 : 0 ≤ (x5_1 : Int) := G.odt
           have q657 : x5_1 < (l1.length : Int) := G.odt
           obtain ⟨ad657, e657, hx657_0⟩ := Kd.at_int HR1.out x5_1 p657 q657
           obtain rfl : ad655 = ad657 := (by injection e657)
           replace p657 := eq_true p657
           replace q657 := eq_true q657
           go_wp2
           repeat (go_quiet (fail); try go_wp2)
           go_ret
           exact ⟨G.tr, G.dn⟩
          ·rw [if_neg c10] at H
           have c10b0 : decide ((rd l1 x5_1) < (rd l0 x5_1)) = false := decide_eq_false c10
           clear c10
           have H' := G.a H
           clear H
           have p654 : 0 ≤ (x5_1 : Int) := G.odt
           have q654 : x5_1 < (l0.length : Int) := G.odt
           obtain ⟨ad654, e654, hx654_0⟩ := Kd.at_int HR0.out x5_1 p654 q654
           cases e654
           replace p654 := eq_true p654
           replace q654 := eq_true q654
           have p655 : 0 ≤ (x5_1 : Int) := G.odt
           have q655 : x5_1 < (l1.length : Int) := G.odt
           obtain ⟨ad655, e655, hx655_0⟩ := Kd.at_int HR1.out x5_1 p655 q655
           cases e655
           replace p655 := eq_true p655
           replace q655 := eq_true q655
           have p656 : 0 ≤ (x5_1 : Int) := G.odt
           have q656 : x5_1 < (l0.length : Int) := G.odt
           obtain ⟨ad656, e656, hx656_0⟩ := Kd.at_int HR0.out x5_1 p656 q656
           obtain rfl : ad654 = ad656 := (by injection e656)
           replace p656 := eq_true p656
           replace q656 := eq_true q656
           have p657 : 0 ≤ (x5_1 : Int) := G.odt
           have q657 : x5_1 < (l1.length : Int) := G.odt
           obtain ⟨ad657, e657, hx657_0⟩ := Kd.at_int HR1.out x5_1 p657 q657
           obtain rfl : ad655 = ad657 := (by injection e657)
           replace p657 := eq_true p657
           replace q657 := eq_true q657
           go_wp2
           repeat (go_quiet (fail); try go_wp2)
           go_roundg kj2
           case measure => have := HK1.out; have := HJ2.out; omega
           case rel => exact ⟨(wrap64 (x5_1 + 1)), G.tr, H', ⟨by have := HK1.out; have := HJ2.out; omega⟩, G.dn⟩
        ·rw [if_neg c8] at H
         exact absurd H (by simp)
       ·rw [if_neg c7] at H
        exact absurd H (by simp)
      ·rw [if_neg c6] at H
       exact absurd H (by simp)
     ·replace c5 := Bool.eq_false_iff.mpr c5
      subst c5
      rw [if_neg (show ¬ (false = true) by decide)] at H
      by_cases c11 : (l0.length : Int) < (l1.length : Int)
      ·rw [if_pos c11] at H
       have c11b0 : decide ((l0.length : Int) < (l1.length : Int)) = true := decide_eq_true c11
       have c11b1 : decide (l0.length < l1.length) = true := decide_eq_true (Int.ofNat_lt.mp c11)
       clear c11
       obtain rfl := Option.some.inj H
       go_wp2
       repeat (go_quiet (fail); try go_wp2)
       go_ret
       exact ⟨G.tr, G.dn⟩
      ·rw [if_neg c11] at H
       have c11b0 : decide ((l0.length : Int) < (l1.length : Int)) = false := decide_eq_false c11
       have c11b1 : decide (l0.length < l1.length) = false := decide_eq_false (fun h => c11 (Int.ofNat_lt.mpr h))
       clear c11
       by_cases c12 : (l0.length : Int) > (l1.length : Int)
       ·rw [if_pos c12] at H
        have c12b0 : decide ((l1.length : Int) < (l0.length : Int)) = true := decide_eq_true c12
        have c12b1 : decide (l1.length < l0.length) = true := decide_eq_true (Int.ofNat_lt.mp c12)
        clear c12
        obtain rfl := Option.some.inj H
        go_wp2
        repeat (go_quiet (fail); try go_wp2)
        go_ret
        exact ⟨G.tr, G.dn⟩
       ·rw [if_neg c12] at H
        have c12b0 : decide ((l1.length : Int) < (l0.length : Int)) = false := decide_eq_false c12
        have c12b1 : decide (l1.length < l0.length) = false := decide_eq_false (fun h => c12 (Int.ofNat_lt.mpr h))
        clear c12
        obtain rfl := Option.some.inj H
        go_wp2
        repeat (go_quiet (fail); try go_wp2)
        go_ret
        exact ⟨G.tr, G.dn⟩
def spec_IsLyndon.l0 : Nat → List Int → Int → Option (Bool)
 | 0, _, _ => none
 | k + 1, x0, x3 => if x3 < (x0.length : Int) then (if 0 ≤ x3 then (if x3 ≤ (x0.length : Int) then ((spec_CompareWords.f k x0 (x0.drop (x3 : Int).toNat)).bind fun t659 => (if t659 ≥ 0 then (some false) else (spec_IsLyndon.l0 k x0 (wrap64 (x3 + 1))))) else (none)) else (none)) else (some (decide ((x0.length : Int) > 0)))
def spec_IsLyndon.f (k : Nat) (l0 : List Int) : Option (Bool) := spec_IsLyndon.l0 k l0 1
theorem spec_IsLyndon.calls (k : Nat) (A0 : Option Addr) (c0 : Nat) (l0 : List Int) (r : Bool) (w : World) (hr0 : Kd.C (Kd.int .i64) w A0 l0.length l0) (hc0 : l0.length ≤ c0) (h : spec_IsLyndon.f k l0 = some r) :
  Calls Tryz.prog 13 #[.slice A0 l0.length c0] w fun e w' => e = .returned (.bool r) ∧ Drawn0 w w' := by
 have HR0 := G.a hr0
 have HC0 := G.a hc0
 clear hr0 hc0
 have H : (spec_IsLyndon.l0 k l0 1) = some r := h
 clear h
 have H' := G.a H
 clear H
 go_enter Tryz.func13, Tryz.ntmps13
 go_wp2
 go_loopg [3] k (fun kq v3 w' => ∃ (x3_1 : Int), v3 = .int .i64 x3_1 ∧ Aside0 (spec_IsLyndon.l0 kq l0 x3_1 = some r) ∧ Aside0 (kq ≤ k) ∧ Drawn0 w w')
 case atStart => exact ⟨(1), G.tr, H', ⟨Nat.le_refl _⟩, G.dn⟩
 case round =>
  clear H'
  try clear c1
  obtain ⟨x3_1, rfl, HA, HK1, ⟨m1, rfl⟩⟩ := hrel
  cases gk with
  | zero => exact absurd HA.out (by simp [spec_IsLyndon.l0])
  | succ k1 =>
   have H := HA.out
   clear HA
   simp only [spec_IsLyndon.l0] at H
   by_cases c2 : x3_1 < (l0.length : Int)
   ·rw [if_pos c2] at H
    have c2b0 : decide (x3_1 < (l0.length : Int)) = true := decide_eq_true c2
    clear c2
    by_cases c3 : 0 ≤ x3_1
    ·rw [if_pos c3] at H
     have c3b0 := eq_true c3
     have c3b1 : decide (0 ≤ x3_1) = true := decide_eq_true c3
     clear c3
     by_cases c4 : x3_1 ≤ (l0.length : Int)
     ·rw [if_pos c4] at H
      have c4b0 := eq_true c4
      have c4b1 : decide (x3_1 ≤ (l0.length : Int)) = true := decide_eq_true c4
      clear c4
      obtain ⟨t659, A5, H⟩ := G.bx H
      by_cases c6 : t659 ≥ 0
      ·rw [if_pos c6] at H
       have c6b0 : decide (0 ≤ t659) = true := decide_eq_true c6
       clear c6
       obtain rfl := Option.some.inj H
       obtain ⟨i07, hi07, _, hsz7, _⟩ := info_parts info3
       obtain ⟨A7, hcut7, hA7, hC7⟩ := print_drop_of (P := Tryz.prog) (Value.int .i64) 0 24 3 .i64 Tryz.underlying24 hi07 hsz7 A0 c0 l0 x3_1 G.odt G.odt HC0.out
       have HR658 := G.a (Kd.C_of_reads (h1 := fun _ => rfl) (hA7 _ (Kd.reads_of_C HR0.out)))
       have HC658 := G.a hC7
       clear hA7 hC7 hi07 hsz7
       go_wp2_with (first | ((with_reducible refine gate_callee (f := 33) rfl ?_); refine goesL_ (some 14) rfl rfl Tryz.func33 (by kernel_rfl) rfl #[.slice A0 l0.length c0, .slice A7 (l0.drop (x3_1 : Int).toNat).length (c0 - x3_1.toNat)] rfl (by (try simp only [List.map_toArray, List.map_cons, List.map_nil]); first | done | (rw [show (l0.drop (x3_1 : Int).toNat).length = (l0.length - x3_1.toNat) from List.length_drop] <;> rfl) | rfl | (simp only [List.length_drop, List.length_take]; rfl)) ?_; (with_reducible refine (spec_CompareWords.calls k1 _ _ l0 _ _ (l0.drop (x3_1 : Int).toNat) t659 _ ?side1 ?side2 ?side3 ?side4 A5.out).mono ?_); (case side1 => exact G.kC HR0.out); (case side2 => exact HC0.out); (case side3 => exact G.kC HR658.out); (case side4 => exact HC658.out); rintro e w' ⟨rfl, ⟨nd, rfl⟩⟩; refine ⟨_, rfl, ?_⟩))
       go_ret
       exact ⟨G.tr, G.dn⟩
      ·rw [if_neg c6] at H
       have c6b0 : decide (0 ≤ t659) = false := decide_eq_false c6
       clear c6
       have H' := G.a H
       clear H
       obtain ⟨i08, hi08, _, hsz8, _⟩ := info_parts info3
       obtain ⟨A8, hcut8, hA8, hC8⟩ := print_drop_of (P := Tryz.prog) (Value.int .i64) 0 24 3 .i64 Tryz.underlying24 hi08 hsz8 A0 c0 l0 x3_1 G.odt G.odt HC0.out
       have HR658 := G.a (Kd.C_of_reads (h1 := fun _ => rfl) (hA8 _ (Kd.reads_of_C HR0.out)))
       have HC658 := G.a hC8
       clear hA8 hC8 hi08 hsz8
       go_wp2_with (first | ((with_reducible refine gate_callee (f := 33) rfl ?_); refine goesL_ (some 14) rfl rfl Tryz.func33 (by kernel_rfl) rfl #[.slice A0 l0.length c0, .slice A8 (l0.drop (x3_1 : Int).toNat).length (c0 - x3_1.toNat)] rfl (by (try simp only [List.map_toArray, List.map_cons, List.map_nil]); first | done | (rw [show (l0.drop (x3_1 : Int).toNat).length = (l0.length - x3_1.toNat) from List.length_drop] <;> rfl) | rfl | (simp only [List.length_drop, List.length_take]; rfl)) ?_; (with_reducible refine (spec_CompareWords.calls k1 _ _ l0 _ _ (l0.drop (x3_1 : Int).toNat) t659 _ ?side1 ?side2 ?side3 ?side4 A5.out).mono ?_); (case side1 => exact G.kC HR0.out); (case side2 => exact HC0.out); (case side3 => exact G.kC HR658.out); (case side4 => exact HC658.out); rintro e w' ⟨rfl, ⟨nd, rfl⟩⟩; refine ⟨_, rfl, ?_⟩))
       go_roundg k1
       case measure => have := HK1.out; omega
       case rel => exact ⟨(wrap64 (x3_1 + 1)), G.tr, H', ⟨by have := HK1.out; omega⟩, G.dn⟩
     ·rw [if_neg c4] at H
      exact absurd H (by simp)
    ·rw [if_neg c3] at H
     exact absurd H (by simp)
   ·rw [if_neg c2] at H
    have c2b0 : decide (x3_1 < (l0.length : Int)) = false := decide_eq_false c2
    clear c2
    obtain rfl := Option.some.inj H
    go_wp2
    go_ret
    exact ⟨G.tr, G.dn⟩
def impl_SquaresInRun.f (a0_0 : Int) (a0_1 : Int) (a0_2 : Int) : Option (Int) := if a0_0 < 0 then (some 0) else (if a0_1 > 64 then (some 0) else (if a0_2 < 1 then (some 0) else (if a0_2 > 64 then (some 0) else (if a0_1 < a0_0 then (some 0) else (some (mx 0 (wrap64 ((wrap64 ((wrap64 (a0_1 - a0_0)) - (wrap64 (2 * a0_2)))) + 1))))))))
theorem impl_SquaresInRun.calls (a0_0 : Int) (a0_1 : Int) (a0_2 : Int) (r : Int) (w : World) (h : impl_SquaresInRun.f a0_0 a0_1 a0_2 = some r) :
  Calls Tryz.prog 14 #[.agg #[.int .i64 a0_0, .int .i64 a0_1, .int .i64 a0_2]] w fun e w' => e = .returned (.int .i64 r) ∧ Below w.heap.size w w' := by
 have hu32 := Tryz.underlying32
 have HB := G.a (Below.refl w.heap.size w)
 have H : (if a0_0 < 0 then (some 0) else (if a0_1 > 64 then (some 0) else (if a0_2 < 1 then (some 0) else (if a0_2 > 64 then (some 0) else (if a0_1 < a0_0 then (some 0) else (some (mx 0 (wrap64 ((wrap64 ((wrap64 (a0_1 - a0_0)) - (wrap64 (2 * a0_2)))) + 1))))))))) = some r := h
 clear h
 by_cases c2 : a0_0 < 0
 ·rw [if_pos c2] at H
  have c2b0 : decide (a0_0 < 0) = true := decide_eq_true c2
  clear c2
  obtain rfl := Option.some.inj H
  go_enter Tryz.func14, Tryz.ntmps14
  go_wp2_with (first | ((with_reducible refine gate_dst (N := 1) rfl ?_); refine box_event ?hg (N := 1) ?hd (cs := #[.int .i64 a0_0, .int .i64 a0_1, .int .i64 a0_2]) (t := 32) ?hr ?_; (case hd => rfl); (case hg => rfl); (case hr => first | (go_simp; done) | (go_simp; rfl)); intro gb660 hg w3 hbox hb; have n0_ := G.a (below_step G.bel hb); have n1_ := G.a (hbox); have n2_ := G.a ((by rw [hg]; exact (below_size G.bel) : w.heap.size ≤ gb660)); have n3_ := G.a ((by rw [hg]; exact (below_size G.bel) : w.heap.size ≤ gb660)); clear HB; have HB := n0_; have BK660 := n1_; have GW660 := n2_; have GE660 := n3_; clear n0_ n1_ n2_ n3_; clear hb hbox hg; have hcz4_0 : w3.cell? ⟨gb660, 0, none⟩ = some (.int .i64 a0_0) := (blk_cell BK660.out 0).trans rfl; have hcz4_1 : w3.cell? ⟨gb660, 1, none⟩ = some (.int .i64 a0_1) := (blk_cell BK660.out 1).trans rfl; have hcz4_2 : w3.cell? ⟨gb660, 2, none⟩ = some (.int .i64 a0_2) := (blk_cell BK660.out 2).trans rfl; have hfz4_0 := blk_frozen BK660.out 0; have hfz4_1 := blk_frozen BK660.out 1; have hfz4_2 := blk_frozen BK660.out 2))
  go_ret
  exact ⟨G.er, G.bes GE660.out⟩
 ·rw [if_neg c2] at H
  have c2b0 : decide (a0_0 < 0) = false := decide_eq_false c2
  clear c2
  by_cases c5 : a0_1 > 64
  ·rw [if_pos c5] at H
   have c5b0 : decide (64 < a0_1) = true := decide_eq_true c5
   clear c5
   obtain rfl := Option.some.inj H
   go_enter Tryz.func14, Tryz.ntmps14
   go_wp2_with (first | ((with_reducible refine gate_dst (N := 1) rfl ?_); refine box_event ?hg (N := 1) ?hd (cs := #[.int .i64 a0_0, .int .i64 a0_1, .int .i64 a0_2]) (t := 32) ?hr ?_; (case hd => rfl); (case hg => rfl); (case hr => first | (go_simp; done) | (go_simp; rfl)); intro gb660 hg w6 hbox hb; have n0_ := G.a (below_step G.bel hb); have n1_ := G.a (hbox); have n2_ := G.a ((by rw [hg]; exact (below_size G.bel) : w.heap.size ≤ gb660)); have n3_ := G.a ((by rw [hg]; exact (below_size G.bel) : w.heap.size ≤ gb660)); clear HB; have HB := n0_; have BK660 := n1_; have GW660 := n2_; have GE660 := n3_; clear n0_ n1_ n2_ n3_; clear hb hbox hg; have hcz7_0 : w6.cell? ⟨gb660, 0, none⟩ = some (.int .i64 a0_0) := (blk_cell BK660.out 0).trans rfl; have hcz7_1 : w6.cell? ⟨gb660, 1, none⟩ = some (.int .i64 a0_1) := (blk_cell BK660.out 1).trans rfl; have hcz7_2 : w6.cell? ⟨gb660, 2, none⟩ = some (.int .i64 a0_2) := (blk_cell BK660.out 2).trans rfl; have hfz7_0 := blk_frozen BK660.out 0; have hfz7_1 := blk_frozen BK660.out 1; have hfz7_2 := blk_frozen BK660.out 2))
   go_ret
   exact ⟨G.er, G.bes GE660.out⟩
  ·rw [if_neg c5] at H
   have c5b0 : decide (64 < a0_1) = false := decide_eq_false c5
   clear c5
   by_cases c8 : a0_2 < 1
   ·rw [if_pos c8] at H
    have c8b0 : decide (a0_2 < 1) = true := decide_eq_true c8
    clear c8
    obtain rfl := Option.some.inj H
    go_enter Tryz.func14, Tryz.ntmps14
    go_wp2_with (first | ((with_reducible refine gate_dst (N := 1) rfl ?_); refine box_event ?hg (N := 1) ?hd (cs := #[.int .i64 a0_0, .int .i64 a0_1, .int .i64 a0_2]) (t := 32) ?hr ?_; (case hd => rfl); (case hg => rfl); (case hr => first | (go_simp; done) | (go_simp; rfl)); intro gb660 hg w9 hbox hb; have n0_ := G.a (below_step G.bel hb); have n1_ := G.a (hbox); have n2_ := G.a ((by rw [hg]; exact (below_size G.bel) : w.heap.size ≤ gb660)); have n3_ := G.a ((by rw [hg]; exact (below_size G.bel) : w.heap.size ≤ gb660)); clear HB; have HB := n0_; have BK660 := n1_; have GW660 := n2_; have GE660 := n3_; clear n0_ n1_ n2_ n3_; clear hb hbox hg; have hcz10_0 : w9.cell? ⟨gb660, 0, none⟩ = some (.int .i64 a0_0) := (blk_cell BK660.out 0).trans rfl; have hcz10_1 : w9.cell? ⟨gb660, 1, none⟩ = some (.int .i64 a0_1) := (blk_cell BK660.out 1).trans rfl; have hcz10_2 : w9.cell? ⟨gb660, 2, none⟩ = some (.int .i64 a0_2) := (blk_cell BK660.out 2).trans rfl; have hfz10_0 := blk_frozen BK660.out 0; have hfz10_1 := blk_frozen BK660.out 1; have hfz10_2 := blk_frozen BK660.out 2))
    go_ret
    exact ⟨G.er, G.bes GE660.out⟩
   ·rw [if_neg c8] at H
    have c8b0 : decide (a0_2 < 1) = false := decide_eq_false c8
    clear c8
    by_cases c11 : a0_2 > 64
    ·rw [if_pos c11] at H
     have c11b0 : decide (64 < a0_2) = true := decide_eq_true c11
     clear c11
     obtain rfl := Option.some.inj H
     go_enter Tryz.func14, Tryz.ntmps14
     go_wp2_with (first | ((with_reducible refine gate_dst (N := 1) rfl ?_); refine box_event ?hg (N := 1) ?hd (cs := #[.int .i64 a0_0, .int .i64 a0_1, .int .i64 a0_2]) (t := 32) ?hr ?_; (case hd => rfl); (case hg => rfl); (case hr => first | (go_simp; done) | (go_simp; rfl)); intro gb660 hg w12 hbox hb; have n0_ := G.a (below_step G.bel hb); have n1_ := G.a (hbox); have n2_ := G.a ((by rw [hg]; exact (below_size G.bel) : w.heap.size ≤ gb660)); have n3_ := G.a ((by rw [hg]; exact (below_size G.bel) : w.heap.size ≤ gb660)); clear HB; have HB := n0_; have BK660 := n1_; have GW660 := n2_; have GE660 := n3_; clear n0_ n1_ n2_ n3_; clear hb hbox hg; have hcz13_0 : w12.cell? ⟨gb660, 0, none⟩ = some (.int .i64 a0_0) := (blk_cell BK660.out 0).trans rfl; have hcz13_1 : w12.cell? ⟨gb660, 1, none⟩ = some (.int .i64 a0_1) := (blk_cell BK660.out 1).trans rfl; have hcz13_2 : w12.cell? ⟨gb660, 2, none⟩ = some (.int .i64 a0_2) := (blk_cell BK660.out 2).trans rfl; have hfz13_0 := blk_frozen BK660.out 0; have hfz13_1 := blk_frozen BK660.out 1; have hfz13_2 := blk_frozen BK660.out 2))
     go_ret
     exact ⟨G.er, G.bes GE660.out⟩
    ·rw [if_neg c11] at H
     have c11b0 : decide (64 < a0_2) = false := decide_eq_false c11
     clear c11
     by_cases c14 : a0_1 < a0_0
     ·rw [if_pos c14] at H
      have c14b0 : decide (a0_1 < a0_0) = true := decide_eq_true c14
      clear c14
      obtain rfl := Option.some.inj H
      go_enter Tryz.func14, Tryz.ntmps14
      go_wp2_with (first | ((with_reducible refine gate_dst (N := 1) rfl ?_); refine box_event ?hg (N := 1) ?hd (cs := #[.int .i64 a0_0, .int .i64 a0_1, .int .i64 a0_2]) (t := 32) ?hr ?_; (case hd => rfl); (case hg => rfl); (case hr => first | (go_simp; done) | (go_simp; rfl)); intro gb660 hg w15 hbox hb; have n0_ := G.a (below_step G.bel hb); have n1_ := G.a (hbox); have n2_ := G.a ((by rw [hg]; exact (below_size G.bel) : w.heap.size ≤ gb660)); have n3_ := G.a ((by rw [hg]; exact (below_size G.bel) : w.heap.size ≤ gb660)); clear HB; have HB := n0_; have BK660 := n1_; have GW660 := n2_; have GE660 := n3_; clear n0_ n1_ n2_ n3_; clear hb hbox hg; have hcz16_0 : w15.cell? ⟨gb660, 0, none⟩ = some (.int .i64 a0_0) := (blk_cell BK660.out 0).trans rfl; have hcz16_1 : w15.cell? ⟨gb660, 1, none⟩ = some (.int .i64 a0_1) := (blk_cell BK660.out 1).trans rfl; have hcz16_2 : w15.cell? ⟨gb660, 2, none⟩ = some (.int .i64 a0_2) := (blk_cell BK660.out 2).trans rfl; have hfz16_0 := blk_frozen BK660.out 0; have hfz16_1 := blk_frozen BK660.out 1; have hfz16_2 := blk_frozen BK660.out 2))
      go_ret
      exact ⟨G.er, G.bes GE660.out⟩
     ·rw [if_neg c14] at H
      have c14b0 : decide (a0_1 < a0_0) = false := decide_eq_false c14
      clear c14
      obtain ⟨ji17, hji17⟩ : ∃ j_ : Int, (mx 0 (wrap64 ((wrap64 ((wrap64 (a0_1 - a0_0)) - (wrap64 (2 * a0_2)))) + 1))) = j_ := ⟨_, rfl⟩
      replace H : (some ji17) = some r := by first | (rw [hji17] at H; exact H) | (simp only [hji17] at H ⊢; exact H)
      (try (have hji17l : 0 ≤ ji17 := by (rw [← hji17]; unfold mx; (repeat' split) <;> omega)))
      (try (have hji17m : 0 ≤ ji17 := by omega))
      have hji17_ : (if 0 < (wrap64 ((wrap64 ((wrap64 (a0_1 - a0_0)) - (wrap64 (2 * a0_2)))) + 1)) then (wrap64 ((wrap64 ((wrap64 (a0_1 - a0_0)) - (wrap64 (2 * a0_2)))) + 1)) else 0) = ji17 := hji17
      obtain rfl := Option.some.inj H
      go_enter Tryz.func14, Tryz.ntmps14
      go_wp2_with (first | ((with_reducible refine gate_dst (N := 1) rfl ?_); refine box_event ?hg (N := 1) ?hd (cs := #[.int .i64 a0_0, .int .i64 a0_1, .int .i64 a0_2]) (t := 32) ?hr ?_; (case hd => rfl); (case hg => rfl); (case hr => first | (go_simp; done) | (go_simp; rfl)); intro gb660 hg w18 hbox hb; have n0_ := G.a (below_step G.bel hb); have n1_ := G.a (hbox); have n2_ := G.a ((by rw [hg]; exact (below_size G.bel) : w.heap.size ≤ gb660)); have n3_ := G.a ((by rw [hg]; exact (below_size G.bel) : w.heap.size ≤ gb660)); clear HB; have HB := n0_; have BK660 := n1_; have GW660 := n2_; have GE660 := n3_; clear n0_ n1_ n2_ n3_; clear hb hbox hg; have hcz19_0 : w18.cell? ⟨gb660, 0, none⟩ = some (.int .i64 a0_0) := (blk_cell BK660.out 0).trans rfl; have hcz19_1 : w18.cell? ⟨gb660, 1, none⟩ = some (.int .i64 a0_1) := (blk_cell BK660.out 1).trans rfl; have hcz19_2 : w18.cell? ⟨gb660, 2, none⟩ = some (.int .i64 a0_2) := (blk_cell BK660.out 2).trans rfl; have hfz19_0 := blk_frozen BK660.out 0; have hfz19_1 := blk_frozen BK660.out 1; have hfz19_2 := blk_frozen BK660.out 2))
      go_ret
      exact ⟨by first | rfl | (simp [errW_none, errW_some] <;> rfl) | (simp only [← hji17]; first | rfl | (simp [errW_none, errW_some] <;> rfl)) | (simp [*, errW_none, errW_some] <;> rfl), G.bes GE660.out⟩
def spec_l10Match.l0 : Nat → List Int → Int → Int → Int → Option (Int)
 | 0, _, _, _, _ => none
 | k + 1, x0, x1, x2, x7 => if (wrap64 (x1 + x7)) < (x0.length : Int) then (if 0 ≤ (wrap64 (x1 + x7)) then (if 0 ≤ (wrap64 ((wrap64 (x1 + x7)) - x2)) then (if (wrap64 ((wrap64 (x1 + x7)) - x2)) < (x0.length : Int) then (if (rd x0 (wrap64 (x1 + x7))) = (rd x0 (wrap64 ((wrap64 (x1 + x7)) - x2))) then (spec_l10Match.l0 k x0 x1 x2 (wrap64 (x7 + 1))) else (some (mn x7 (wrap64 ((x0.length : Int) - x1))))) else (none)) else (none)) else (none)) else (some (mn x7 (wrap64 ((x0.length : Int) - x1))))
def spec_l10Match.f (k : Nat) (l0 : List Int) (a1 : Int) (a2 : Int) : Option (Int) := spec_l10Match.l0 k l0 a1 a2 a2
theorem spec_l10Match.calls (k : Nat) (A0 : Option Addr) (c0 : Nat) (l0 : List Int) (a1 : Int) (a2 : Int) (r : Int) (w : World) (hr0 : Kd.C (Kd.int .i64) w A0 l0.length l0) (hc0 : l0.length ≤ c0) (h : spec_l10Match.f k l0 a1 a2 = some r) :
  Calls Tryz.prog 34 #[.slice A0 l0.length c0, .int .i64 a1, .int .i64 a2] w fun e w' => e = .returned (.int .i64 r) ∧ Below w.heap.size w w' := by
 have HR0 := G.a hr0
 have HC0 := G.a hc0
 clear hr0 hc0
 have HB := G.a (Below.refl w.heap.size w)
 have H : (spec_l10Match.l0 k l0 a1 a2 a2) = some r := h
 clear h
 have H' := G.a H
 clear H
 go_enter Tryz.func34, Tryz.ntmps34
 go_wp2
 repeat (go_quiet (fail); try go_wp2)
 go_loopg [7] k (fun kq v7 w' => ∃ (x7_1 : Int), v7 = .int .i64 x7_1 ∧ Aside0 (spec_l10Match.l0 kq l0 a1 a2 x7_1 = some r) ∧ Aside0 (kq ≤ k) ∧ Aside0 (Below w.heap.size w w'))
 case atStart => exact ⟨(a2), G.tr, H', ⟨Nat.le_refl _⟩, ⟨G.bel⟩⟩
 case round =>
  clear H'
  try clear p2; try clear c3
  obtain ⟨x7_1, rfl, HA, HK1, HB⟩ := hrel
  cases gk with
  | zero => exact absurd HA.out (by simp [spec_l10Match.l0])
  | succ k1 =>
   have H := HA.out
   clear HA
   simp only [spec_l10Match.l0] at H
   by_cases c4 : (wrap64 (a1 + x7_1)) < (l0.length : Int)
   ·rw [if_pos c4] at H
    have c4b0 : decide ((wrap64 (a1 + x7_1)) < (l0.length : Int)) = true := decide_eq_true c4
    clear c4
    obtain ⟨ji5, hji5⟩ : ∃ j_ : Int, (wrap64 (a1 + x7_1)) = j_ := ⟨_, rfl⟩
    replace H : (if 0 ≤ (ji5) then (if 0 ≤ (wrap64 ((ji5) - a2)) then (if (wrap64 ((ji5) - a2)) < (l0.length : Int) then (if (rd l0 (ji5)) = (rd l0 (wrap64 ((ji5) - a2))) then (spec_l10Match.l0 k1 l0 a1 a2 (wrap64 (x7_1 + 1))) else (some (mn x7_1 (wrap64 ((l0.length : Int) - a1))))) else (none)) else (none)) else (none)) = some r := by first | (rw [hji5] at H; exact H) | (simp only [hji5] at H ⊢; exact H)
    (try rw [hji5] at c4b0)
    have hji5w : (IntKind.i64.wrap (a1 + x7_1)) = ji5 := (i64_w _).trans hji5
    by_cases c6 : 0 ≤ (ji5)
    ·rw [if_pos c6] at H
     have c6b0 : decide (0 ≤ (ji5)) = true := decide_eq_true c6
     clear c6
     obtain ⟨ji7, hji7⟩ : ∃ j_ : Int, (wrap64 ((ji5) - a2)) = j_ := ⟨_, rfl⟩
     replace H : (if 0 ≤ (ji7) then (if (ji7) < (l0.length : Int) then (if (rd l0 (ji5)) = (rd l0 (ji7)) then (spec_l10Match.l0 k1 l0 a1 a2 (wrap64 (x7_1 + 1))) else (some (mn x7_1 (wrap64 ((l0.length : Int) - a1))))) else (none)) else (none)) = some r := by first | (rw [hji7] at H; exact H) | (simp only [hji7] at H ⊢; exact H)
     have hji7w : (IntKind.i64.wrap ((ji5) - a2)) = ji7 := (i64_w _).trans hji7
     by_cases c8 : 0 ≤ (ji7)
     ·rw [if_pos c8] at H
      have c8b0 : decide (0 ≤ (ji7)) = true := decide_eq_true c8
      clear c8
      by_cases c9 : (ji7) < (l0.length : Int)
      ·rw [if_pos c9] at H
       have c9b0 : decide ((ji7) < (l0.length : Int)) = true := decide_eq_true c9
       clear c9
       by_cases c10 : (rd l0 (ji5)) = (rd l0 (ji7))
       ·rw [if_pos c10] at H
        have c10b0 : ((rd l0 (ji5)) == (rd l0 (ji7))) = true := beq_iff_eq.mpr c10
        have c10b1 : ((rd l0 (ji5)) != (rd l0 (ji7))) = false := bne_eq_false_iff_eq.mpr c10
        clear c10
        have H' := G.a H
        clear H
        have p661 : 0 ≤ ((ji5) : Int) := G.odt
        have q661 : (ji5) < (l0.length : Int) := G.odt
        obtain ⟨ad661, e661, hx661_0⟩ := Kd.at_int HR0.out (ji5) p661 q661
        cases e661
        replace hx661_0 := (HB.out.cell (World.block_lt_of_cell? w _ hx661_0)).trans hx661_0
        replace p661 := eq_true p661
        replace q661 := eq_true q661
        have p662 : 0 ≤ ((ji7) : Int) := G.odt
        have q662 : (ji7) < (l0.length : Int) := G.odt
        obtain ⟨ad662, e662, hx662_0⟩ := Kd.at_int HR0.out (ji7) p662 q662
        obtain rfl : ad661 = ad662 := (by injection e662)
        replace hx662_0 := (HB.out.cell (World.block_lt_of_cell? w _ hx662_0)).trans hx662_0
        replace p662 := eq_true p662
        replace q662 := eq_true q662
        go_wp2
        repeat (go_quiet (fail); try go_wp2)
        go_roundg k1
        case measure => have := HK1.out; omega
        case rel => exact ⟨(wrap64 (x7_1 + 1)), G.tr, H', ⟨by have := HK1.out; omega⟩, ⟨G.bel⟩⟩
       ·rw [if_neg c10] at H
        have c10b0 : ((rd l0 (ji5)) == (rd l0 (ji7))) = false := beq_eq_false_iff_ne.mpr c10
        have c10b1 : ((rd l0 (ji5)) != (rd l0 (ji7))) = true := bne_iff_ne.mpr c10
        obtain ⟨ji11, hji11⟩ : ∃ j_ : Int, (mn x7_1 (wrap64 ((l0.length : Int) - a1))) = j_ := ⟨_, rfl⟩
        replace H : (some ji11) = some r := by first | (rw [hji11] at H; exact H) | (simp only [hji11] at H ⊢; exact H)
        have hji11_ : (if (wrap64 ((l0.length : Int) - a1)) < x7_1 then (wrap64 ((l0.length : Int) - a1)) else x7_1) = ji11 := hji11
        obtain rfl := Option.some.inj H
        have p661 : 0 ≤ ((ji5) : Int) := G.odt
        have q661 : (ji5) < (l0.length : Int) := G.odt
        obtain ⟨ad661, e661, hx661_0⟩ := Kd.at_int HR0.out (ji5) p661 q661
        cases e661
        replace hx661_0 := (HB.out.cell (World.block_lt_of_cell? w _ hx661_0)).trans hx661_0
        replace p661 := eq_true p661
        replace q661 := eq_true q661
        have p662 : 0 ≤ ((ji7) : Int) := G.odt
        have q662 : (ji7) < (l0.length : Int) := G.odt
        obtain ⟨ad662, e662, hx662_0⟩ := Kd.at_int HR0.out (ji7) p662 q662
        obtain rfl : ad661 = ad662 := (by injection e662)
        replace hx662_0 := (HB.out.cell (World.block_lt_of_cell? w _ hx662_0)).trans hx662_0
        replace p662 := eq_true p662
        replace q662 := eq_true q662
        go_wp2
        repeat (go_quiet (fail); try go_wp2)
        go_ret
        exact ⟨by first | rfl | (simp [errW_none, errW_some] <;> rfl) | (simp only [← hji5, ← hji7, ← hji11]; first | rfl | (simp [errW_none, errW_some] <;> rfl)) | (simp [*, errW_none, errW_some] <;> rfl), G.bel⟩
      ·rw [if_neg c9] at H
       exact absurd H (by simp)
     ·rw [if_neg c8] at H
      exact absurd H (by simp)
    ·rw [if_neg c6] at H
     exact absurd H (by simp)
   ·rw [if_neg c4] at H
    have c4b0 : decide ((wrap64 (a1 + x7_1)) < (l0.length : Int)) = false := decide_eq_false c4
    clear c4
    obtain ⟨ji12, hji12⟩ : ∃ j_ : Int, (mn x7_1 (wrap64 ((l0.length : Int) - a1))) = j_ := ⟨_, rfl⟩
    replace H : (some ji12) = some r := by first | (rw [hji12] at H; exact H) | (simp only [hji12] at H ⊢; exact H)
    have hji12_ : (if (wrap64 ((l0.length : Int) - a1)) < x7_1 then (wrap64 ((l0.length : Int) - a1)) else x7_1) = ji12 := hji12
    obtain rfl := Option.some.inj H
    go_wp2
    repeat (go_quiet (fail); try go_wp2)
    go_ret
    exact ⟨by first | rfl | (simp [errW_none, errW_some] <;> rfl) | (simp only [← hji12]; first | rfl | (simp [errW_none, errW_some] <;> rfl)) | (simp [*, errW_none, errW_some] <;> rfl), G.bel⟩
end Go.Proofs.YtolikggioekalabGreat.PFnRuns
