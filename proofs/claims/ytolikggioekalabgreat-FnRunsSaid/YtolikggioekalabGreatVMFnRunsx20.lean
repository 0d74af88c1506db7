/- The Go functions that the law FnRuns reaches (part 20): each as a Lean function, and that its code comes to these answers. No condition beyond those written. -/
import Derived.Test.YtolikggioekalabGreatVGPick
import Derived.Test.YtolikggioekalabGreatVMFnRunsx19
namespace Go.Proofs.YtolikggioekalabGreat.PFnRuns
open Go.RowKit Go.Proofs.YtolikggioekalabGreatW.PrintWords Go.Proofs.YtolikggioekalabGreatW.PrintLast Go.Proofs.YtolikggioekalabGreatW.PrintMore
attribute [local go_sem] max2_int min2_int max_two min_two max_three min_three max_four min_four
set_option linter.unusedVariables false
set_option linter.unusedSimpArgs false
set_option linter.unnecessarySimpa false
attribute [local go_sem high] eqA32
mutual
noncomputable def laws_FnRuns.j0 : Nat → List Int → List Int → List (S32) → List (S32) → Bool → Option (Bool)
 | 0, _, _, _, _, _ => none
 | k + 1, x0, x3, x4, x5, x60 => if x60 = true then (some false) else (laws_FnRuns.l0 k x0 x3 x4 x5 0)
noncomputable def laws_FnRuns.l0 : Nat → List Int → List Int → List (S32) → List (S32) → Int → Option (Bool)
 | 0, _, _, _, _, _ => none
 | k + 1, x0, x3, x4, x5, x6 => if x6 < (x4.length : Int) then (if 0 ≤ x6 then (if x6 < (x5.length : Int) then ((impl_RootOfRun.f k x3 ((rd_T32 x5 x6).f0) ((rd_T32 x5 x6).f1) ((rd_T32 x5 x6).f2)).bind fun bt822 => (if (!(((rd_T32 x4 x6).f0) == ((rd_T32 x5 x6).f0)) || (!(((rd_T32 x4 x6).f1) == ((rd_T32 x5 x6).f1)) || (!(((rd_T32 x4 x6).f2) == ((rd_T32 x5 x6).f2))))) = true then (some false) else ((impl_IsRun.f k x3 ((rd_T32 x5 x6).f0) ((rd_T32 x5 x6).f1) ((rd_T32 x5 x6).f2)).bind fun t829 => (if t829 = true then (if bt822.2 = true then ((spec_IsLyndon.f k bt822.1).bind fun t830 => (if t830 = true then ((impl_SquaresInRun.f ((rd_T32 x5 x6).f0) ((rd_T32 x5 x6).f1) ((rd_T32 x5 x6).f2)).bind fun t832 => (if t832 < 1 then (some false) else (laws_FnRuns.l0 k x0 x3 x4 x5 (wrap64 (x6 + 1))))) else (some false))) else (some false)) else (some false))))) else (none)) else (none)) else ((spec_SquaresOf.f k x3).bind fun t833 => (laws_FnRuns.l1 k x0 x5 t833 0))
noncomputable def laws_FnRuns.l1 : Nat → List Int → List (S32) → List (S39) → Int → Option (Bool)
 | 0, _, _, _, _ => none
 | k + 1, x0, x5, x9, x10 => if x10 < (x9.length : Int) then (laws_FnRuns.l2 k x0 x5 x9 x10 false 0) else (G.draw spec_DrawIsRun.Ok fun k bt843 => (G.draw spec_DrawRootOfRun.Ok fun k bt850 => ((impl_RootOfRun.f k bt850.1 bt850.2.1 bt850.2.2.1 bt850.2.2.2).bind fun bt857 => ((spec_RootOfRun.f k bt850.1 bt850.2.1 bt850.2.2.1 bt850.2.2.2).bind fun bt861 => (G.draw spec_DrawSquaresInRun.Ok fun k bt865 => ((impl_IsRun.f k bt843.1 bt843.2.1 bt843.2.2.1 bt843.2.2.2).bind fun t869 => ((spec_IsRun.f k bt843.1 bt843.2.1 bt843.2.2.1 bt843.2.2.2).bind fun t870 => (if (t869 == t870) = true then (if (bt857.2 == bt861.2) = true then ((laws_sameInts.f k bt857.1 bt861.1).bind fun t871 => (if t871 = true then ((impl_SquaresInRun.f bt865.1 bt865.2.1 bt865.2.2).bind fun t872 => ((spec_SquaresInRun.f bt865.1 bt865.2.1 bt865.2.2).bind fun t873 => (some (t872 == t873)))) else (some false))) else (some false)) else (some false)))))))))
noncomputable def laws_FnRuns.l2 : Nat → List Int → List (S32) → List (S39) → Int → Bool → Int → Option (Bool)
 | 0, _, _, _, _, _, _ => none
 | k + 1, x0, x5, x9, x10, x11, x12 => if x12 < (x5.length : Int) then (if x11 = true then (laws_FnRuns.l2 k x0 x5 x9 x10 true (wrap64 (x12 + 1))) else (if 0 ≤ x12 then (if 0 ≤ x10 then (if x10 < (x9.length : Int) then (if ((rd_T32 x5 x12).f0) ≤ ((rd_T39 x9 x10).f0) then (if (wrap64 (((rd_T39 x9 x10).f0) + ((rd_T39 x9 x10).f2))) ≤ ((rd_T32 x5 x12).f1) then (if ((rd_T32 x5 x12).f2) = 0 then (none) else (laws_FnRuns.l2 k x0 x5 x9 x10 ((Int.tmod ((rd_T39 x9 x10).f1) ((rd_T32 x5 x12).f2)) == 0) (wrap64 (x12 + 1)))) else (laws_FnRuns.l2 k x0 x5 x9 x10 false (wrap64 (x12 + 1)))) else (laws_FnRuns.l2 k x0 x5 x9 x10 false (wrap64 (x12 + 1)))) else (none)) else (none)) else (none))) else (if x11 = true then (laws_FnRuns.l1 k x0 x5 x9 (wrap64 (x10 + 1))) else (some false))
end
noncomputable def laws_FnRuns.f (k : Nat) (l0 : List Int) : Option (Bool) := (laws_big.f l0).bind fun t808 => (if t808 = true then (some true) else (G.draw spec_DrawRunsOf.Ok fun k t809 => ((impl_RunsOf.f k t809).bind fun t812 => ((spec_RunsOf.f k t809).bind fun t815 => (if (t812.length : Int) = (t815.length : Int) then ((impl_CountRuns.f k t809).bind fun t818 => (if t818 = (t815.length : Int) then ((impl_RunExponents.f k t809).bind fun t819 => ((spec_RunExponents.f k t809).bind fun t820 => (if t819 = t820 then (if (t809.length : Int) > 0 then (laws_FnRuns.j0 k l0 t809 t812 t815 (decide ((t815.length : Int) ≥ (t809.length : Int)))) else (laws_FnRuns.j0 k l0 t809 t812 t815 false)) else (laws_FnRuns.j0 k l0 t809 t812 t815 true)))) else (laws_FnRuns.j0 k l0 t809 t812 t815 true))) else (laws_FnRuns.j0 k l0 t809 t812 t815 true))))))
def laws_FnRuns.T12 : Bool × List (List Nat × List Nat) := (true, [([], []), ([], []), ([0, 1], [0, 1]), ([2], [2]), ([], []), ([], []), ([4, 5], [4, 5]), ([6], [6]), ([3, 7], [3, 7]), ([8], [8]), ([9], [9]), ([9], [9]), ([9], [9]), ([11, 12, 9], [9, 11, 12]), ([13, 9], [9, 13]), ([10, 14, 9, 9], [9, 10, 14]), ([15, 9], [9, 15]), ([9, 16], [9, 16]), ([17, 15], [17]), ([18], [18]), ([19, 18], [18, 19]), ([18, 20], [18, 20]), ([21, 18], [21]), ([22], [22]), ([23, 22, 22], [22, 23]), ([24, 22], [22, 24]), ([22, 25], [22, 25]), ([26, 24], [26]), ([27], [27]), ([27], [27]), ([28, 29, 27], [27, 28, 29]), ([30, 27], [27, 30]), ([31, 27, 27], [27, 31]), ([32, 27], [27, 32]), ([27, 33], [27, 33])])
def laws_FnRuns.B12 : List Nat := [0, 0, 3, 7, 0, 0, 48, 112, 255, 511, 1023, 1023, 1023, 7167, 15359, 32767, 65535, 131071, 262143, 524287, 1048575, 2097151, 4194303, 8388607, 16777215, 33554431, 67108863, 134217727, 268435455, 268435455, 1073741823, 2147483647, 4294967295, 8589934591, 17179869183]
theorem laws_FnRuns.tab12 : rtab .any (opsOf Tryz.f3 12) = laws_FnRuns.T12 := by kernel_rfl
theorem laws_FnRuns.bits12 : waitsOk laws_FnRuns.T12.2 laws_FnRuns.B12 = true := by kernel_rfl
def laws_FnRuns.T22 : Bool × List (List Nat × List Nat) := (true, [([], []), ([0], [0]), ([1], [1]), ([1], [1]), ([2, 3, 1], [1, 2, 3]), ([4, 1], [1, 4]), ([5, 1], [1, 5]), ([1], [1]), ([1], [1]), ([7, 8, 1], [1, 7, 8]), ([9, 1], [1, 9]), ([10, 1], [1, 10]), ([6, 11, 1], [1, 6, 11]), ([12, 1, 1], [1, 12]), ([13], [13]), ([13], [13]), ([14, 15, 13], [13, 14, 15]), ([16, 13], [13, 16]), ([17, 13], [13, 17]), ([13], [13]), ([13], [13]), ([19, 20, 13], [13, 19, 20]), ([21, 13], [13, 21]), ([22, 13], [13, 22]), ([18, 23, 13], [13, 18, 23]), ([13], [13]), ([13], [13]), ([25, 26, 13], [13, 25, 26]), ([27, 13], [13, 27]), ([28, 13], [13, 28]), ([24, 29, 13], [13, 24, 29]), ([13, 30, 1], [1, 13, 30]), ([31, 13, 1], [1, 31]), ([32], [32]), ([32], [32]), ([33, 34, 32], [32, 33, 34]), ([35, 32], [32, 35]), ([36, 32], [32, 36]), ([32], [32]), ([32], [32]), ([38, 39, 32], [32, 38, 39]), ([40, 32], [32, 40]), ([41, 32], [32, 41]), ([37, 42, 32], [32, 37, 42]), ([43, 32], [32, 43]), ([32, 44, 1], [1, 32, 44]), ([1, 45], [1, 45]), ([46, 32, 0, 1, 2, 3, 4, 5, 6, 7, 8, 9, 10, 11, 12, 13, 14, 15, 16, 17, 18, 19, 20, 21, 22, 23, 24, 25, 26, 27, 28, 29, 30, 31, 32, 33, 34, 35, 36, 37, 38, 39, 40, 41, 42, 43, 44, 45, 46], [0, 46])])
def laws_FnRuns.B22 : List Nat := [0, 1, 3, 3, 15, 31, 63, 3, 3, 387, 899, 1923, 4095, 8191, 16383, 16383, 65535, 131071, 262143, 16383, 16383, 1589247, 3686399, 7880703, 16777215, 16383, 16383, 100679679, 234897407, 503332863, 1073741823, 2147483647, 4294967295, 8589934591, 8589934591, 34359738367, 68719476735, 137438953471, 8589934591, 8589934591, 833223655423, 1932735283199, 4131758538751, 8796093022207, 17592186044415, 35184372088831, 70368744177663, 140737488355327]
theorem laws_FnRuns.tab22 : rtab .any (opsOf Tryz.f3 22) = laws_FnRuns.T22 := by kernel_rfl
theorem laws_FnRuns.bits22 : waitsOk laws_FnRuns.T22.2 laws_FnRuns.B22 = true := by kernel_rfl
def laws_FnRuns.T30 : Bool × List (List Nat × List Nat) := (true, [([], []), ([], []), ([0, 1], [0, 1]), ([], []), ([], []), ([3, 4, 2], [3, 4]), ([2, 5], [2, 5]), ([6, 5], [6]), ([7], [7]), ([7], [7]), ([8, 9, 7], [7, 8, 9]), ([7, 10], [7, 10]), ([11, 7], [11]), ([12], [12]), ([12], [12]), ([13, 14, 12, 12], [12, 13, 14]), ([12, 15], [12, 15]), ([16, 15], [16]), ([17], [17]), ([18, 17, 17], [17, 18]), ([17], [17]), ([20, 19, 17], [17, 20]), ([19, 21, 17], [17, 19, 21]), ([17, 22], [17, 22]), ([23, 21, 0, 1, 2, 3, 4, 5, 6, 7, 8, 9, 10, 11, 12, 13, 14, 15, 16, 17, 18, 19, 20, 21, 22, 23], [23])])
def laws_FnRuns.B30 : List Nat := [0, 0, 3, 0, 0, 31, 63, 127, 255, 255, 1023, 2047, 4095, 8191, 8191, 32767, 65535, 131071, 262143, 524287, 262143, 2097151, 4194303, 8388607, 16777215]
theorem laws_FnRuns.tab30 : rtab .any (opsOf Tryz.f3 30) = laws_FnRuns.T30 := by kernel_rfl
theorem laws_FnRuns.bits30 : waitsOk laws_FnRuns.T30.2 laws_FnRuns.B30 = true := by kernel_rfl
theorem laws_FnRuns.j0_no : ∀ k a0 a1 a2 a3, laws_FnRuns.j0 k a0 a1 a2 a3 true ≠ some true := by
 intro k _ _ _ _
 cases k <;> simp [laws_FnRuns.j0]
set_option maxHeartbeats 8000000 in
set_option maxRecDepth 100000 in
theorem laws_FnRuns.calls (hRNok : RNok) (k : Nat) (A0 : Option Addr) (c0 : Nat) (l0 : List Int) (r : Bool) (w : World) (hr0 : Kd.C (Kd.int .u8) w A0 l0.length l0) (hc0 : l0.length ≤ c0) (h : laws_FnRuns.f k l0 = some r) (hT : r = true := by rfl) :
  Calls Tryz.prog 3 #[.slice A0 l0.length c0] w fun e w' => e = .returned (.bool r) ∧ Below w.heap.size w w' := by
 have HRNok_ := G.a hRNok
 clear hRNok
 have HTrue_ := G.a hT
 clear hT
 have hu32 := Tryz.underlying32
 have HR0 := G.a hr0
 have HC0 := G.a hc0
 clear hr0 hc0
 have HB := G.a (Below.refl w.heap.size w)
 have H : ((laws_big.f l0).bind fun t808 => (if t808 = true then (some true) else (G.draw spec_DrawRunsOf.Ok fun k t809 => ((impl_RunsOf.f k t809).bind fun t812 => ((spec_RunsOf.f k t809).bind fun t815 => (if (t812.length : Int) = (t815.length : Int) then ((impl_CountRuns.f k t809).bind fun t818 => (if t818 = (t815.length : Int) then ((impl_RunExponents.f k t809).bind fun t819 => ((spec_RunExponents.f k t809).bind fun t820 => (if t819 = t820 then (if (t809.length : Int) > 0 then (laws_FnRuns.j0 k l0 t809 t812 t815 (decide ((t815.length : Int) ≥ (t809.length : Int)))) else (laws_FnRuns.j0 k l0 t809 t812 t815 false)) else (laws_FnRuns.j0 k l0 t809 t812 t815 true)))) else (laws_FnRuns.j0 k l0 t809 t812 t815 true))) else (laws_FnRuns.j0 k l0 t809 t812 t815 true))))))) = some r := h
 clear h
 obtain ⟨t808, A2, H⟩ := G.bx H
 by_cases c3 : t808 = true
 ·subst c3
  rw [if_pos rfl] at H
  obtain rfl := Option.some.inj H
  go_enter Tryz.func3, Tryz.ntmps3
  go_wp2_with (first | ((with_reducible refine gate_callee (f := 4) rfl ?_); refine goesL_ (some 23) rfl rfl Tryz.func4 (by kernel_rfl) rfl #[.slice A0 l0.length c0] rfl G.ar ?_; (with_reducible refine (laws_big.calls _ _ l0 true _ ?side1 ?side2 A2.out).mono ?_); (case side1 => exact G.kC HR0.out); (case side2 => exact HC0.out); rintro e w' ⟨rfl, ⟨nd, rfl⟩⟩; refine ⟨_, rfl, ?_⟩))
  go_ret
  exact ⟨G.er, G.bel⟩
 ·replace c3 := Bool.eq_false_iff.mpr c3
  subst c3
  rw [if_neg (show ¬ (false = true) by decide)] at H
  have HBIG_ := G.a (big_le A2.out)
  go_enter Tryz.func3, Tryz.ntmps3
  go_upto_region 4 with (first | ((with_reducible refine gate_callee (f := 4) rfl ?_); refine goesL_ (some 23) rfl rfl Tryz.func4 (by kernel_rfl) rfl #[.slice A0 l0.length c0] rfl G.ar ?_; (with_reducible refine (laws_big.calls _ _ l0 false _ ?side1 ?side2 A2.out).mono ?_); (case side1 => exact G.kC HR0.out); (case side2 => exact HC0.out); rintro e w' ⟨rfl, ⟨nd, rfl⟩⟩; refine ⟨_, rfl, ?_⟩) | ((with_reducible refine gate_callee (f := 5) rfl ?_); refine goesL_ (some 25) rfl rfl Tryz.func5 (by kernel_rfl) rfl #[.slice A0 l0.length c0] rfl G.ar ?_; (with_reducible refine (spec_DrawRunsOf.any _ _ l0 _ ?side1 ?side2 ?side3).mono ?_); (case side3 => exact HBIG_.out); (case side1 => exact G.kC HR0.out); (case side2 => exact HC0.out); rintro e w8 ⟨t809, v810, hw_, rfl, ho0, hb⟩; have A4 := G.a hw_; clear hw_; refine ⟨_, rfl, ?_⟩; have n0_ := G.a (Kd.R_lower ho0 (below_size G.bel)); have n1_ := G.a (below_step G.bel hb); clear HB; have HO811 := n0_; have HB := n1_; clear n0_ n1_; (try clear hb); (try clear hb2); (try clear hk); (try clear hi); (try clear ho0)))
  obtain ⟨k, H⟩ := G.draw_out H t809 A4.out
  replace H : ((impl_RunsOf.f k t809).bind fun t812 => ((spec_RunsOf.f k t809).bind fun t815 => (if (t812.length : Int) = (t815.length : Int) then ((impl_CountRuns.f k t809).bind fun t818 => (if t818 = (t815.length : Int) then ((impl_RunExponents.f k t809).bind fun t819 => ((spec_RunExponents.f k t809).bind fun t820 => (if t819 = t820 then (if (t809.length : Int) > 0 then (laws_FnRuns.j0 k l0 t809 t812 t815 (decide ((t815.length : Int) ≥ (t809.length : Int)))) else (laws_FnRuns.j0 k l0 t809 t812 t815 false)) else (laws_FnRuns.j0 k l0 t809 t812 t815 true)))) else (laws_FnRuns.j0 k l0 t809 t812 t815 true))) else (laws_FnRuns.j0 k l0 t809 t812 t815 true)))) = some r := H
  obtain ⟨t812, A5, H⟩ := G.bx H
  obtain ⟨t815, A6, H⟩ := G.bx H
  have HC7 := G.a H
  clear H
  obtain ⟨Ao9, co9, eo9⟩ := Kd.R_slice HO811.out
  (first | subst eo9 | cases eo9)
  go_upto_region 6 with (first | ((with_reducible refine gate_callee (f := 6) rfl ?_); refine goesL_ (some 27) rfl rfl Tryz.func6 (by kernel_rfl) rfl #[.slice Ao9 t809.length co9] rfl G.ar ?_; (with_reducible refine (impl_RunsOf.calls k _ _ t809 t812 _ ?side1 ?side2 A5.out).mono ?_); (case side1 => repeat (first | exact (Kd.R_reads' HO811.out).2.2 | (with_reducible refine Kd.C_alloc ?_ _) | (with_reducible refine Kd.C_drewN ?_ _) | (with_reducible refine Kd.C_drew ?_))); (case side2 => exact (Kd.R_reads' HO811.out).2.1); rintro e w10 ⟨v813, rfl, ho0, hb⟩; refine ⟨_, rfl, ?_⟩; have n0_ := G.a (Kd.R_below (G.kR HO811.out) hb); have n1_ := G.a (Kd.R_lower ho0 (below_size G.bel)); have n2_ := G.a (below_step G.bel hb); clear HO811; clear HB; have HO811 := n0_; have HO814 := n1_; have HB := n2_; clear n0_ n1_ n2_; (try clear hb); (try clear hb2); (try clear hk); (try clear hi); (try clear ho0)) | ((with_reducible refine gate_callee (f := 7) rfl ?_); refine goesL_ (some 29) rfl rfl Tryz.func7 (by kernel_rfl) rfl #[.slice Ao9 t809.length co9] rfl G.ar ?_; (with_reducible refine (spec_RunsOf.calls k _ _ t809 t815 _ ?side1 ?side2 A6.out).mono ?_); (case side1 => repeat (first | exact (Kd.R_reads' HO811.out).2.2 | (with_reducible refine Kd.C_alloc ?_ _) | (with_reducible refine Kd.C_drewN ?_ _) | (with_reducible refine Kd.C_drew ?_))); (case side2 => exact (Kd.R_reads' HO811.out).2.1); rintro e w11 ⟨v816, rfl, ho0, hb⟩; refine ⟨_, rfl, ?_⟩; have n0_ := G.a (Kd.R_below (G.kR HO811.out) hb); have n1_ := G.a (Kd.R_elder' (G.kR HO814.out) (Kd.R_base ho0) hb); have n2_ := G.a (Kd.R_lower (Kd.R_new' ho0 (Kd.R_lt (G.kR HO814.out))) (below_size G.bel)); have n3_ := G.a (below_step G.bel hb); clear HO811; clear HO814; clear HB; have HO811 := n0_; have HO814 := n1_; have HO817 := n2_; have HB := n3_; clear n0_ n1_ n2_ n3_; (try clear hb); (try clear hb2); (try clear hk); (try clear hi); (try clear ho0)))
  (try simp only [Act.put, List.setIfInBounds_toArray, List.set_cons_zero, List.set_cons_succ])
  go_cut [60] (fun v60 wc => ∃ (kq : Nat) (x60_6 : Bool), v60 = .bool x60_6 ∧ Aside0 (laws_FnRuns.j0 kq l0 t809 t812 t815 x60_6 = some r) ∧ Aside0 (kq ≤ k) ∧ Aside0 (Kd.R (Kd.int .i64) 3 wc w.heap.size (fun _ => True) (.slice Ao9 t809.length co9) t809) ∧ Aside0 (Kd.R k32 32 wc w.heap.size (fun k_ => some k_ ≠ (v816 : Value).ownBlock) v813 t812) ∧ Aside0 (Kd.R k32 32 wc w.heap.size (fun k_ => some k_ ≠ (v813 : Value).ownBlock) v816 t815) ∧ Aside0 (Below w.heap.size w wc))
  case first => as_aux_lemma =>
   have H := HC7.out
   clear HC7
   by_cases c12 : (t812.length : Int) = (t815.length : Int)
   ·rw [if_pos c12] at H
    have c12b0 : ((t812.length : Int) == (t815.length : Int)) = true := beq_iff_eq.mpr c12
    have c12b1 : ((t812.length : Int) != (t815.length : Int)) = false := bne_eq_false_iff_eq.mpr c12
    have c12b2 : (t812.length == t815.length) = true := by first | simpa using c12 | (simp at c12 ⊢; omega)
    clear c12
    (first | rw [c12b0] | (simp only [i64_w, i32_w]; rw [c12b0]) | skip)
    obtain ⟨t818, A13, H⟩ := G.bx H
    by_cases c14 : t818 = (t815.length : Int)
    ·rw [if_pos c14] at H
     have c14b0 : (t818 == (t815.length : Int)) = true := beq_iff_eq.mpr c14
     have c14b1 : (t818 != (t815.length : Int)) = false := bne_eq_false_iff_eq.mpr c14
     clear c14
     obtain ⟨t819, A15, H⟩ := G.bx H
     obtain ⟨t820, A16, H⟩ := G.bx H
     by_cases c17 : t819 = t820
     ·rw [if_pos c17] at H
      have c17b0 : (t819 == t820) = true := beq_iff_eq.mpr c17
      have c17b1 : (t819 != t820) = false := bne_eq_false_iff_eq.mpr c17
      clear c17
      by_cases c18 : (t809.length : Int) > 0
      ·rw [if_pos c18] at H
       have c18b0 : decide (0 < (t809.length : Int)) = true := decide_eq_true c18
       have c18b1 : decide (0 < t809.length) = true := decide_eq_true (by omega)
       clear c18
       have H' := G.a H
       clear H
       obtain ⟨Ao19, co19, eo19⟩ := Kd.R_slice HO814.out
       subst eo19
       obtain ⟨Ao20, co20, eo20⟩ := Kd.R_slice HO817.out
       subst eo20
       go_wp2_with (first | (go_at_call 8; (with_reducible refine (impl_CountRuns.calls k _ _ t809 t818 _ ?side1 ?side2 A13.out).mono ?_); (case side1 => repeat (first | exact (Kd.R_reads' HO811.out).2.2 | (with_reducible refine Kd.C_alloc ?_ _) | (with_reducible refine Kd.C_drewN ?_ _) | (with_reducible refine Kd.C_drew ?_))); (case side2 => exact (Kd.R_reads' HO811.out).2.1); rintro e w21 ⟨rfl, hb⟩; have n0_ := G.a (Kd.R_below (G.kR HO811.out) hb); have n1_ := G.a (Kd.R_below (G.kR HO814.out) hb); have n2_ := G.a (Kd.R_below (G.kR HO817.out) hb); have n3_ := G.a (below_step G.bel hb); clear HO811; clear HO814; clear HO817; clear HB; have HO811 := n0_; have HO814 := n1_; have HO817 := n2_; have HB := n3_; clear n0_ n1_ n2_ n3_; (try clear hb); (try clear hb2); (try clear hk); (try clear hi)) | (go_at_call 9; (with_reducible refine (impl_RunExponents.calls k _ _ t809 t819 _ ?side1 ?side2 A15.out).mono ?_); (case side1 => repeat (first | exact (Kd.R_reads' HO811.out).2.2 | (with_reducible refine Kd.C_alloc ?_ _) | (with_reducible refine Kd.C_drewN ?_ _) | (with_reducible refine Kd.C_drew ?_))); (case side2 => exact (Kd.R_reads' HO811.out).2.1); rintro e w22 ⟨rfl, hb⟩; have n0_ := G.a (Kd.R_below (G.kR HO811.out) hb); have n1_ := G.a (Kd.R_below (G.kR HO814.out) hb); have n2_ := G.a (Kd.R_below (G.kR HO817.out) hb); have n3_ := G.a (below_step G.bel hb); clear HO811; clear HO814; clear HO817; clear HB; have HO811 := n0_; have HO814 := n1_; have HO817 := n2_; have HB := n3_; clear n0_ n1_ n2_ n3_; (try clear hb); (try clear hb2); (try clear hk); (try clear hi)) | (go_at_call 10; (with_reducible refine (spec_RunExponents.calls k _ _ t809 t820 _ ?side1 ?side2 A16.out).mono ?_); (case side1 => repeat (first | exact (Kd.R_reads' HO811.out).2.2 | (with_reducible refine Kd.C_alloc ?_ _) | (with_reducible refine Kd.C_drewN ?_ _) | (with_reducible refine Kd.C_drew ?_))); (case side2 => exact (Kd.R_reads' HO811.out).2.1); rintro e w23 ⟨rfl, hb⟩; have n0_ := G.a (Kd.R_below (G.kR HO811.out) hb); have n1_ := G.a (Kd.R_below (G.kR HO814.out) hb); have n2_ := G.a (Kd.R_below (G.kR HO817.out) hb); have n3_ := G.a (below_step G.bel hb); clear HO811; clear HO814; clear HO817; clear HB; have HO811 := n0_; have HO814 := n1_; have HO817 := n2_; have HB := n3_; clear n0_ n1_ n2_ n3_; (try clear hb); (try clear hb2); (try clear hk); (try clear hi)))
       go_meet
       case rel => exact ⟨_, (decide ((t815.length : Int) ≥ (t809.length : Int))), G.tr, H', ⟨by first | omega | exact Nat.le_refl _⟩, ⟨G.kR HO811.out⟩, ⟨by (with_reducible repeat (first | apply Kd.R_alloc | apply Kd.R_drewN | apply Kd.R_drew)); exact Kd.R_mono HO814.out (fun _ hk => hk.2)⟩, ⟨by (with_reducible repeat (first | apply Kd.R_alloc | apply Kd.R_drewN | apply Kd.R_drew)); exact Kd.R_mono HO817.out (fun _ hk => hk.2)⟩, ⟨G.bel⟩⟩
      ·rw [if_neg c18] at H
       have c18b0 : decide (0 < (t809.length : Int)) = false := decide_eq_false c18
       have c18b1 : decide (0 < t809.length) = false := decide_eq_false (by omega)
       clear c18
       have H' := G.a H
       clear H
       obtain ⟨Ao24, co24, eo24⟩ := Kd.R_slice HO814.out
       subst eo24
       obtain ⟨Ao25, co25, eo25⟩ := Kd.R_slice HO817.out
       subst eo25
       go_wp2_with (first | (go_at_call 8; (with_reducible refine (impl_CountRuns.calls k _ _ t809 t818 _ ?side1 ?side2 A13.out).mono ?_); (case side1 => repeat (first | exact (Kd.R_reads' HO811.out).2.2 | (with_reducible refine Kd.C_alloc ?_ _) | (with_reducible refine Kd.C_drewN ?_ _) | (with_reducible refine Kd.C_drew ?_))); (case side2 => exact (Kd.R_reads' HO811.out).2.1); rintro e w26 ⟨rfl, hb⟩; have n0_ := G.a (Kd.R_below (G.kR HO811.out) hb); have n1_ := G.a (Kd.R_below (G.kR HO814.out) hb); have n2_ := G.a (Kd.R_below (G.kR HO817.out) hb); have n3_ := G.a (below_step G.bel hb); clear HO811; clear HO814; clear HO817; clear HB; have HO811 := n0_; have HO814 := n1_; have HO817 := n2_; have HB := n3_; clear n0_ n1_ n2_ n3_; (try clear hb); (try clear hb2); (try clear hk); (try clear hi)) | (go_at_call 9; (with_reducible refine (impl_RunExponents.calls k _ _ t809 t819 _ ?side1 ?side2 A15.out).mono ?_); (case side1 => repeat (first | exact (Kd.R_reads' HO811.out).2.2 | (with_reducible refine Kd.C_alloc ?_ _) | (with_reducible refine Kd.C_drewN ?_ _) | (with_reducible refine Kd.C_drew ?_))); (case side2 => exact (Kd.R_reads' HO811.out).2.1); rintro e w27 ⟨rfl, hb⟩; have n0_ := G.a (Kd.R_below (G.kR HO811.out) hb); have n1_ := G.a (Kd.R_below (G.kR HO814.out) hb); have n2_ := G.a (Kd.R_below (G.kR HO817.out) hb); have n3_ := G.a (below_step G.bel hb); clear HO811; clear HO814; clear HO817; clear HB; have HO811 := n0_; have HO814 := n1_; have HO817 := n2_; have HB := n3_; clear n0_ n1_ n2_ n3_; (try clear hb); (try clear hb2); (try clear hk); (try clear hi)) | (go_at_call 10; (with_reducible refine (spec_RunExponents.calls k _ _ t809 t820 _ ?side1 ?side2 A16.out).mono ?_); (case side1 => repeat (first | exact (Kd.R_reads' HO811.out).2.2 | (with_reducible refine Kd.C_alloc ?_ _) | (with_reducible refine Kd.C_drewN ?_ _) | (with_reducible refine Kd.C_drew ?_))); (case side2 => exact (Kd.R_reads' HO811.out).2.1); rintro e w28 ⟨rfl, hb⟩; have n0_ := G.a (Kd.R_below (G.kR HO811.out) hb); have n1_ := G.a (Kd.R_below (G.kR HO814.out) hb); have n2_ := G.a (Kd.R_below (G.kR HO817.out) hb); have n3_ := G.a (below_step G.bel hb); clear HO811; clear HO814; clear HO817; clear HB; have HO811 := n0_; have HO814 := n1_; have HO817 := n2_; have HB := n3_; clear n0_ n1_ n2_ n3_; (try clear hb); (try clear hb2); (try clear hk); (try clear hi)))
       go_meet
       case rel => exact ⟨_, (false), G.tr, H', ⟨by first | omega | exact Nat.le_refl _⟩, ⟨G.kR HO811.out⟩, ⟨by (with_reducible repeat (first | apply Kd.R_alloc | apply Kd.R_drewN | apply Kd.R_drew)); exact Kd.R_mono HO814.out (fun _ hk => hk.2)⟩, ⟨by (with_reducible repeat (first | apply Kd.R_alloc | apply Kd.R_drewN | apply Kd.R_drew)); exact Kd.R_mono HO817.out (fun _ hk => hk.2)⟩, ⟨G.bel⟩⟩
     ·rw [if_neg c17] at H
      exact absurd (H.trans (congrArg some HTrue_.out)) (laws_FnRuns.j0_no _ _ _ _ _)
    ·rw [if_neg c14] at H
     exact absurd (H.trans (congrArg some HTrue_.out)) (laws_FnRuns.j0_no _ _ _ _ _)
   ·rw [if_neg c12] at H
    exact absurd (H.trans (congrArg some HTrue_.out)) (laws_FnRuns.j0_no _ _ _ _ _)
  case rest => as_aux_lemma =>
   clear HC7
   try clear c1; try clear p2; try clear c3; try clear c4; try clear c5; try clear c6; try clear c7; try clear c12; try clear c12b0; try clear c12b1; try clear c12b2; try clear c14; try clear c14b0; try clear c14b1; try clear c17; try clear c17b0; try clear c17b1; try clear c18; try clear c18b0; try clear c18b1
   obtain ⟨kq, x60_6, rfl, HA, HJ6, HO_3, HO_4, HO_5, HB⟩ := hcut
   cases kq with
   | zero => exact absurd HA.out (by simp [laws_FnRuns.j0])
   | succ kj6 =>
    have H := HA.out
    clear HA
    simp only [laws_FnRuns.j0] at H
    by_cases c39 : x60_6 = true
    ·subst c39
     rw [if_pos rfl] at H
     exact absurd ((Option.some.inj H).trans HTrue_.out) (by decide)
    ·replace c39 := Bool.eq_false_iff.mpr c39
     subst c39
     rw [if_neg (show ¬ (false = true) by decide)] at H
     have H' := G.a H
     clear H
     go_wp2
     go_loopg [6] kj6 (fun kq v6 w' => ∃ (x6_2 : Int), v6 = .int .i64 x6_2 ∧ Aside0 (laws_FnRuns.l0 kq l0 t809 t812 t815 x6_2 = some r) ∧ Aside0 (kq ≤ kj6) ∧ Aside0 (Kd.R (Kd.int .i64) 3 w' w.heap.size (fun _ => True) (.slice Ao9 t809.length co9) t809) ∧ Aside0 (Kd.R k32 32 w' w.heap.size (fun k_ => some k_ ≠ (v816 : Value).ownBlock) v813 t812) ∧ Aside0 (Kd.R k32 32 w' w.heap.size (fun k_ => some k_ ≠ (v813 : Value).ownBlock) v816 t815) ∧ Aside0 (Below w.heap.size w w'))
     case atStart => exact ⟨(0), G.tr, H', ⟨Nat.le_refl _⟩, ⟨G.kR HO_3.out⟩, ⟨G.kR HO_4.out⟩, ⟨G.kR HO_5.out⟩, ⟨G.bel⟩⟩
     case round => as_aux_lemma =>
      clear H'
      try clear c1; try clear p2; try clear c3; try clear c4; try clear c5; try clear c6; try clear c7; try clear c12; try clear c12b0; try clear c12b1; try clear c12b2; try clear c14; try clear c14b0; try clear c14b1; try clear c17; try clear c17b0; try clear c17b1; try clear c18; try clear c18b0; try clear c18b1; try clear c39; try clear p2
      obtain ⟨x6_2, rfl, HA, HK2, HO_3, HO_4, HO_5, HB⟩ := hrel
      cases gk with
      | zero => exact absurd HA.out (by simp [laws_FnRuns.l0])
      | succ k2 =>
       have H := HA.out
       clear HA
       simp only [laws_FnRuns.l0] at H
       by_cases c40 : x6_2 < (t812.length : Int)
       ·rw [if_pos c40] at H
        have c40b0 : decide (x6_2 < (t812.length : Int)) = true := decide_eq_true c40
        clear c40
        by_cases c41 : 0 ≤ x6_2
        ·rw [if_pos c41] at H
         have c41b0 : decide (0 ≤ x6_2) = true := decide_eq_true c41
         clear c41
         by_cases c42 : x6_2 < (t815.length : Int)
         ·rw [if_pos c42] at H
          have c42b0 : decide (x6_2 < (t815.length : Int)) = true := decide_eq_true c42
          clear c42
          obtain ⟨⟨t822, t825⟩, A43, H⟩ := G.bx H
          replace H : (if (!(((rd_T32 t812 x6_2).f0) == ((rd_T32 t815 x6_2).f0)) || (!(((rd_T32 t812 x6_2).f1) == ((rd_T32 t815 x6_2).f1)) || (!(((rd_T32 t812 x6_2).f2) == ((rd_T32 t815 x6_2).f2))))) = true then (some false) else ((impl_IsRun.f k2 t809 ((rd_T32 t815 x6_2).f0) ((rd_T32 t815 x6_2).f1) ((rd_T32 t815 x6_2).f2)).bind fun t829 => (if t829 = true then (if t825 = true then ((spec_IsLyndon.f k2 t822).bind fun t830 => (if t830 = true then ((impl_SquaresInRun.f ((rd_T32 t815 x6_2).f0) ((rd_T32 t815 x6_2).f1) ((rd_T32 t815 x6_2).f2)).bind fun t832 => (if t832 < 1 then (some false) else (laws_FnRuns.l0 k2 l0 t809 t812 t815 (wrap64 (x6_2 + 1))))) else (some false))) else (some false)) else (some false)))) = some r := H
          by_cases c44 : (!(((rd_T32 t812 x6_2).f0) == ((rd_T32 t815 x6_2).f0)) || (!(((rd_T32 t812 x6_2).f1) == ((rd_T32 t815 x6_2).f1)) || (!(((rd_T32 t812 x6_2).f2) == ((rd_T32 t815 x6_2).f2))))) = true
          ·rw [if_pos c44] at H
           have c44b0 : (!(((rd_T32 t812 x6_2).f0) == ((rd_T32 t815 x6_2).f0)) || (!(((rd_T32 t812 x6_2).f1) == ((rd_T32 t815 x6_2).f1)) || (!(((rd_T32 t812 x6_2).f2) == ((rd_T32 t815 x6_2).f2))))) = true := c44
           clear c44
           exact absurd ((Option.some.inj H).trans HTrue_.out) (by decide)
          ·rw [if_neg c44] at H
           have c44b0 : (!(((rd_T32 t812 x6_2).f0) == ((rd_T32 t815 x6_2).f0)) || (!(((rd_T32 t812 x6_2).f1) == ((rd_T32 t815 x6_2).f1)) || (!(((rd_T32 t812 x6_2).f2) == ((rd_T32 t815 x6_2).f2))))) = false := by simpa using c44
           clear c44
           obtain ⟨t829, A49, H⟩ := G.bx H
           by_cases c50 : t829 = true
           ·subst c50
            rw [if_pos rfl] at H
            by_cases c51 : t825 = true
            ·subst c51
             rw [if_pos rfl] at H
             obtain ⟨t830, A52, H⟩ := G.bx H
             by_cases c53 : t830 = true
             ·subst c53
              rw [if_pos rfl] at H
              obtain ⟨t832, A54, H⟩ := G.bx H
              by_cases c55 : t832 < 1
              ·rw [if_pos c55] at H
               have c55b0 : decide (t832 < 1) = true := decide_eq_true c55
               clear c55
               exact absurd ((Option.some.inj H).trans HTrue_.out) (by decide)
              ·rw [if_neg c55] at H
               have c55b0 : decide (t832 < 1) = false := decide_eq_false c55
               clear c55
               have H' := G.a H
               clear H
               obtain ⟨Ao63, co63, eo63⟩ := Kd.R_slice HO_4.out
               subst eo63
               obtain ⟨Ao64, co64, eo64⟩ := Kd.R_slice HO_5.out
               subst eo64
               have p821 : 0 ≤ (x6_2 : Int) := G.odt
               have q821 : x6_2 < (t815.length : Int) := G.odt
               obtain ⟨ad821, e821, hx821_0, hx821_1, hx821_2⟩ := at_T32 (Kd.R_reads' HO_5.out).2.2 x6_2 p821 q821
               cases e821
               replace p821 := eq_true p821
               replace q821 := eq_true q821
               try go_wp2_with (first | ((with_reducible refine gate_callee (f := 11) rfl ?_); refine goesL_ (some 73) rfl rfl Tryz.func11 (by kernel_rfl) rfl #[.slice Ao9 t809.length co9, .agg #[.int .i64 ((rd_T32 t815 x6_2).f0), .int .i64 ((rd_T32 t815 x6_2).f1), .int .i64 ((rd_T32 t815 x6_2).f2)]] rfl G.ar ?_; (with_reducible refine (impl_RootOfRun.calls k2 _ _ t809 ((rd_T32 t815 x6_2).f0) ((rd_T32 t815 x6_2).f1) ((rd_T32 t815 x6_2).f2) t822 true _ ?side1 ?side2 A43.out).mono ?_); (case side1 => repeat (first | exact (Kd.R_reads' HO_3.out).2.2 | (with_reducible refine Kd.C_alloc ?_ _) | (with_reducible refine Kd.C_drewN ?_ _) | (with_reducible refine Kd.C_drew ?_))); (case side2 => exact (Kd.R_reads' HO_3.out).2.1); rintro e w65 ⟨v823, rfl, ho0, hb⟩; refine ⟨_, rfl, ?_⟩; have n0_ := G.a (Kd.R_elder' (G.kR HO_3.out) (Kd.R_base ho0) hb); have n1_ := G.a (Kd.R_below (G.kR HO_4.out) hb); have n2_ := G.a (Kd.R_below (G.kR HO_5.out) hb); have n3_ := G.a (Kd.R_lower (Kd.R_new' ho0 (Kd.R_lt (G.kR HO_3.out))) (below_size G.bel)); have n4_ := G.a (below_step G.bel hb); clear HO_3; clear HO_4; clear HO_5; clear HB; have HO_3 := n0_; have HO_4 := n1_; have HO_5 := n2_; have HO824 := n3_; have HB := n4_; clear n0_ n1_ n2_ n3_ n4_; (try clear hb); (try clear hb2); (try clear hk); (try clear hi); (try clear ho0)))
               have n0_ := G.a (Kd.R_drew HO_3.out)
               have n1_ := G.a (Kd.R_drew HO_4.out)
               have n2_ := G.a (Kd.R_drew HO_5.out)
               have n3_ := G.a (Kd.R_drew HO824.out)
               have n4_ := G.a (below_drew1 HB.out)
               clear HO_3
               clear HO_4
               clear HO_5
               clear HO824
               clear HB
               have HO_3 := n0_
               have HO_4 := n1_
               have HO_5 := n2_
               have HO824 := n3_
               have HB := n4_
               clear n0_ n1_ n2_ n3_ n4_
               have p826 : 0 ≤ (x6_2 : Int) := G.odt
               have q826 : x6_2 < (t812.length : Int) := G.odt
               obtain ⟨ad826, e826, hx826_0, hx826_1, hx826_2⟩ := at_T32 (Kd.R_reads' HO_4.out).2.2 x6_2 p826 q826
               cases e826
               replace p826 := eq_true p826
               replace q826 := eq_true q826
               have p827 : 0 ≤ (x6_2 : Int) := G.odt
               have q827 : x6_2 < (t815.length : Int) := G.odt
               obtain ⟨ad827, e827, hx827_0, hx827_1, hx827_2⟩ := at_T32 (Kd.R_reads' HO_5.out).2.2 x6_2 p827 q827
               obtain rfl : ad821 = ad827 := (by injection e827)
               replace p827 := eq_true p827
               replace q827 := eq_true q827
               have p828 : 0 ≤ (x6_2 : Int) := G.odt
               have q828 : x6_2 < (t815.length : Int) := G.odt
               obtain ⟨ad828, e828, hx828_0, hx828_1, hx828_2⟩ := at_T32 (Kd.R_reads' HO_5.out).2.2 x6_2 p828 q828
               obtain rfl : ad821 = ad828 := (by injection e828)
               replace p828 := eq_true p828
               replace q828 := eq_true q828
               have p831 : 0 ≤ (x6_2 : Int) := G.odt
               have q831 : x6_2 < (t815.length : Int) := G.odt
               obtain ⟨ad831, e831, hx831_0, hx831_1, hx831_2⟩ := at_T32 (Kd.R_reads' HO_5.out).2.2 x6_2 p831 q831
               obtain rfl : ad821 = ad831 := (by injection e831)
               replace p831 := eq_true p831
               replace q831 := eq_true q831
               refine start_ (n := 35) (S := fun w' => w'.cell? (ad826.add ((x6_2).toNat * 3)) = some (.int .i64 ((rd_T32 t812 x6_2).f0)) ∧ w'.cell? ⟨(ad826.add ((x6_2).toNat * 3)).block, (ad826.add ((x6_2).toNat * 3)).off + 1, none⟩ = some (.int .i64 ((rd_T32 t812 x6_2).f1)) ∧ w'.cell? ⟨(ad826.add ((x6_2).toNat * 3)).block, (ad826.add ((x6_2).toNat * 3)).off + 2, none⟩ = some (.int .i64 ((rd_T32 t812 x6_2).f2)) ∧ w'.cell? (ad821.add ((x6_2).toNat * 3)) = some (.int .i64 ((rd_T32 t815 x6_2).f0)) ∧ w'.cell? ⟨(ad821.add ((x6_2).toNat * 3)).block, (ad821.add ((x6_2).toNat * 3)).off + 1, none⟩ = some (.int .i64 ((rd_T32 t815 x6_2).f1)) ∧ w'.cell? ⟨(ad821.add ((x6_2).toNat * 3)).block, (ad821.add ((x6_2).toNat * 3)).off + 2, none⟩ = some (.int .i64 ((rd_T32 t815 x6_2).f2)) ∧ w'.cell? (ad821.add ((x6_2).toNat * 3)) = some (.int .i64 ((rd_T32 t815 x6_2).f0)) ∧ w'.cell? ⟨(ad821.add ((x6_2).toNat * 3)).block, (ad821.add ((x6_2).toNat * 3)).off + 1, none⟩ = some (.int .i64 ((rd_T32 t815 x6_2).f1)) ∧ w'.cell? ⟨(ad821.add ((x6_2).toNat * 3)).block, (ad821.add ((x6_2).toNat * 3)).off + 2, none⟩ = some (.int .i64 ((rd_T32 t815 x6_2).f2)) ∧ w'.cell? (ad821.add ((x6_2).toNat * 3)) = some (.int .i64 ((rd_T32 t815 x6_2).f0)) ∧ w'.cell? ⟨(ad821.add ((x6_2).toNat * 3)).block, (ad821.add ((x6_2).toNat * 3)).off + 1, none⟩ = some (.int .i64 ((rd_T32 t815 x6_2).f1)) ∧ w'.cell? ⟨(ad821.add ((x6_2).toNat * 3)).block, (ad821.add ((x6_2).toNat * 3)).off + 2, none⟩ = some (.int .i64 ((rd_T32 t815 x6_2).f2))) (ds := []) #[false, false, false, false, false, false, false, false, false, false, false, false, false, false, false, false, false, false, false, false, false, false, false, false, false, false, false, false, false, false, false, false, false, false, false] (by kernel_rfl) rfl rfl ⟨hx826_0, hx826_1, hx826_2, hx827_0, hx827_1, hx827_2, hx828_0, hx828_1, hx828_2, hx831_0, hx831_1, hx831_2⟩ (fun hHeld => ?_); refine with_tabW laws_FnRuns.tab12 laws_FnRuns.bits12 (fun HT_ HW_ => ?_)
               generalize w65.drew = w66 at HO_3 HO_4 HO_5 HO824 HB hx826_0 hx826_1 hx826_2 hx827_0 hx827_1 hx827_2 hx828_0 hx828_1 hx828_2 hx831_0 hx831_1 hx831_2 hHeld ⊢
               refine G.pu 0 76 (G.bs 35 1) ?_
               refine G.pu 1 77 (G.bs 35 3) ?_
               refine G.pu 2 78 (G.bs 35 7) ?_
               refine G.pu 4 80 (G.bs 35 23) ?_
               refine G.pu 5 81 (G.bs 35 55) ?_
               refine G.pu 6 82 (G.bs 35 119) ?_
               refine G.tk 3 79 (G.bs 35 127) rfl (by rintro w' ⟨s0, s1, s2, s3, s4, s5, s6, s7, s8, s9, s10, s11⟩; go_simp; with_reducible rfl) ?_
               refine G.tk 7 83 (G.bs 35 255) rfl (by rintro w' ⟨s0, s1, s2, s3, s4, s5, s6, s7, s8, s9, s10, s11⟩; go_simp; with_reducible rfl) ?_
               refine G.pu 8 84 (G.bs 35 511) ?_
               refine G.pu 9 85 (G.bs 35 1023) ?_
               refine G.pu 10 86 (G.bs 35 2047) ?_
               refine G.pu 11 87 (G.bs 35 4095) ?_
               refine G.pu 12 88 (G.bs 35 8191) ?_
               refine G.pu 13 89 (G.bs 35 16383) ?_
               refine G.tk 14 90 (G.bs 35 32767) rfl (by rintro w' ⟨s0, s1, s2, s3, s4, s5, s6, s7, s8, s9, s10, s11⟩; go_simp; with_reducible rfl) ?_
               refine one_ (i := 15) (N := some 91) (G.bs 35 65535) rfl rfl (one_of HT_.out (by kernel_rfl)) (by decide) (fun K hK => ?_)
               refine goes_ Tryz.func12 (by kernel_rfl) rfl #[.slice Ao9 t809.length co9, .agg #[.int .i64 ((rd_T32 t815 x6_2).f0), .int .i64 ((rd_T32 t815 x6_2).f1), .int .i64 ((rd_T32 t815 x6_2).f2)]] (by rfl) rfl rfl G.ar ?_
               with_reducible refine (impl_IsRun.calls k2 _ _ t809 ((rd_T32 t815 x6_2).f0) ((rd_T32 t815 x6_2).f1) ((rd_T32 t815 x6_2).f2) true _ ?side1 ?side2 A49.out).mono ?_
               (case side1 => repeat (first | exact (Kd.R_reads' HO_3.out).2.2 | (with_reducible refine Kd.C_alloc ?_ _) | (with_reducible refine Kd.C_drewN ?_ _) | (with_reducible refine Kd.C_drew ?_)))
               (case side2 => exact (Kd.R_reads' HO_3.out).2.1)
               rintro e w67 ⟨rfl, hb⟩
               have HS0_ := (hb.cell (World.block_lt_of_cell? _ _ (hHeld.1))).trans (hHeld.1)
               have HS1_ := (hb.cell (World.block_lt_of_cell? _ _ (hHeld.2.1))).trans (hHeld.2.1)
               have HS2_ := (hb.cell (World.block_lt_of_cell? _ _ (hHeld.2.2.1))).trans (hHeld.2.2.1)
               have HS3_ := (hb.cell (World.block_lt_of_cell? _ _ (hHeld.2.2.2.1))).trans (hHeld.2.2.2.1)
               have HS4_ := (hb.cell (World.block_lt_of_cell? _ _ (hHeld.2.2.2.2.1))).trans (hHeld.2.2.2.2.1)
               have HS5_ := (hb.cell (World.block_lt_of_cell? _ _ (hHeld.2.2.2.2.2.1))).trans (hHeld.2.2.2.2.2.1)
               have HS6_ := (hb.cell (World.block_lt_of_cell? _ _ (hHeld.2.2.2.2.2.2.1))).trans (hHeld.2.2.2.2.2.2.1)
               have HS7_ := (hb.cell (World.block_lt_of_cell? _ _ (hHeld.2.2.2.2.2.2.2.1))).trans (hHeld.2.2.2.2.2.2.2.1)
               have HS8_ := (hb.cell (World.block_lt_of_cell? _ _ (hHeld.2.2.2.2.2.2.2.2.1))).trans (hHeld.2.2.2.2.2.2.2.2.1)
               have HS9_ := (hb.cell (World.block_lt_of_cell? _ _ (hHeld.2.2.2.2.2.2.2.2.2.1))).trans (hHeld.2.2.2.2.2.2.2.2.2.1)
               have HS10_ := (hb.cell (World.block_lt_of_cell? _ _ (hHeld.2.2.2.2.2.2.2.2.2.2.1))).trans (hHeld.2.2.2.2.2.2.2.2.2.2.1)
               have HS11_ := (hb.cell (World.block_lt_of_cell? _ _ (hHeld.2.2.2.2.2.2.2.2.2.2.2))).trans (hHeld.2.2.2.2.2.2.2.2.2.2.2)
               refine ⟨_, rfl, ?_⟩
               have n0_ := G.a (Kd.R_below (G.kR HO_3.out) hb)
               have n1_ := G.a (Kd.R_below (G.kR HO_4.out) hb)
               have n2_ := G.a (Kd.R_below (G.kR HO_5.out) hb)
               have n3_ := G.a (Kd.R_below (G.kR HO824.out) hb)
               have n4_ := G.a (below_step G.bel hb)
               clear HO_3
               clear HO_4
               clear HO_5
               clear HO824
               clear HB
               have HO_3 := n0_
               have HO_4 := n1_
               have HO_5 := n2_
               have HO824 := n3_
               have HB := n4_
               clear n0_ n1_ n2_ n3_ n4_
               (try clear hb)
               (try clear hb2)
               (try clear hk)
               (try clear hi)
               obtain ⟨Ao68, co68, eo68⟩ := Kd.R_slice HO824.out
               (first | subst eo68 | (injection eo68 with f1_ f2_ f3_; have f4_ := f1_.symm; have f5_ := f3_.symm; clear f1_ f2_ f3_; subst f4_; subst f5_))
               refine hK.out _ _ ⟨HS0_, HS1_, HS2_, HS3_, HS4_, HS5_, HS6_, HS7_, HS8_, HS9_, HS10_, HS11_⟩ (fun hHeld => ?_)
               clear hK K
               refine norm_ (a' := ?_) ?_ ?_
               rotate_left
               ·show Act.put _ (some 91) _ = _
                simp only [Act.put, List.setIfInBounds_toArray, List.set_cons_zero, List.set_cons_succ, i64_w, i32_w]
                rfl
               refine G.pu 16 92 (G.bs 35 131071) ?_
               refine G.pu 17 93 (G.bs 35 262143) ?_
               refine G.pu 18 94 (G.bs 35 524287) ?_
               refine G.pu 19 95 (G.bs 35 1048575) ?_
               refine G.pu 20 96 (G.bs 35 2097151) ?_
               refine G.pu 21 97 (G.bs 35 4194303) ?_
               refine G.pu 22 98 (G.bs 35 8388607) ?_
               refine G.pu 23 99 (G.bs 35 16777215) ?_
               refine one_ (i := 24) (N := some 100) (G.bs 35 33554431) rfl rfl (one_of HT_.out (by kernel_rfl)) (by decide) (fun K hK => ?_)
               refine goes_ Tryz.func13 (by kernel_rfl) rfl #[.slice Ao68 t822.length co68] (by rfl) rfl rfl G.ar ?_
               with_reducible refine (spec_IsLyndon.calls k2 _ _ t822 true _ ?side1 ?side2 A52.out).mono ?_
               (case side1 => repeat (first | exact (Kd.R_reads' HO824.out).2.2 | (with_reducible refine Kd.C_alloc ?_ _) | (with_reducible refine Kd.C_drewN ?_ _) | (with_reducible refine Kd.C_drew ?_)))
               (case side2 => exact (Kd.R_reads' HO824.out).2.1)
               rintro e w' ⟨rfl, ⟨nd, rfl⟩⟩
               refine ⟨_, rfl, ?_⟩
               refine hK.out _ _ ⟨hHeld.1, hHeld.2.1, hHeld.2.2.1, hHeld.2.2.2.1, hHeld.2.2.2.2.1, hHeld.2.2.2.2.2.1, hHeld.2.2.2.2.2.2.1, hHeld.2.2.2.2.2.2.2.1, hHeld.2.2.2.2.2.2.2.2.1, hHeld.2.2.2.2.2.2.2.2.2.1, hHeld.2.2.2.2.2.2.2.2.2.2.1, hHeld.2.2.2.2.2.2.2.2.2.2.2⟩ (fun hHeld => ?_)
               clear hK K
               refine norm_ (a' := ?_) ?_ ?_
               rotate_left
               ·show Act.put _ (some 100) _ = _
                simp only [Act.put, List.setIfInBounds_toArray, List.set_cons_zero, List.set_cons_succ, i64_w, i32_w]
                rfl
               refine G.pu 25 101 (G.bs 35 67108863) ?_
               refine G.pu 26 102 (G.bs 35 134217727) ?_
               refine G.pu 27 103 (G.bs 35 268435455) ?_
               refine G.pu 28 104 (G.bs 35 536870911) ?_
               refine G.pu 29 105 (G.bs 35 1073741823) ?_
               refine G.pu 30 106 (G.bs 35 2147483647) ?_
               refine G.tk 31 107 (G.bs 35 4294967295) rfl (by rintro w' ⟨s0, s1, s2, s3, s4, s5, s6, s7, s8, s9, s10, s11⟩; go_simp; with_reducible rfl) ?_
               refine one_ (i := 32) (N := some 108) (G.bs 35 8589934591) rfl rfl (one_of HT_.out (by kernel_rfl)) (by decide) (fun K hK => ?_)
               refine goes_ Tryz.func14 (by kernel_rfl) rfl #[.agg #[.int .i64 ((rd_T32 t815 x6_2).f0), .int .i64 ((rd_T32 t815 x6_2).f1), .int .i64 ((rd_T32 t815 x6_2).f2)]] (by rfl) rfl rfl G.ar ?_
               with_reducible refine (impl_SquaresInRun.calls ((rd_T32 t815 x6_2).f0) ((rd_T32 t815 x6_2).f1) ((rd_T32 t815 x6_2).f2) t832 _ A54.out).mono ?_
               rintro e w69 ⟨rfl, hb⟩
               have HS0_ := (hb.cell (World.block_lt_of_cell? _ _ (hHeld.1))).trans (hHeld.1)
               have HS1_ := (hb.cell (World.block_lt_of_cell? _ _ (hHeld.2.1))).trans (hHeld.2.1)
               have HS2_ := (hb.cell (World.block_lt_of_cell? _ _ (hHeld.2.2.1))).trans (hHeld.2.2.1)
               have HS3_ := (hb.cell (World.block_lt_of_cell? _ _ (hHeld.2.2.2.1))).trans (hHeld.2.2.2.1)
               have HS4_ := (hb.cell (World.block_lt_of_cell? _ _ (hHeld.2.2.2.2.1))).trans (hHeld.2.2.2.2.1)
               have HS5_ := (hb.cell (World.block_lt_of_cell? _ _ (hHeld.2.2.2.2.2.1))).trans (hHeld.2.2.2.2.2.1)
               have HS6_ := (hb.cell (World.block_lt_of_cell? _ _ (hHeld.2.2.2.2.2.2.1))).trans (hHeld.2.2.2.2.2.2.1)
               have HS7_ := (hb.cell (World.block_lt_of_cell? _ _ (hHeld.2.2.2.2.2.2.2.1))).trans (hHeld.2.2.2.2.2.2.2.1)
               have HS8_ := (hb.cell (World.block_lt_of_cell? _ _ (hHeld.2.2.2.2.2.2.2.2.1))).trans (hHeld.2.2.2.2.2.2.2.2.1)
               have HS9_ := (hb.cell (World.block_lt_of_cell? _ _ (hHeld.2.2.2.2.2.2.2.2.2.1))).trans (hHeld.2.2.2.2.2.2.2.2.2.1)
               have HS10_ := (hb.cell (World.block_lt_of_cell? _ _ (hHeld.2.2.2.2.2.2.2.2.2.2.1))).trans (hHeld.2.2.2.2.2.2.2.2.2.2.1)
               have HS11_ := (hb.cell (World.block_lt_of_cell? _ _ (hHeld.2.2.2.2.2.2.2.2.2.2.2))).trans (hHeld.2.2.2.2.2.2.2.2.2.2.2)
               refine ⟨_, rfl, ?_⟩
               have n0_ := G.a (Kd.R_below (G.kR HO_3.out) hb)
               have n1_ := G.a (Kd.R_below (G.kR HO_4.out) hb)
               have n2_ := G.a (Kd.R_below (G.kR HO_5.out) hb)
               have n3_ := G.a (Kd.R_below (G.kR HO824.out) hb)
               have n4_ := G.a (below_step G.bel hb)
               clear HO_3
               clear HO_4
               clear HO_5
               clear HO824
               clear HB
               have HO_3 := n0_
               have HO_4 := n1_
               have HO_5 := n2_
               have HO824 := n3_
               have HB := n4_
               clear n0_ n1_ n2_ n3_ n4_
               (try clear hb)
               (try clear hb2)
               (try clear hk)
               (try clear hi)
               refine hK.out _ _ ⟨HS0_, HS1_, HS2_, HS3_, HS4_, HS5_, HS6_, HS7_, HS8_, HS9_, HS10_, HS11_⟩ (fun hHeld => ?_)
               clear hK K
               refine norm_ (a' := ?_) ?_ ?_
               rotate_left
               ·show Act.put _ (some 108) _ = _
                simp only [Act.put, List.setIfInBounds_toArray, List.set_cons_zero, List.set_cons_succ, i64_w, i32_w]
                rfl
               refine G.pu 33 109 (G.bs 35 17179869183) ?_
               refine G.pu 34 110 (G.bs 35 34359738367) ?_
               refine done_ (done_of HT_.out (by kernel_rfl)) ?_
               try go_wp2
               go_roundg k2
               case measure => have := HJ6.out; have := HK2.out; omega
               case rel => exact ⟨(wrap64 (x6_2 + 1)), G.tr, H', ⟨by have := HJ6.out; have := HK2.out; omega⟩, ⟨by (with_reducible repeat (first | apply Kd.R_alloc | apply Kd.R_drewN | apply Kd.R_drew)); exact Kd.R_mono HO_3.out (fun _ hk => trivial)⟩, ⟨G.kR HO_4.out⟩, ⟨G.kR HO_5.out⟩, ⟨G.bel⟩⟩
             ·replace c53 := Bool.eq_false_iff.mpr c53
              subst c53
              rw [if_neg (show ¬ (false = true) by decide)] at H
              exact absurd ((Option.some.inj H).trans HTrue_.out) (by decide)
            ·replace c51 := Bool.eq_false_iff.mpr c51
             subst c51
             rw [if_neg (show ¬ (false = true) by decide)] at H
             exact absurd ((Option.some.inj H).trans HTrue_.out) (by decide)
           ·replace c50 := Bool.eq_false_iff.mpr c50
            subst c50
            rw [if_neg (show ¬ (false = true) by decide)] at H
            exact absurd ((Option.some.inj H).trans HTrue_.out) (by decide)
         ·rw [if_neg c42] at H
          exact absurd H (by simp)
        ·rw [if_neg c41] at H
         exact absurd H (by simp)
       ·rw [if_neg c40] at H
        have c40b0 : decide (x6_2 < (t812.length : Int)) = false := decide_eq_false c40
        clear c40
        obtain ⟨t833, A86, H⟩ := G.bx H
        have H' := G.a H
        clear H
        obtain ⟨Ao87, co87, eo87⟩ := Kd.R_slice HO_4.out
        subst eo87
        go_wp2_with (first | ((with_reducible refine gate_callee (f := 15) rfl ?_); refine goesL_ (some 112) rfl rfl Tryz.func15 (by kernel_rfl) rfl #[.slice Ao9 t809.length co9] rfl G.ar ?_; (with_reducible refine (spec_SquaresOf.calls k2 _ _ t809 t833 _ ?side1 ?side2 A86.out).mono ?_); (case side1 => repeat (first | exact (Kd.R_reads' HO_3.out).2.2 | (with_reducible refine Kd.C_alloc ?_ _) | (with_reducible refine Kd.C_drewN ?_ _) | (with_reducible refine Kd.C_drew ?_))); (case side2 => exact (Kd.R_reads' HO_3.out).2.1); rintro e w88 ⟨v834, rfl, ho0, hb⟩; refine ⟨_, rfl, ?_⟩; have n0_ := G.a (Kd.R_below (G.kR HO_3.out) hb); have n1_ := G.a (Kd.R_below (G.kR HO_4.out) hb); have n2_ := G.a (Kd.R_below (G.kR HO_5.out) hb); have n3_ := G.a (Kd.R_lower ho0 (below_size G.bel)); have n4_ := G.a (below_step G.bel hb); clear HO_3; clear HO_4; clear HO_5; clear HB; have HO_3 := n0_; have HO_4 := n1_; have HO_5 := n2_; have HO835 := n3_; have HB := n4_; clear n0_ n1_ n2_ n3_ n4_; (try clear hb); (try clear hb2); (try clear hk); (try clear hi); (try clear ho0)))
        go_loopg [10] k2 (fun kq v10 w' => ∃ (x10_3 : Int), v10 = .int .i64 x10_3 ∧ Aside0 (laws_FnRuns.l1 kq l0 t815 t833 x10_3 = some r) ∧ Aside0 (kq ≤ k2) ∧ Aside0 (Kd.R k32 32 w' w.heap.size (fun _ => True) v816 t815) ∧ Aside0 (Kd.R k39 39 w' w.heap.size (fun _ => True) v834 t833) ∧ Aside0 (Below w.heap.size w w'))
        case atStart => exact ⟨(0), G.tr, H', ⟨Nat.le_refl _⟩, ⟨by (with_reducible repeat (first | apply Kd.R_alloc | apply Kd.R_drewN | apply Kd.R_drew)); exact Kd.R_mono HO_5.out (fun _ hk => trivial)⟩, ⟨G.kR HO835.out⟩, ⟨G.bel⟩⟩
        case round => as_aux_lemma =>
         clear H'
         try clear c1; try clear p2; try clear c4; try clear c5; try clear p8; try clear q8; try clear hx8; try clear c11; try clear c12; try clear c15; try clear c40; try clear c40b0; try clear c41; try clear c42; try clear c50; try clear p82; try clear q82; try clear hx82; try clear hx821_0; try clear hx821_1; try clear hx821_2; try clear hx826_0; try clear hx826_1; try clear hx826_2; try clear hx827_0; try clear hx827_1; try clear hx827_2; try clear hx828_0; try clear hx828_1; try clear hx828_2; try clear p821; try clear p826; try clear p827; try clear p828; try clear q821; try clear q826; try clear q827; try clear q828
         obtain ⟨x10_3, rfl, HA, HK3, HO_5, HO_9, HB⟩ := hrel
         cases gk with
         | zero => exact absurd HA.out (by simp [laws_FnRuns.l1])
         | succ k3 =>
          have H := HA.out
          clear HA
          simp only [laws_FnRuns.l1] at H
          by_cases c89 : x10_3 < (t833.length : Int)
          ·rw [if_pos c89] at H
           have c89b0 : decide (x10_3 < (t833.length : Int)) = true := decide_eq_true c89
           clear c89
           have H' := G.a H
           clear H
           obtain ⟨Ao90, co90, eo90⟩ := Kd.R_slice HO_9.out
           subst eo90
           go_wp2
           go_loopg [11, 12] k3 (fun kq v11 v12 w' => ∃ (x11_4 : Bool) (x12_4 : Int), v11 = .bool x11_4 ∧ v12 = .int .i64 x12_4 ∧ Aside0 (laws_FnRuns.l2 kq l0 t815 t833 x10_3 x11_4 x12_4 = some r) ∧ Aside0 (kq ≤ k3) ∧ Aside0 (Kd.R k32 32 w' w.heap.size (fun _ => True) v816 t815) ∧ Aside0 (Kd.R k39 39 w' w.heap.size (fun _ => True) (.slice Ao90 t833.length co90) t833) ∧ Aside0 (Below w.heap.size w w'))
           case atStart => exact ⟨(false), (0), G.tr, G.tr, H', ⟨Nat.le_refl _⟩, ⟨G.kR HO_5.out⟩, ⟨G.kR HO_9.out⟩, ⟨G.bel⟩⟩
           case round => as_aux_lemma =>
            clear H'
            try clear c1; try clear p2; try clear c4; try clear c5; try clear c8; try clear p8; try clear q8; try clear hx8; try clear c11; try clear c12; try clear c15; try clear c40; try clear c40b0; try clear c41; try clear c42; try clear c50; try clear p82; try clear q82; try clear hx82; try clear c89; try clear c89b0; try clear hx821_0; try clear hx821_1; try clear hx821_2; try clear hx826_0; try clear hx826_1; try clear hx826_2; try clear hx827_0; try clear hx827_1; try clear hx827_2; try clear hx828_0; try clear hx828_1; try clear hx828_2; try clear p2; try clear p8; try clear p82; try clear p821; try clear p826; try clear p827; try clear p828; try clear q8; try clear q82; try clear q821; try clear q826; try clear q827; try clear q828
            obtain ⟨x11_4, x12_4, rfl, rfl, HA, HK4, HO_5, HO_9, HB⟩ := hrel
            cases gk with
            | zero => exact absurd HA.out (by simp [laws_FnRuns.l2])
            | succ k4 =>
             have H := HA.out
             clear HA
             simp only [laws_FnRuns.l2] at H
             by_cases c91 : x12_4 < (t815.length : Int)
             ·rw [if_pos c91] at H
              have c91b0 : decide (x12_4 < (t815.length : Int)) = true := decide_eq_true c91
              clear c91
              by_cases c92 : x11_4 = true
              ·subst c92
               rw [if_pos rfl] at H
               have H' := G.a H
               clear H
               obtain ⟨Ao93, co93, eo93⟩ := Kd.R_slice HO_5.out
               subst eo93
               try go_wp2
               have n0_ := G.a (Kd.R_drew HO_5.out)
               have n1_ := G.a (Kd.R_drew HO_9.out)
               have n2_ := G.a (below_drew1 HB.out)
               clear HO_5
               clear HO_9
               clear HB
               have HO_5 := n0_
               have HO_9 := n1_
               have HB := n2_
               clear n0_ n1_ n2_
               refine start_ (n := 48) (S := fun w' => True) (ds := []) #[false, false, false, false, false, false, false, false, false, false, false, false, false, false, false, false, false, false, false, false, false, false, false, false, false, false, false, false, false, false, false, false, false, false, false, false, false, false, false, false, false, false, false, false, false, false, false, false] (by kernel_rfl) rfl rfl trivial (fun hHeld => ?_); refine with_tabW laws_FnRuns.tab22 laws_FnRuns.bits22 (fun HT_ HW_ => ?_)
               generalize wr.drew = w94 at HO_5 HO_9 HB hHeld ⊢
               refine G.pu 0 125 (G.bs 48 1) ?_
               refine G.pu 1 126 (G.bs 48 3) ?_
               refine G.pn 2 127 (G.bs 48 7) ?_
               refine G.pn 3 128 (G.bs 48 15) ?_
               refine G.pn 4 129 (G.bs 48 31) ?_
               refine G.pn 5 130 (G.bs 48 63) ?_
               refine G.pn 6 131 (G.bs 48 127) ?_
               refine G.pn 7 132 (G.bs 48 255) ?_
               refine G.pn 8 133 (G.bs 48 511) ?_
               refine G.pn 9 134 (G.bs 48 1023) ?_
               refine G.pn 10 135 (G.bs 48 2047) ?_
               refine G.pn 11 136 (G.bs 48 4095) ?_
               refine G.pn 12 137 (G.bs 48 8191) ?_
               refine G.pn 13 138 (G.bs 48 16383) ?_
               refine G.pn 14 139 (G.bs 48 32767) ?_
               refine G.pn 15 140 (G.bs 48 65535) ?_
               refine G.pn 16 141 (G.bs 48 131071) ?_
               refine G.pn 17 142 (G.bs 48 262143) ?_
               refine G.pn 18 143 (G.bs 48 524287) ?_
               refine G.pn 19 144 (G.bs 48 1048575) ?_
               refine G.pn 20 145 (G.bs 48 2097151) ?_
               refine G.pn 21 146 (G.bs 48 4194303) ?_
               refine G.pn 22 147 (G.bs 48 8388607) ?_
               refine G.pn 23 148 (G.bs 48 16777215) ?_
               refine G.pn 24 149 (G.bs 48 33554431) ?_
               refine G.pn 25 150 (G.bs 48 67108863) ?_
               refine G.pn 26 151 (G.bs 48 134217727) ?_
               refine G.pn 27 152 (G.bs 48 268435455) ?_
               refine G.pn 28 153 (G.bs 48 536870911) ?_
               refine G.pn 29 154 (G.bs 48 1073741823) ?_
               refine G.pn 30 155 (G.bs 48 2147483647) ?_
               refine G.pn 31 156 (G.bs 48 4294967295) ?_
               refine G.pn 32 157 (G.bs 48 8589934591) ?_
               refine G.pn 33 158 (G.bs 48 17179869183) ?_
               refine G.pn 34 159 (G.bs 48 34359738367) ?_
               refine G.pn 35 160 (G.bs 48 68719476735) ?_
               refine G.pn 36 161 (G.bs 48 137438953471) ?_
               refine G.pn 37 162 (G.bs 48 274877906943) ?_
               refine G.pn 38 163 (G.bs 48 549755813887) ?_
               refine G.pn 39 164 (G.bs 48 1099511627775) ?_
               refine G.pn 40 165 (G.bs 48 2199023255551) ?_
               refine G.pn 41 166 (G.bs 48 4398046511103) ?_
               refine G.pn 42 167 (G.bs 48 8796093022207) ?_
               refine G.pn 43 168 (G.bs 48 17592186044415) ?_
               refine G.pn 44 169 (G.bs 48 35184372088831) ?_
               refine G.pn 45 170 (G.bs 48 70368744177663) ?_
               refine G.pu 46 171 (G.bs 48 140737488355327) ?_
               refine G.pu 47 11 (G.bs 48 281474976710655) ?_
               refine done_ (done_of HT_.out (by kernel_rfl)) ?_
               try go_wp2
               go_roundg k4
               case measure => have := HJ6.out; have := HK2.out; have := HK3.out; have := HK4.out; omega
               case rel => exact ⟨(true), (wrap64 (x12_4 + 1)), G.tr, G.tr, H', ⟨by have := HJ6.out; have := HK2.out; have := HK3.out; have := HK4.out; omega⟩, ⟨G.kR HO_5.out⟩, ⟨G.kR HO_9.out⟩, ⟨G.bel⟩⟩
              ·replace c92 := Bool.eq_false_iff.mpr c92
               subst c92
               rw [if_neg (show ¬ (false = true) by decide)] at H
               by_cases c95 : 0 ≤ x12_4
               ·rw [if_pos c95] at H
                have c95b0 : decide (0 ≤ x12_4) = true := decide_eq_true c95
                clear c95
                by_cases c96 : 0 ≤ x10_3
                ·rw [if_pos c96] at H
                 have c96b0 : decide (0 ≤ x10_3) = true := decide_eq_true c96
                 clear c96
                 by_cases c97 : x10_3 < (t833.length : Int)
                 ·rw [if_pos c97] at H
                  have c97b0 : decide (x10_3 < (t833.length : Int)) = true := decide_eq_true c97
                  clear c97
                  by_cases c98 : ((rd_T32 t815 x12_4).f0) ≤ ((rd_T39 t833 x10_3).f0)
                  ·rw [if_pos c98] at H
                   have c98b0 : decide (((rd_T32 t815 x12_4).f0) ≤ ((rd_T39 t833 x10_3).f0)) = true := decide_eq_true c98
                   clear c98
                   by_cases c99 : (wrap64 (((rd_T39 t833 x10_3).f0) + ((rd_T39 t833 x10_3).f2))) ≤ ((rd_T32 t815 x12_4).f1)
                   ·rw [if_pos c99] at H
                    have c99b0 : decide ((wrap64 (((rd_T39 t833 x10_3).f0) + ((rd_T39 t833 x10_3).f2))) ≤ ((rd_T32 t815 x12_4).f1)) = true := decide_eq_true c99
                    clear c99
                    by_cases c100 : ((rd_T32 t815 x12_4).f2) = 0
                    ·rw [if_pos c100] at H
                     exact absurd H (by simp)
                    ·rw [if_neg c100] at H
                     have c100b0 : (((rd_T32 t815 x12_4).f2) == 0) = false := beq_eq_false_iff_ne.mpr c100
                     have c100b1 : (((rd_T32 t815 x12_4).f2) != 0) = true := bne_iff_ne.mpr c100
                     have H' := G.a H
                     clear H
                     obtain ⟨Ao101, co101, eo101⟩ := Kd.R_slice HO_5.out
                     subst eo101
                     try go_wp2
                     have n0_ := G.a (Kd.R_drew HO_5.out)
                     have n1_ := G.a (Kd.R_drew HO_9.out)
                     have n2_ := G.a (below_drew1 HB.out)
                     clear HO_5
                     clear HO_9
                     clear HB
                     have HO_5 := n0_
                     have HO_9 := n1_
                     have HB := n2_
                     clear n0_ n1_ n2_
                     have p836 : 0 ≤ (x12_4 : Int) := G.odt
                     have q836 : x12_4 < (t815.length : Int) := G.odt
                     obtain ⟨ad836, e836, hx836_0, hx836_1, hx836_2⟩ := at_T32 (Kd.R_reads' HO_5.out).2.2 x12_4 p836 q836
                     cases e836
                     replace p836 := eq_true p836
                     replace q836 := eq_true q836
                     have p837 : 0 ≤ (x10_3 : Int) := G.odt
                     have q837 : x10_3 < (t833.length : Int) := G.odt
                     obtain ⟨ad837, e837, hx837_0, hx837_1, hx837_2⟩ := at_T39 (Kd.R_reads' HO_9.out).2.2 x10_3 p837 q837
                     cases e837
                     replace p837 := eq_true p837
                     replace q837 := eq_true q837
                     have p838 : 0 ≤ (x10_3 : Int) := G.odt
                     have q838 : x10_3 < (t833.length : Int) := G.odt
                     obtain ⟨ad838, e838, hx838_0, hx838_1, hx838_2⟩ := at_T39 (Kd.R_reads' HO_9.out).2.2 x10_3 p838 q838
                     obtain rfl : ad837 = ad838 := (by injection e838)
                     replace p838 := eq_true p838
                     replace q838 := eq_true q838
                     have p839 : 0 ≤ (x10_3 : Int) := G.odt
                     have q839 : x10_3 < (t833.length : Int) := G.odt
                     obtain ⟨ad839, e839, hx839_0, hx839_1, hx839_2⟩ := at_T39 (Kd.R_reads' HO_9.out).2.2 x10_3 p839 q839
                     obtain rfl : ad837 = ad839 := (by injection e839)
                     replace p839 := eq_true p839
                     replace q839 := eq_true q839
                     have p840 : 0 ≤ (x12_4 : Int) := G.odt
                     have q840 : x12_4 < (t815.length : Int) := G.odt
                     obtain ⟨ad840, e840, hx840_0, hx840_1, hx840_2⟩ := at_T32 (Kd.R_reads' HO_5.out).2.2 x12_4 p840 q840
                     obtain rfl : ad836 = ad840 := (by injection e840)
                     replace p840 := eq_true p840
                     replace q840 := eq_true q840
                     have p841 : 0 ≤ (x10_3 : Int) := G.odt
                     have q841 : x10_3 < (t833.length : Int) := G.odt
                     obtain ⟨ad841, e841, hx841_0, hx841_1, hx841_2⟩ := at_T39 (Kd.R_reads' HO_9.out).2.2 x10_3 p841 q841
                     obtain rfl : ad837 = ad841 := (by injection e841)
                     replace p841 := eq_true p841
                     replace q841 := eq_true q841
                     have p842 : 0 ≤ (x12_4 : Int) := G.odt
                     have q842 : x12_4 < (t815.length : Int) := G.odt
                     obtain ⟨ad842, e842, hx842_0, hx842_1, hx842_2⟩ := at_T32 (Kd.R_reads' HO_5.out).2.2 x12_4 p842 q842
                     obtain rfl : ad836 = ad842 := (by injection e842)
                     replace p842 := eq_true p842
                     replace q842 := eq_true q842
                     refine start_ (n := 48) (S := fun w' => w'.cell? (ad836.add ((x12_4).toNat * 3)) = some (.int .i64 ((rd_T32 t815 x12_4).f0)) ∧ w'.cell? ⟨(ad836.add ((x12_4).toNat * 3)).block, (ad836.add ((x12_4).toNat * 3)).off + 1, none⟩ = some (.int .i64 ((rd_T32 t815 x12_4).f1)) ∧ w'.cell? ⟨(ad836.add ((x12_4).toNat * 3)).block, (ad836.add ((x12_4).toNat * 3)).off + 2, none⟩ = some (.int .i64 ((rd_T32 t815 x12_4).f2)) ∧ w'.cell? (ad837.add ((x10_3).toNat * 3)) = some (.int .i64 ((rd_T39 t833 x10_3).f0)) ∧ w'.cell? ⟨(ad837.add ((x10_3).toNat * 3)).block, (ad837.add ((x10_3).toNat * 3)).off + 1, none⟩ = some (.int .i64 ((rd_T39 t833 x10_3).f1)) ∧ w'.cell? ⟨(ad837.add ((x10_3).toNat * 3)).block, (ad837.add ((x10_3).toNat * 3)).off + 2, none⟩ = some (.int .i64 ((rd_T39 t833 x10_3).f2)) ∧ w'.cell? (ad837.add ((x10_3).toNat * 3)) = some (.int .i64 ((rd_T39 t833 x10_3).f0)) ∧ w'.cell? ⟨(ad837.add ((x10_3).toNat * 3)).block, (ad837.add ((x10_3).toNat * 3)).off + 1, none⟩ = some (.int .i64 ((rd_T39 t833 x10_3).f1)) ∧ w'.cell? ⟨(ad837.add ((x10_3).toNat * 3)).block, (ad837.add ((x10_3).toNat * 3)).off + 2, none⟩ = some (.int .i64 ((rd_T39 t833 x10_3).f2)) ∧ w'.cell? (ad837.add ((x10_3).toNat * 3)) = some (.int .i64 ((rd_T39 t833 x10_3).f0)) ∧ w'.cell? ⟨(ad837.add ((x10_3).toNat * 3)).block, (ad837.add ((x10_3).toNat * 3)).off + 1, none⟩ = some (.int .i64 ((rd_T39 t833 x10_3).f1)) ∧ w'.cell? ⟨(ad837.add ((x10_3).toNat * 3)).block, (ad837.add ((x10_3).toNat * 3)).off + 2, none⟩ = some (.int .i64 ((rd_T39 t833 x10_3).f2)) ∧ w'.cell? (ad836.add ((x12_4).toNat * 3)) = some (.int .i64 ((rd_T32 t815 x12_4).f0)) ∧ w'.cell? ⟨(ad836.add ((x12_4).toNat * 3)).block, (ad836.add ((x12_4).toNat * 3)).off + 1, none⟩ = some (.int .i64 ((rd_T32 t815 x12_4).f1)) ∧ w'.cell? ⟨(ad836.add ((x12_4).toNat * 3)).block, (ad836.add ((x12_4).toNat * 3)).off + 2, none⟩ = some (.int .i64 ((rd_T32 t815 x12_4).f2)) ∧ w'.cell? (ad837.add ((x10_3).toNat * 3)) = some (.int .i64 ((rd_T39 t833 x10_3).f0)) ∧ w'.cell? ⟨(ad837.add ((x10_3).toNat * 3)).block, (ad837.add ((x10_3).toNat * 3)).off + 1, none⟩ = some (.int .i64 ((rd_T39 t833 x10_3).f1)) ∧ w'.cell? ⟨(ad837.add ((x10_3).toNat * 3)).block, (ad837.add ((x10_3).toNat * 3)).off + 2, none⟩ = some (.int .i64 ((rd_T39 t833 x10_3).f2)) ∧ w'.cell? (ad836.add ((x12_4).toNat * 3)) = some (.int .i64 ((rd_T32 t815 x12_4).f0)) ∧ w'.cell? ⟨(ad836.add ((x12_4).toNat * 3)).block, (ad836.add ((x12_4).toNat * 3)).off + 1, none⟩ = some (.int .i64 ((rd_T32 t815 x12_4).f1)) ∧ w'.cell? ⟨(ad836.add ((x12_4).toNat * 3)).block, (ad836.add ((x12_4).toNat * 3)).off + 2, none⟩ = some (.int .i64 ((rd_T32 t815 x12_4).f2))) (ds := []) #[false, false, false, false, false, false, false, false, false, false, false, false, false, false, false, false, false, false, false, false, false, false, false, false, false, false, false, false, false, false, false, false, false, false, false, false, false, false, false, false, false, false, false, false, false, false, false, false] (by kernel_rfl) rfl rfl ⟨hx836_0, hx836_1, hx836_2, hx837_0, hx837_1, hx837_2, hx838_0, hx838_1, hx838_2, hx839_0, hx839_1, hx839_2, hx840_0, hx840_1, hx840_2, hx841_0, hx841_1, hx841_2, hx842_0, hx842_1, hx842_2⟩ (fun hHeld => ?_); refine with_tabW laws_FnRuns.tab22 laws_FnRuns.bits22 (fun HT_ HW_ => ?_)
                     generalize wr.drew = w102 at HO_5 HO_9 HB hx836_0 hx836_1 hx836_2 hx837_0 hx837_1 hx837_2 hx838_0 hx838_1 hx838_2 hx839_0 hx839_1 hx839_2 hx840_0 hx840_1 hx840_2 hx841_0 hx841_1 hx841_2 hx842_0 hx842_1 hx842_2 hHeld ⊢
                     refine G.pu 0 125 (G.bs 48 1) ?_
                     refine G.pu 1 126 (G.bs 48 3) ?_
                     refine G.pu 2 127 (G.bs 48 7) ?_
                     refine G.pu 3 128 (G.bs 48 15) ?_
                     refine G.pu 4 129 (G.bs 48 31) ?_
                     refine G.pu 5 130 (G.bs 48 63) ?_
                     refine G.pu 7 132 (G.bs 48 191) ?_
                     refine G.pu 8 133 (G.bs 48 447) ?_
                     refine G.pu 9 134 (G.bs 48 959) ?_
                     refine G.pu 10 135 (G.bs 48 1983) ?_
                     refine G.tk 6 131 (G.bs 48 2047) rfl (by rintro w' ⟨s0, s1, s2, s3, s4, s5, s6, s7, s8, s9, s10, s11, s12, s13, s14, s15, s16, s17, s18, s19, s20⟩; go_simp; with_reducible rfl) ?_
                     refine G.tk 11 136 (G.bs 48 4095) rfl (by rintro w' ⟨s0, s1, s2, s3, s4, s5, s6, s7, s8, s9, s10, s11, s12, s13, s14, s15, s16, s17, s18, s19, s20⟩; go_simp; with_reducible rfl) ?_
                     refine G.pu 12 137 (G.bs 48 8191) ?_
                     refine G.pu 13 138 (G.bs 48 16383) ?_
                     refine G.pu 14 139 (G.bs 48 32767) ?_
                     refine G.pu 15 140 (G.bs 48 65535) ?_
                     refine G.pu 16 141 (G.bs 48 131071) ?_
                     refine G.pu 17 142 (G.bs 48 262143) ?_
                     refine G.pu 19 144 (G.bs 48 786431) ?_
                     refine G.pu 20 145 (G.bs 48 1835007) ?_
                     refine G.pu 21 146 (G.bs 48 3932159) ?_
                     refine G.pu 22 147 (G.bs 48 8126463) ?_
                     refine G.pu 25 150 (G.bs 48 41680895) ?_
                     refine G.pu 26 151 (G.bs 48 108789759) ?_
                     refine G.pu 27 152 (G.bs 48 243007487) ?_
                     refine G.pu 28 153 (G.bs 48 511442943) ?_
                     refine G.tk 18 143 (G.bs 48 511705087) rfl (by rintro w' ⟨s0, s1, s2, s3, s4, s5, s6, s7, s8, s9, s10, s11, s12, s13, s14, s15, s16, s17, s18, s19, s20⟩; go_simp; with_reducible rfl) ?_
                     refine G.tk 23 148 (G.bs 48 520093695) rfl (by rintro w' ⟨s0, s1, s2, s3, s4, s5, s6, s7, s8, s9, s10, s11, s12, s13, s14, s15, s16, s17, s18, s19, s20⟩; go_simp; with_reducible rfl) ?_
                     refine G.pu 24 149 (G.bs 48 536870911) ?_
                     refine G.tk 29 154 (G.bs 48 1073741823) rfl (by rintro w' ⟨s0, s1, s2, s3, s4, s5, s6, s7, s8, s9, s10, s11, s12, s13, s14, s15, s16, s17, s18, s19, s20⟩; go_simp; with_reducible rfl) ?_
                     refine G.pu 30 155 (G.bs 48 2147483647) ?_
                     refine G.pu 31 156 (G.bs 48 4294967295) ?_
                     refine G.pu 32 157 (G.bs 48 8589934591) ?_
                     refine G.pu 33 158 (G.bs 48 17179869183) ?_
                     refine G.pu 34 159 (G.bs 48 34359738367) ?_
                     refine G.pu 35 160 (G.bs 48 68719476735) ?_
                     refine G.pu 36 161 (G.bs 48 137438953471) ?_
                     refine G.pu 38 163 (G.bs 48 412316860415) ?_
                     refine G.pu 39 164 (G.bs 48 962072674303) ?_
                     refine G.pu 40 165 (G.bs 48 2061584302079) ?_
                     refine G.pu 41 166 (G.bs 48 4260607557631) ?_
                     refine G.tk 37 162 (G.bs 48 4398046511103) rfl (by rintro w' ⟨s0, s1, s2, s3, s4, s5, s6, s7, s8, s9, s10, s11, s12, s13, s14, s15, s16, s17, s18, s19, s20⟩; go_simp; with_reducible rfl) ?_
                     refine G.tk 42 167 (G.bs 48 8796093022207) rfl (by rintro w' ⟨s0, s1, s2, s3, s4, s5, s6, s7, s8, s9, s10, s11, s12, s13, s14, s15, s16, s17, s18, s19, s20⟩; go_simp; with_reducible rfl) ?_
                     refine G.pu 43 168 (G.bs 48 17592186044415) ?_
                     refine G.pu 44 169 (G.bs 48 35184372088831) ?_
                     refine G.pu 45 170 (G.bs 48 70368744177663) ?_
                     refine G.pu 46 171 (G.bs 48 140737488355327) ?_
                     refine G.pu 47 11 (G.bs 48 281474976710655) ?_
                     refine done_ (done_of HT_.out (by kernel_rfl)) ?_
                     try go_wp2
                     go_roundg k4
                     case measure => have := HJ6.out; have := HK2.out; have := HK3.out; have := HK4.out; omega
                     case rel => exact ⟨(((Int.tmod ((rd_T39 t833 x10_3).f1) ((rd_T32 t815 x12_4).f2)) == 0)), (wrap64 (x12_4 + 1)), G.tr, G.tr, H', ⟨by have := HJ6.out; have := HK2.out; have := HK3.out; have := HK4.out; omega⟩, ⟨G.kR HO_5.out⟩, ⟨G.kR HO_9.out⟩, ⟨G.bel⟩⟩
                   ·rw [if_neg c99] at H
                    have c99b0 : decide ((wrap64 (((rd_T39 t833 x10_3).f0) + ((rd_T39 t833 x10_3).f2))) ≤ ((rd_T32 t815 x12_4).f1)) = false := decide_eq_false c99
                    clear c99
                    have H' := G.a H
                    clear H
                    obtain ⟨Ao103, co103, eo103⟩ := Kd.R_slice HO_5.out
                    subst eo103
                    try go_wp2
                    have n0_ := G.a (Kd.R_drew HO_5.out)
                    have n1_ := G.a (Kd.R_drew HO_9.out)
                    have n2_ := G.a (below_drew1 HB.out)
                    clear HO_5
                    clear HO_9
                    clear HB
                    have HO_5 := n0_
                    have HO_9 := n1_
                    have HB := n2_
                    clear n0_ n1_ n2_
                    have p836 : 0 ≤ (x12_4 : Int) := G.odt
                    have q836 : x12_4 < (t815.length : Int) := G.odt
                    obtain ⟨ad836, e836, hx836_0, hx836_1, hx836_2⟩ := at_T32 (Kd.R_reads' HO_5.out).2.2 x12_4 p836 q836
                    cases e836
                    replace p836 := eq_true p836
                    replace q836 := eq_true q836
                    have p837 : 0 ≤ (x10_3 : Int) := G.odt
                    have q837 : x10_3 < (t833.length : Int) := G.odt
                    obtain ⟨ad837, e837, hx837_0, hx837_1, hx837_2⟩ := at_T39 (Kd.R_reads' HO_9.out).2.2 x10_3 p837 q837
                    cases e837
                    replace p837 := eq_true p837
                    replace q837 := eq_true q837
                    have p838 : 0 ≤ (x10_3 : Int) := G.odt
                    have q838 : x10_3 < (t833.length : Int) := G.odt
                    obtain ⟨ad838, e838, hx838_0, hx838_1, hx838_2⟩ := at_T39 (Kd.R_reads' HO_9.out).2.2 x10_3 p838 q838
                    obtain rfl : ad837 = ad838 := (by injection e838)
                    replace p838 := eq_true p838
                    replace q838 := eq_true q838
                    have p839 : 0 ≤ (x10_3 : Int) := G.odt
                    have q839 : x10_3 < (t833.length : Int) := G.odt
                    obtain ⟨ad839, e839, hx839_0, hx839_1, hx839_2⟩ := at_T39 (Kd.R_reads' HO_9.out).2.2 x10_3 p839 q839
                    obtain rfl : ad837 = ad839 := (by injection e839)
                    replace p839 := eq_true p839
                    replace q839 := eq_true q839
                    have p840 : 0 ≤ (x12_4 : Int) := G.odt
                    have q840 : x12_4 < (t815.length : Int) := G.odt
                    obtain ⟨ad840, e840, hx840_0, hx840_1, hx840_2⟩ := at_T32 (Kd.R_reads' HO_5.out).2.2 x12_4 p840 q840
                    obtain rfl : ad836 = ad840 := (by injection e840)
                    replace p840 := eq_true p840
                    replace q840 := eq_true q840
                    refine start_ (n := 48) (S := fun w' => w'.cell? (ad836.add ((x12_4).toNat * 3)) = some (.int .i64 ((rd_T32 t815 x12_4).f0)) ∧ w'.cell? ⟨(ad836.add ((x12_4).toNat * 3)).block, (ad836.add ((x12_4).toNat * 3)).off + 1, none⟩ = some (.int .i64 ((rd_T32 t815 x12_4).f1)) ∧ w'.cell? ⟨(ad836.add ((x12_4).toNat * 3)).block, (ad836.add ((x12_4).toNat * 3)).off + 2, none⟩ = some (.int .i64 ((rd_T32 t815 x12_4).f2)) ∧ w'.cell? (ad837.add ((x10_3).toNat * 3)) = some (.int .i64 ((rd_T39 t833 x10_3).f0)) ∧ w'.cell? ⟨(ad837.add ((x10_3).toNat * 3)).block, (ad837.add ((x10_3).toNat * 3)).off + 1, none⟩ = some (.int .i64 ((rd_T39 t833 x10_3).f1)) ∧ w'.cell? ⟨(ad837.add ((x10_3).toNat * 3)).block, (ad837.add ((x10_3).toNat * 3)).off + 2, none⟩ = some (.int .i64 ((rd_T39 t833 x10_3).f2)) ∧ w'.cell? (ad837.add ((x10_3).toNat * 3)) = some (.int .i64 ((rd_T39 t833 x10_3).f0)) ∧ w'.cell? ⟨(ad837.add ((x10_3).toNat * 3)).block, (ad837.add ((x10_3).toNat * 3)).off + 1, none⟩ = some (.int .i64 ((rd_T39 t833 x10_3).f1)) ∧ w'.cell? ⟨(ad837.add ((x10_3).toNat * 3)).block, (ad837.add ((x10_3).toNat * 3)).off + 2, none⟩ = some (.int .i64 ((rd_T39 t833 x10_3).f2)) ∧ w'.cell? (ad837.add ((x10_3).toNat * 3)) = some (.int .i64 ((rd_T39 t833 x10_3).f0)) ∧ w'.cell? ⟨(ad837.add ((x10_3).toNat * 3)).block, (ad837.add ((x10_3).toNat * 3)).off + 1, none⟩ = some (.int .i64 ((rd_T39 t833 x10_3).f1)) ∧ w'.cell? ⟨(ad837.add ((x10_3).toNat * 3)).block, (ad837.add ((x10_3).toNat * 3)).off + 2, none⟩ = some (.int .i64 ((rd_T39 t833 x10_3).f2)) ∧ w'.cell? (ad836.add ((x12_4).toNat * 3)) = some (.int .i64 ((rd_T32 t815 x12_4).f0)) ∧ w'.cell? ⟨(ad836.add ((x12_4).toNat * 3)).block, (ad836.add ((x12_4).toNat * 3)).off + 1, none⟩ = some (.int .i64 ((rd_T32 t815 x12_4).f1)) ∧ w'.cell? ⟨(ad836.add ((x12_4).toNat * 3)).block, (ad836.add ((x12_4).toNat * 3)).off + 2, none⟩ = some (.int .i64 ((rd_T32 t815 x12_4).f2))) (ds := []) #[false, false, false, false, false, false, false, false, false, false, false, false, false, false, false, false, false, false, false, false, false, false, false, false, false, false, false, false, false, false, false, false, false, false, false, false, false, false, false, false, false, false, false, false, false, false, false, false] (by kernel_rfl) rfl rfl ⟨hx836_0, hx836_1, hx836_2, hx837_0, hx837_1, hx837_2, hx838_0, hx838_1, hx838_2, hx839_0, hx839_1, hx839_2, hx840_0, hx840_1, hx840_2⟩ (fun hHeld => ?_); refine with_tabW laws_FnRuns.tab22 laws_FnRuns.bits22 (fun HT_ HW_ => ?_)
                    generalize wr.drew = w104 at HO_5 HO_9 HB hx836_0 hx836_1 hx836_2 hx837_0 hx837_1 hx837_2 hx838_0 hx838_1 hx838_2 hx839_0 hx839_1 hx839_2 hx840_0 hx840_1 hx840_2 hHeld ⊢
                    refine G.pu 0 125 (G.bs 48 1) ?_
                    refine G.pu 1 126 (G.bs 48 3) ?_
                    refine G.pu 2 127 (G.bs 48 7) ?_
                    refine G.pu 3 128 (G.bs 48 15) ?_
                    refine G.pu 4 129 (G.bs 48 31) ?_
                    refine G.pu 5 130 (G.bs 48 63) ?_
                    refine G.pu 7 132 (G.bs 48 191) ?_
                    refine G.pu 8 133 (G.bs 48 447) ?_
                    refine G.pu 9 134 (G.bs 48 959) ?_
                    refine G.pu 10 135 (G.bs 48 1983) ?_
                    refine G.tk 6 131 (G.bs 48 2047) rfl (by rintro w' ⟨s0, s1, s2, s3, s4, s5, s6, s7, s8, s9, s10, s11, s12, s13, s14⟩; go_simp; with_reducible rfl) ?_
                    refine G.tk 11 136 (G.bs 48 4095) rfl (by rintro w' ⟨s0, s1, s2, s3, s4, s5, s6, s7, s8, s9, s10, s11, s12, s13, s14⟩; go_simp; with_reducible rfl) ?_
                    refine G.pu 12 137 (G.bs 48 8191) ?_
                    refine G.pu 13 138 (G.bs 48 16383) ?_
                    refine G.pu 14 139 (G.bs 48 32767) ?_
                    refine G.pu 15 140 (G.bs 48 65535) ?_
                    refine G.pu 16 141 (G.bs 48 131071) ?_
                    refine G.pu 17 142 (G.bs 48 262143) ?_
                    refine G.pu 19 144 (G.bs 48 786431) ?_
                    refine G.pu 20 145 (G.bs 48 1835007) ?_
                    refine G.pu 21 146 (G.bs 48 3932159) ?_
                    refine G.pu 22 147 (G.bs 48 8126463) ?_
                    refine G.pu 25 150 (G.bs 48 41680895) ?_
                    refine G.pu 26 151 (G.bs 48 108789759) ?_
                    refine G.pu 27 152 (G.bs 48 243007487) ?_
                    refine G.pu 28 153 (G.bs 48 511442943) ?_
                    refine G.tk 18 143 (G.bs 48 511705087) rfl (by rintro w' ⟨s0, s1, s2, s3, s4, s5, s6, s7, s8, s9, s10, s11, s12, s13, s14⟩; go_simp; with_reducible rfl) ?_
                    refine G.tk 23 148 (G.bs 48 520093695) rfl (by rintro w' ⟨s0, s1, s2, s3, s4, s5, s6, s7, s8, s9, s10, s11, s12, s13, s14⟩; go_simp; with_reducible rfl) ?_
                    refine G.pu 24 149 (G.bs 48 536870911) ?_
                    refine G.tk 29 154 (G.bs 48 1073741823) rfl (by rintro w' ⟨s0, s1, s2, s3, s4, s5, s6, s7, s8, s9, s10, s11, s12, s13, s14⟩; go_simp; with_reducible rfl) ?_
                    refine G.pu 30 155 (G.bs 48 2147483647) ?_
                    refine G.pu 31 156 (G.bs 48 4294967295) ?_
                    refine G.pu 32 157 (G.bs 48 8589934591) ?_
                    refine G.pn 33 158 (G.bs 48 17179869183) ?_
                    refine G.pn 34 159 (G.bs 48 34359738367) ?_
                    refine G.pn 35 160 (G.bs 48 68719476735) ?_
                    refine G.pn 36 161 (G.bs 48 137438953471) ?_
                    refine G.pn 37 162 (G.bs 48 274877906943) ?_
                    refine G.pn 38 163 (G.bs 48 549755813887) ?_
                    refine G.pn 39 164 (G.bs 48 1099511627775) ?_
                    refine G.pn 40 165 (G.bs 48 2199023255551) ?_
                    refine G.pn 41 166 (G.bs 48 4398046511103) ?_
                    refine G.pn 42 167 (G.bs 48 8796093022207) ?_
                    refine G.pn 43 168 (G.bs 48 17592186044415) ?_
                    refine G.pn 44 169 (G.bs 48 35184372088831) ?_
                    refine G.pu 45 170 (G.bs 48 70368744177663) ?_
                    refine G.pu 46 171 (G.bs 48 140737488355327) ?_
                    refine G.pu 47 11 (G.bs 48 281474976710655) ?_
                    refine done_ (done_of HT_.out (by kernel_rfl)) ?_
                    try go_wp2
                    go_roundg k4
                    case measure => have := HJ6.out; have := HK2.out; have := HK3.out; have := HK4.out; omega
                    case rel => exact ⟨(false), (wrap64 (x12_4 + 1)), G.tr, G.tr, H', ⟨by have := HJ6.out; have := HK2.out; have := HK3.out; have := HK4.out; omega⟩, ⟨G.kR HO_5.out⟩, ⟨G.kR HO_9.out⟩, ⟨G.bel⟩⟩
                  ·rw [if_neg c98] at H
                   have c98b0 : decide (((rd_T32 t815 x12_4).f0) ≤ ((rd_T39 t833 x10_3).f0)) = false := decide_eq_false c98
                   clear c98
                   have H' := G.a H
                   clear H
                   obtain ⟨Ao105, co105, eo105⟩ := Kd.R_slice HO_5.out
                   subst eo105
                   try go_wp2
                   have n0_ := G.a (Kd.R_drew HO_5.out)
                   have n1_ := G.a (Kd.R_drew HO_9.out)
                   have n2_ := G.a (below_drew1 HB.out)
                   clear HO_5
                   clear HO_9
                   clear HB
                   have HO_5 := n0_
                   have HO_9 := n1_
                   have HB := n2_
                   clear n0_ n1_ n2_
                   have p836 : 0 ≤ (x12_4 : Int) := G.odt
                   have q836 : x12_4 < (t815.length : Int) := G.odt
                   obtain ⟨ad836, e836, hx836_0, hx836_1, hx836_2⟩ := at_T32 (Kd.R_reads' HO_5.out).2.2 x12_4 p836 q836
                   cases e836
                   replace p836 := eq_true p836
                   replace q836 := eq_true q836
                   have p837 : 0 ≤ (x10_3 : Int) := G.odt
                   have q837 : x10_3 < (t833.length : Int) := G.odt
                   obtain ⟨ad837, e837, hx837_0, hx837_1, hx837_2⟩ := at_T39 (Kd.R_reads' HO_9.out).2.2 x10_3 p837 q837
                   cases e837
                   replace p837 := eq_true p837
                   replace q837 := eq_true q837
                   refine start_ (n := 48) (S := fun w' => w'.cell? (ad836.add ((x12_4).toNat * 3)) = some (.int .i64 ((rd_T32 t815 x12_4).f0)) ∧ w'.cell? ⟨(ad836.add ((x12_4).toNat * 3)).block, (ad836.add ((x12_4).toNat * 3)).off + 1, none⟩ = some (.int .i64 ((rd_T32 t815 x12_4).f1)) ∧ w'.cell? ⟨(ad836.add ((x12_4).toNat * 3)).block, (ad836.add ((x12_4).toNat * 3)).off + 2, none⟩ = some (.int .i64 ((rd_T32 t815 x12_4).f2)) ∧ w'.cell? (ad837.add ((x10_3).toNat * 3)) = some (.int .i64 ((rd_T39 t833 x10_3).f0)) ∧ w'.cell? ⟨(ad837.add ((x10_3).toNat * 3)).block, (ad837.add ((x10_3).toNat * 3)).off + 1, none⟩ = some (.int .i64 ((rd_T39 t833 x10_3).f1)) ∧ w'.cell? ⟨(ad837.add ((x10_3).toNat * 3)).block, (ad837.add ((x10_3).toNat * 3)).off + 2, none⟩ = some (.int .i64 ((rd_T39 t833 x10_3).f2))) (ds := []) #[false, false, false, false, false, false, false, false, false, false, false, false, false, false, false, false, false, false, false, false, false, false, false, false, false, false, false, false, false, false, false, false, false, false, false, false, false, false, false, false, false, false, false, false, false, false, false, false] (by kernel_rfl) rfl rfl ⟨hx836_0, hx836_1, hx836_2, hx837_0, hx837_1, hx837_2⟩ (fun hHeld => ?_); refine with_tabW laws_FnRuns.tab22 laws_FnRuns.bits22 (fun HT_ HW_ => ?_)
                   generalize wr.drew = w106 at HO_5 HO_9 HB hx836_0 hx836_1 hx836_2 hx837_0 hx837_1 hx837_2 hHeld ⊢
                   refine G.pu 0 125 (G.bs 48 1) ?_
                   refine G.pu 1 126 (G.bs 48 3) ?_
                   refine G.pu 2 127 (G.bs 48 7) ?_
                   refine G.pu 3 128 (G.bs 48 15) ?_
                   refine G.pu 4 129 (G.bs 48 31) ?_
                   refine G.pu 5 130 (G.bs 48 63) ?_
                   refine G.pu 7 132 (G.bs 48 191) ?_
                   refine G.pu 8 133 (G.bs 48 447) ?_
                   refine G.pu 9 134 (G.bs 48 959) ?_
                   refine G.pu 10 135 (G.bs 48 1983) ?_
                   refine G.tk 6 131 (G.bs 48 2047) rfl (by rintro w' ⟨s0, s1, s2, s3, s4, s5⟩; go_simp; with_reducible rfl) ?_
                   refine G.tk 11 136 (G.bs 48 4095) rfl (by rintro w' ⟨s0, s1, s2, s3, s4, s5⟩; go_simp; with_reducible rfl) ?_
                   refine G.pu 12 137 (G.bs 48 8191) ?_
                   refine G.pu 13 138 (G.bs 48 16383) ?_
                   refine G.pn 14 139 (G.bs 48 32767) ?_
                   refine G.pn 15 140 (G.bs 48 65535) ?_
                   refine G.pn 16 141 (G.bs 48 131071) ?_
                   refine G.pn 17 142 (G.bs 48 262143) ?_
                   refine G.pn 18 143 (G.bs 48 524287) ?_
                   refine G.pn 19 144 (G.bs 48 1048575) ?_
                   refine G.pn 20 145 (G.bs 48 2097151) ?_
                   refine G.pn 21 146 (G.bs 48 4194303) ?_
                   refine G.pn 22 147 (G.bs 48 8388607) ?_
                   refine G.pn 23 148 (G.bs 48 16777215) ?_
                   refine G.pn 24 149 (G.bs 48 33554431) ?_
                   refine G.pn 25 150 (G.bs 48 67108863) ?_
                   refine G.pn 26 151 (G.bs 48 134217727) ?_
                   refine G.pn 27 152 (G.bs 48 268435455) ?_
                   refine G.pn 28 153 (G.bs 48 536870911) ?_
                   refine G.pn 29 154 (G.bs 48 1073741823) ?_
                   refine G.pn 30 155 (G.bs 48 2147483647) ?_
                   refine G.pu 31 156 (G.bs 48 4294967295) ?_
                   refine G.pu 32 157 (G.bs 48 8589934591) ?_
                   refine G.pn 33 158 (G.bs 48 17179869183) ?_
                   refine G.pn 34 159 (G.bs 48 34359738367) ?_
                   refine G.pn 35 160 (G.bs 48 68719476735) ?_
                   refine G.pn 36 161 (G.bs 48 137438953471) ?_
                   refine G.pn 37 162 (G.bs 48 274877906943) ?_
                   refine G.pn 38 163 (G.bs 48 549755813887) ?_
                   refine G.pn 39 164 (G.bs 48 1099511627775) ?_
                   refine G.pn 40 165 (G.bs 48 2199023255551) ?_
                   refine G.pn 41 166 (G.bs 48 4398046511103) ?_
                   refine G.pn 42 167 (G.bs 48 8796093022207) ?_
                   refine G.pn 43 168 (G.bs 48 17592186044415) ?_
                   refine G.pn 44 169 (G.bs 48 35184372088831) ?_
                   refine G.pu 45 170 (G.bs 48 70368744177663) ?_
                   refine G.pu 46 171 (G.bs 48 140737488355327) ?_
                   refine G.pu 47 11 (G.bs 48 281474976710655) ?_
                   refine done_ (done_of HT_.out (by kernel_rfl)) ?_
                   try go_wp2
                   go_roundg k4
                   case measure => have := HJ6.out; have := HK2.out; have := HK3.out; have := HK4.out; omega
                   case rel => exact ⟨(false), (wrap64 (x12_4 + 1)), G.tr, G.tr, H', ⟨by have := HJ6.out; have := HK2.out; have := HK3.out; have := HK4.out; omega⟩, ⟨G.kR HO_5.out⟩, ⟨G.kR HO_9.out⟩, ⟨G.bel⟩⟩
                 ·rw [if_neg c97] at H
                  exact absurd H (by simp)
                ·rw [if_neg c96] at H
                 exact absurd H (by simp)
               ·rw [if_neg c95] at H
                exact absurd H (by simp)
             ·rw [if_neg c91] at H
              have c91b0 : decide (x12_4 < (t815.length : Int)) = false := decide_eq_false c91
              clear c91
              by_cases c107 : x11_4 = true
              ·subst c107
               rw [if_pos rfl] at H
               have H' := G.a H
               clear H
               obtain ⟨Ao108, co108, eo108⟩ := Kd.R_slice HO_5.out
               subst eo108
               go_wp2
               go_roundg k4
               case measure => have := HJ6.out; have := HK2.out; have := HK3.out; have := HK4.out; omega
               case rel => exact ⟨(wrap64 (x10_3 + 1)), G.tr, H', ⟨by have := HJ6.out; have := HK2.out; have := HK3.out; have := HK4.out; omega⟩, ⟨G.kR HO_5.out⟩, ⟨G.kR HO_9.out⟩, ⟨G.bel⟩⟩
              ·replace c107 := Bool.eq_false_iff.mpr c107
               subst c107
               rw [if_neg (show ¬ (false = true) by decide)] at H
               exact absurd ((Option.some.inj H).trans HTrue_.out) (by decide)
          ·rw [if_neg c89] at H
           have c89b0 : decide (x10_3 < (t833.length : Int)) = false := decide_eq_false c89
           clear c89
           obtain ⟨Ao123, co123, eo123⟩ := Kd.R_slice HO_9.out
           subst eo123
           go_upto_region 26 with (first | ((with_reducible refine gate_callee (f := 16) rfl ?_); refine goesL_ (some 176) rfl rfl Tryz.func16 (by kernel_rfl) rfl #[.slice A0 l0.length c0] rfl G.ar ?_; (with_reducible refine (spec_DrawIsRun.any _ _ l0 _ ?side1 ?side2 ?side3 HRNok_.out).mono ?_); (case side3 => exact HBIG_.out); (case side1 => exact G.kC (Kd.C_below HR0.out HB.out)); (case side2 => exact HC0.out); rintro e w124 ⟨t843, t846, t847, t848, v844, hw_, rfl, ho0, hb⟩; have A110 := G.a hw_; clear hw_; refine ⟨_, rfl, ?_⟩; have n0_ := G.a (Kd.R_below (G.kR HO_5.out) hb); have n1_ := G.a (Kd.R_below (G.kR HO_9.out) hb); have n2_ := G.a (Kd.R_lower ho0 (below_size G.bel)); have n3_ := G.a (below_step G.bel hb); clear HO_5; clear HO_9; clear HB; have HO_5 := n0_; have HO_9 := n1_; have HO845 := n2_; have HB := n3_; clear n0_ n1_ n2_ n3_; (try clear hb); (try clear hb2); (try clear hk); (try clear hi); (try clear ho0)) | ((with_reducible refine gate_dst (N := 14) rfl ?_); (try (refine gate_guard (by rfl) ?_; dsimp only)); refine box_event ?hg (N := 14) ?hd (cs := #[.int .i64 0, .int .i64 0, .int .i64 0]) (t := 32) ?hr ?_; (case hd => rfl); (case hg => rfl); (case hr => first | (go_simp; done) | (go_simp; rfl)); intro gb849 hg w125 hbox hb; have n0_ := G.a (Kd.R_below (Kd.R_elderB (G.kR HO_5.out) gb849 (Nat.le_of_eq hg.symm)) hb); have n1_ := G.a (Kd.R_below (G.kR HO_9.out) hb); have n2_ := G.a (Kd.R_below (G.kR HO845.out) hb); have n3_ := G.a (below_step G.bel hb); have n4_ := G.a (hbox); have n5_ := G.a ((by rw [hg]; exact (below_size G.bel) : w.heap.size ≤ gb849)); have n6_ := G.a ((by rw [hg]; exact (below_size G.bel) : w.heap.size ≤ gb849)); clear HO_5; clear HO_9; clear HO845; clear HB; have HO_5 := n0_; have HO_9 := n1_; have HO845 := n2_; have HB := n3_; have BK849 := n4_; have GW849 := n5_; have GE849 := n6_; clear n0_ n1_ n2_ n3_ n4_ n5_ n6_; clear hb hbox hg; have hcz126_0 : w125.cell? ⟨gb849, 0, none⟩ = some (.int .i64 0) := (blk_cell BK849.out 0).trans rfl; have hcz126_1 : w125.cell? ⟨gb849, 1, none⟩ = some (.int .i64 0) := (blk_cell BK849.out 1).trans rfl; have hcz126_2 : w125.cell? ⟨gb849, 2, none⟩ = some (.int .i64 0) := (blk_cell BK849.out 2).trans rfl; have hfz126_0 := blk_frozen BK849.out 0; have hfz126_1 := blk_frozen BK849.out 1; have hfz126_2 := blk_frozen BK849.out 2))
           obtain ⟨k3, H⟩ := G.draw_out H (t843, t846, t847, t848) A110.out
           replace H : (G.draw spec_DrawRootOfRun.Ok fun k3 bt850 => ((impl_RootOfRun.f k3 bt850.1 bt850.2.1 bt850.2.2.1 bt850.2.2.2).bind fun bt857 => ((spec_RootOfRun.f k3 bt850.1 bt850.2.1 bt850.2.2.1 bt850.2.2.2).bind fun bt861 => (G.draw spec_DrawSquaresInRun.Ok fun k3 bt865 => ((impl_IsRun.f k3 t843 t846 t847 t848).bind fun t869 => ((spec_IsRun.f k3 t843 t846 t847 t848).bind fun t870 => (if (t869 == t870) = true then (if (bt857.2 == bt861.2) = true then ((laws_sameInts.f k3 bt857.1 bt861.1).bind fun t871 => (if t871 = true then ((impl_SquaresInRun.f bt865.1 bt865.2.1 bt865.2.2).bind fun t872 => ((spec_SquaresInRun.f bt865.1 bt865.2.1 bt865.2.2).bind fun t873 => (some (t872 == t873)))) else (some false))) else (some false)) else (some false)))))))) = some r := H
           go_upto_region 27 with (first | ((with_reducible refine gate_callee (f := 17) rfl ?_); refine goesL_ (some 181) rfl rfl Tryz.func17 (by kernel_rfl) rfl #[.slice A0 l0.length c0] rfl G.ar ?_; (with_reducible refine (spec_DrawRootOfRun.any _ _ l0 _ ?side1 ?side2 ?side3 HRNok_.out).mono ?_); (case side3 => exact HBIG_.out); (case side1 => exact Kd.C_below HR0.out (G.bes GE849.out)); (case side2 => exact HC0.out); rintro e w127 ⟨t850, t853, t854, t855, v851, hw_, rfl, ho0, hb⟩; have A111 := G.a hw_; clear hw_; refine ⟨_, rfl, ?_⟩; have n0_ := G.a (Kd.R_below (by (with_reducible repeat (first | apply Kd.R_alloc | apply Kd.R_drewN | apply Kd.R_drew)); exact (Kd.R_mono (Kd.R_far (p := ⟨gb849, 2, none⟩) (Kd.R_far (p := ⟨gb849, 1, none⟩) (Kd.R_far (p := ⟨gb849, 0, none⟩) (Kd.R_mono HO_5.out (fun k_ hk => (⟨hk, hk.2⟩ : _ ∧ k_ ≠ gb849))) (fun _ hk => hk.2) (.int .i64 t846)) (fun _ hk => hk.2) (.int .i64 t847)) (fun _ hk => hk.2) (.int .i64 t848)) (fun _ h_ => h_.1))) hb); have n1_ := G.a (Kd.R_below (by (with_reducible repeat (first | apply Kd.R_alloc | apply Kd.R_drewN | apply Kd.R_drew)); exact (Kd.R_mono (Kd.R_far (p := ⟨gb849, 2, none⟩) (Kd.R_far (p := ⟨gb849, 1, none⟩) (Kd.R_far (p := ⟨gb849, 0, none⟩) (Kd.R_types HO_9.out BK849.out (by decide)) (fun _ hk => hk.2) (.int .i64 t846)) (fun _ hk => hk.2) (.int .i64 t847)) (fun _ hk => hk.2) (.int .i64 t848)) (fun _ h_ => h_.1))) hb); have n2_ := G.a (Kd.R_elder' (by (with_reducible repeat (first | apply Kd.R_alloc | apply Kd.R_drewN | apply Kd.R_drew)); exact (Kd.R_mono (Kd.R_far (p := ⟨gb849, 2, none⟩) (Kd.R_far (p := ⟨gb849, 1, none⟩) (Kd.R_far (p := ⟨gb849, 0, none⟩) (Kd.R_types HO845.out BK849.out (by decide)) (fun _ hk => hk.2) (.int .i64 t846)) (fun _ hk => hk.2) (.int .i64 t847)) (fun _ hk => hk.2) (.int .i64 t848)) (fun _ h_ => h_.1))) (Kd.R_base ho0) hb); have n3_ := G.a (Kd.R_lower (Kd.R_new' ho0 (Kd.R_lt (by (with_reducible repeat (first | apply Kd.R_alloc | apply Kd.R_drewN | apply Kd.R_drew)); exact (Kd.R_mono (Kd.R_far (p := ⟨gb849, 2, none⟩) (Kd.R_far (p := ⟨gb849, 1, none⟩) (Kd.R_far (p := ⟨gb849, 0, none⟩) (Kd.R_types HO845.out BK849.out (by decide)) (fun _ hk => hk.2) (.int .i64 t846)) (fun _ hk => hk.2) (.int .i64 t847)) (fun _ hk => hk.2) (.int .i64 t848)) (fun _ h_ => h_.1))))) (below_size (G.bes GE849.out))); have n4_ := G.a (blk_below (g := gb849) (o := .cells #[.int .i64 t846, .int .i64 t847, .int .i64 t848] 32 (0, 0)) (by (with_reducible repeat (first | refine blk_drewN ?_ _ | refine blk_drew ?_ | refine blk_alloc ?_ _)); refine blk_put (cs := #[.int .i64 t846, .int .i64 t847, .int .i64 0]) ?_ 2 _ rfl; (with_reducible repeat (first | refine blk_drewN ?_ _ | refine blk_drew ?_ | refine blk_alloc ?_ _)); refine blk_put (cs := #[.int .i64 t846, .int .i64 0, .int .i64 0]) ?_ 1 _ rfl; (with_reducible repeat (first | refine blk_drewN ?_ _ | refine blk_drew ?_ | refine blk_alloc ?_ _)); refine blk_put (cs := #[.int .i64 0, .int .i64 0, .int .i64 0]) ?_ 0 _ rfl; (with_reducible repeat (first | refine blk_drewN ?_ _ | refine blk_drew ?_ | refine blk_alloc ?_ _)); exact BK849.out) hb); have n5_ := G.a (below_step (G.bes GE849.out) hb); clear HO_5; clear HO_9; clear HO845; clear BK849; clear HB; have HO_5 := n0_; have HO_9 := n1_; have HO845 := n2_; have HO852 := n3_; have BK849 := n4_; have HB := n5_; clear n0_ n1_ n2_ n3_ n4_ n5_; (try clear hb); (try clear hb2); (try clear hk); (try clear hi); (try clear ho0)) | ((with_reducible refine gate_dst (N := 16) rfl ?_); (try (refine gate_guard (by rfl) ?_; dsimp only)); refine box_event ?hg (N := 16) ?hd (cs := #[.int .i64 0, .int .i64 0, .int .i64 0]) (t := 32) ?hr ?_; (case hd => rfl); (case hg => rfl); (case hr => first | (go_simp; done) | (go_simp; rfl)); intro gb856 hg w128 hbox hb; have n0_ := G.a (Kd.R_below (Kd.R_elderB (G.kR HO_5.out) gb856 (Nat.le_of_eq hg.symm)) hb); have n1_ := G.a (Kd.R_below (G.kR HO_9.out) hb); have n2_ := G.a (Kd.R_below (G.kR HO845.out) hb); have n3_ := G.a (Kd.R_below (G.kR HO852.out) hb); have n4_ := G.a (blk_below (g := gb849) (o := .cells #[.int .i64 t846, .int .i64 t847, .int .i64 t848] 32 (0, 0)) (G.kB BK849.out) hb); have n5_ := G.a (below_step (G.bes GE849.out) hb); have n6_ := G.a (hbox); have n7_ := G.a ((by rw [hg]; exact (below_size (G.bes GE849.out)) : w.heap.size ≤ gb856)); have n8_ := G.a ((by rw [hg]; exact (below_size (G.bes GE849.out)) : w.heap.size ≤ gb856)); have n9_ := G.a ((by rw [hg]; exact Nat.ne_of_lt (blk_lt (g := gb849) (o := .cells #[.int .i64 t846, .int .i64 t847, .int .i64 t848] 32 (0, 0)) (G.kB BK849.out)) : gb849 ≠ gb856)); have n10_ := G.a ((by rw [hg]; exact Nat.ne_of_gt (blk_lt (g := gb849) (o := .cells #[.int .i64 t846, .int .i64 t847, .int .i64 t848] 32 (0, 0)) (G.kB BK849.out)) : gb856 ≠ gb849)); clear HO_5; clear HO_9; clear HO845; clear HO852; clear BK849; clear HB; have HO_5 := n0_; have HO_9 := n1_; have HO845 := n2_; have HO852 := n3_; have BK849 := n4_; have HB := n5_; have BK856 := n6_; have GW856 := n7_; have GE856 := n8_; have NB849_856 := n9_; have NB856_849 := n10_; clear n0_ n1_ n2_ n3_ n4_ n5_ n6_ n7_ n8_ n9_ n10_; clear hb hbox hg; have hnb129 := NB856_849.out; have hnc129 := NB849_856.out; have hcz130_0 : w128.cell? ⟨gb856, 0, none⟩ = some (.int .i64 0) := (blk_cell BK856.out 0).trans rfl; have hcz130_1 : w128.cell? ⟨gb856, 1, none⟩ = some (.int .i64 0) := (blk_cell BK856.out 1).trans rfl; have hcz130_2 : w128.cell? ⟨gb856, 2, none⟩ = some (.int .i64 0) := (blk_cell BK856.out 2).trans rfl; have hfz130_0 := blk_frozen BK856.out 0; have hfz130_1 := blk_frozen BK856.out 1; have hfz130_2 := blk_frozen BK856.out 2))
           obtain ⟨k3, H⟩ := G.draw_out H (t850, t853, t854, t855) A111.out
           replace H : ((impl_RootOfRun.f k3 t850 t853 t854 t855).bind fun bt857 => ((spec_RootOfRun.f k3 t850 t853 t854 t855).bind fun bt861 => (G.draw spec_DrawSquaresInRun.Ok fun k3 bt865 => ((impl_IsRun.f k3 t843 t846 t847 t848).bind fun t869 => ((spec_IsRun.f k3 t843 t846 t847 t848).bind fun t870 => (if (t869 == t870) = true then (if (bt857.2 == bt861.2) = true then ((laws_sameInts.f k3 bt857.1 bt861.1).bind fun t871 => (if t871 = true then ((impl_SquaresInRun.f bt865.1 bt865.2.1 bt865.2.2).bind fun t872 => ((spec_SquaresInRun.f bt865.1 bt865.2.1 bt865.2.2).bind fun t873 => (some (t872 == t873)))) else (some false))) else (some false)) else (some false))))))) = some r := H
           obtain ⟨⟨t857, t860⟩, A112, H⟩ := G.bx H
           replace H : ((spec_RootOfRun.f k3 t850 t853 t854 t855).bind fun bt861 => (G.draw spec_DrawSquaresInRun.Ok fun k3 bt865 => ((impl_IsRun.f k3 t843 t846 t847 t848).bind fun t869 => ((spec_IsRun.f k3 t843 t846 t847 t848).bind fun t870 => (if (t869 == t870) = true then (if (t860 == bt861.2) = true then ((laws_sameInts.f k3 t857 bt861.1).bind fun t871 => (if t871 = true then ((impl_SquaresInRun.f bt865.1 bt865.2.1 bt865.2.2).bind fun t872 => ((spec_SquaresInRun.f bt865.1 bt865.2.1 bt865.2.2).bind fun t873 => (some (t872 == t873)))) else (some false))) else (some false)) else (some false)))))) = some r := H
           obtain ⟨⟨t861, t864⟩, A113, H⟩ := G.bx H
           replace H : (G.draw spec_DrawSquaresInRun.Ok fun k3 bt865 => ((impl_IsRun.f k3 t843 t846 t847 t848).bind fun t869 => ((spec_IsRun.f k3 t843 t846 t847 t848).bind fun t870 => (if (t869 == t870) = true then (if (t860 == t864) = true then ((laws_sameInts.f k3 t857 t861).bind fun t871 => (if t871 = true then ((impl_SquaresInRun.f bt865.1 bt865.2.1 bt865.2.2).bind fun t872 => ((spec_SquaresInRun.f bt865.1 bt865.2.1 bt865.2.2).bind fun t873 => (some (t872 == t873)))) else (some false))) else (some false)) else (some false))))) = some r := H
           obtain ⟨Ao131, co131, eo131⟩ := Kd.R_slice HO852.out
           (first | subst eo131 | cases eo131)
           go_upto_region 30 with (first | ((with_reducible refine gate_callee (f := 11) rfl ?_); refine goesL_ (some 187) rfl rfl Tryz.func11 (by kernel_rfl) rfl #[.slice Ao131 t850.length co131, .agg #[.int .i64 t853, .int .i64 t854, .int .i64 t855]] rfl G.ar ?_; (with_reducible refine (impl_RootOfRun.calls k3 _ _ t850 t853 t854 t855 t857 t860 _ ?side1 ?side2 A112.out).mono ?_); (case side1 => refine (Kd.R_reads' (e := 3) (base := w.heap.size) (ok := fun k_ => (True ∧ some k_ ≠ (v844 : Value).ownBlock)) (n := t850.length) (c := co131) ?_).2.2; exact (by (with_reducible repeat (first | apply Kd.R_alloc | apply Kd.R_drewN | apply Kd.R_drew)); exact (Kd.R_mono (Kd.R_far (p := ⟨gb856, 2, none⟩) (Kd.R_far (p := ⟨gb856, 1, none⟩) (Kd.R_far (p := ⟨gb856, 0, none⟩) (Kd.R_types HO852.out BK856.out (by decide)) (fun _ hk => hk.2) (.int .i64 t853)) (fun _ hk => hk.2) (.int .i64 t854)) (fun _ hk => hk.2) (.int .i64 t855)) (fun _ h_ => h_.1)))); (case side2 => exact (Kd.R_reads' HO852.out).2.1); rintro e w132 ⟨v858, rfl, ho0, hb⟩; refine ⟨_, rfl, ?_⟩; have n0_ := G.a (Kd.R_below (by (with_reducible repeat (first | apply Kd.R_alloc | apply Kd.R_drewN | apply Kd.R_drew)); exact (Kd.R_mono (Kd.R_far (p := ⟨gb856, 2, none⟩) (Kd.R_far (p := ⟨gb856, 1, none⟩) (Kd.R_far (p := ⟨gb856, 0, none⟩) (Kd.R_mono HO_5.out (fun k_ hk => (⟨hk, hk.2⟩ : _ ∧ k_ ≠ gb856))) (fun _ hk => hk.2) (.int .i64 t853)) (fun _ hk => hk.2) (.int .i64 t854)) (fun _ hk => hk.2) (.int .i64 t855)) (fun _ h_ => h_.1))) hb); have n1_ := G.a (Kd.R_below (by (with_reducible repeat (first | apply Kd.R_alloc | apply Kd.R_drewN | apply Kd.R_drew)); exact (Kd.R_mono (Kd.R_far (p := ⟨gb856, 2, none⟩) (Kd.R_far (p := ⟨gb856, 1, none⟩) (Kd.R_far (p := ⟨gb856, 0, none⟩) (Kd.R_types HO_9.out BK856.out (by decide)) (fun _ hk => hk.2) (.int .i64 t853)) (fun _ hk => hk.2) (.int .i64 t854)) (fun _ hk => hk.2) (.int .i64 t855)) (fun _ h_ => h_.1))) hb); have n2_ := G.a (Kd.R_elder' (by (with_reducible repeat (first | apply Kd.R_alloc | apply Kd.R_drewN | apply Kd.R_drew)); exact (Kd.R_mono (Kd.R_far (p := ⟨gb856, 2, none⟩) (Kd.R_far (p := ⟨gb856, 1, none⟩) (Kd.R_far (p := ⟨gb856, 0, none⟩) (Kd.R_types HO845.out BK856.out (by decide)) (fun _ hk => hk.2) (.int .i64 t853)) (fun _ hk => hk.2) (.int .i64 t854)) (fun _ hk => hk.2) (.int .i64 t855)) (fun _ h_ => h_.1))) (Kd.R_base ho0) hb); have n3_ := G.a (Kd.R_elder' (by (with_reducible repeat (first | apply Kd.R_alloc | apply Kd.R_drewN | apply Kd.R_drew)); exact (Kd.R_mono (Kd.R_far (p := ⟨gb856, 2, none⟩) (Kd.R_far (p := ⟨gb856, 1, none⟩) (Kd.R_far (p := ⟨gb856, 0, none⟩) (Kd.R_types HO852.out BK856.out (by decide)) (fun _ hk => hk.2) (.int .i64 t853)) (fun _ hk => hk.2) (.int .i64 t854)) (fun _ hk => hk.2) (.int .i64 t855)) (fun _ h_ => h_.1))) (Kd.R_base ho0) hb); have n4_ := G.a (Kd.R_lower (Kd.R_new' (Kd.R_new' ho0 (Kd.R_lt (by (with_reducible repeat (first | apply Kd.R_alloc | apply Kd.R_drewN | apply Kd.R_drew)); exact (Kd.R_mono (Kd.R_far (p := ⟨gb856, 2, none⟩) (Kd.R_far (p := ⟨gb856, 1, none⟩) (Kd.R_far (p := ⟨gb856, 0, none⟩) (Kd.R_types HO845.out BK856.out (by decide)) (fun _ hk => hk.2) (.int .i64 t853)) (fun _ hk => hk.2) (.int .i64 t854)) (fun _ hk => hk.2) (.int .i64 t855)) (fun _ h_ => h_.1))))) (Kd.R_lt (by (with_reducible repeat (first | apply Kd.R_alloc | apply Kd.R_drewN | apply Kd.R_drew)); exact (Kd.R_mono (Kd.R_far (p := ⟨gb856, 2, none⟩) (Kd.R_far (p := ⟨gb856, 1, none⟩) (Kd.R_far (p := ⟨gb856, 0, none⟩) (Kd.R_types HO852.out BK856.out (by decide)) (fun _ hk => hk.2) (.int .i64 t853)) (fun _ hk => hk.2) (.int .i64 t854)) (fun _ hk => hk.2) (.int .i64 t855)) (fun _ h_ => h_.1))))) (below_size (by repeat (first | (with_reducible first | exact HB.out | apply below_alloc | apply pw_below_drewN | apply below_drew1 | refine below_set ?_ GE849.out | refine below_set ?_ GE856.out) | exact HB.out)))); have n5_ := G.a (blk_below (g := gb849) (o := .cells #[.int .i64 t846, .int .i64 t847, .int .i64 t848] 32 (0, 0)) (by (with_reducible repeat (first | refine blk_drewN ?_ _ | refine blk_drew ?_ | refine blk_alloc ?_ _)); refine blk_far ?_ NB849_856.out _; (with_reducible repeat (first | refine blk_drewN ?_ _ | refine blk_drew ?_ | refine blk_alloc ?_ _)); refine blk_far ?_ NB849_856.out _; (with_reducible repeat (first | refine blk_drewN ?_ _ | refine blk_drew ?_ | refine blk_alloc ?_ _)); refine blk_far ?_ NB849_856.out _; (with_reducible repeat (first | refine blk_drewN ?_ _ | refine blk_drew ?_ | refine blk_alloc ?_ _)); exact BK849.out) hb); have n6_ := G.a (blk_below (g := gb856) (o := .cells #[.int .i64 t853, .int .i64 t854, .int .i64 t855] 32 (0, 0)) (by (with_reducible repeat (first | refine blk_drewN ?_ _ | refine blk_drew ?_ | refine blk_alloc ?_ _)); refine blk_put (cs := #[.int .i64 t853, .int .i64 t854, .int .i64 0]) ?_ 2 _ rfl; (with_reducible repeat (first | refine blk_drewN ?_ _ | refine blk_drew ?_ | refine blk_alloc ?_ _)); refine blk_put (cs := #[.int .i64 t853, .int .i64 0, .int .i64 0]) ?_ 1 _ rfl; (with_reducible repeat (first | refine blk_drewN ?_ _ | refine blk_drew ?_ | refine blk_alloc ?_ _)); refine blk_put (cs := #[.int .i64 0, .int .i64 0, .int .i64 0]) ?_ 0 _ rfl; (with_reducible repeat (first | refine blk_drewN ?_ _ | refine blk_drew ?_ | refine blk_alloc ?_ _)); exact BK856.out) hb); have n7_ := G.a (below_step (by repeat (first | (with_reducible first | exact HB.out | apply below_alloc | apply pw_below_drewN | apply below_drew1 | refine below_set ?_ GE849.out | refine below_set ?_ GE856.out) | exact HB.out)) hb); clear HO_5; clear HO_9; clear HO845; clear HO852; clear BK849; clear BK856; clear HB; have HO_5 := n0_; have HO_9 := n1_; have HO845 := n2_; have HO852 := n3_; have HO859 := n4_; have BK849 := n5_; have BK856 := n6_; have HB := n7_; clear n0_ n1_ n2_ n3_ n4_ n5_ n6_ n7_; (try clear hb); (try clear hb2); (try clear hk); (try clear hi); (try clear ho0); have hcz133_0 : w132.cell? ⟨gb856, 0, none⟩ = some (.int .i64 t853) := (blk_cell BK856.out 0).trans rfl; have hcz133_1 : w132.cell? ⟨gb856, 1, none⟩ = some (.int .i64 t854) := (blk_cell BK856.out 1).trans rfl; have hcz133_2 : w132.cell? ⟨gb856, 2, none⟩ = some (.int .i64 t855) := (blk_cell BK856.out 2).trans rfl; have hfz133_0 := blk_frozen BK856.out 0; have hfz133_1 := blk_frozen BK856.out 1; have hfz133_2 := blk_frozen BK856.out 2) | ((with_reducible refine gate_callee (f := 18) rfl ?_); refine goesL_ (some 193) rfl rfl Tryz.func18 (by kernel_rfl) rfl #[.slice Ao131 t850.length co131, .agg #[.int .i64 t853, .int .i64 t854, .int .i64 t855]] rfl G.ar ?_; (with_reducible refine (spec_RootOfRun.calls k3 _ _ t850 t853 t854 t855 t861 t864 _ ?side1 ?side2 A113.out).mono ?_); (case side1 => repeat (first | exact (Kd.R_reads' HO852.out).2.2 | (with_reducible refine Kd.C_alloc ?_ _) | (with_reducible refine Kd.C_drewN ?_ _) | (with_reducible refine Kd.C_drew ?_))); (case side2 => exact (Kd.R_reads' HO852.out).2.1); rintro e w134 ⟨v862, rfl, ho0, hb⟩; refine ⟨_, rfl, ?_⟩; have n0_ := G.a (Kd.R_below (G.kR HO_5.out) hb); have n1_ := G.a (Kd.R_below (G.kR HO_9.out) hb); have n2_ := G.a (Kd.R_below (G.kR HO845.out) hb); have n3_ := G.a (Kd.R_below (G.kR HO852.out) hb); have n4_ := G.a (Kd.R_below (G.kR HO859.out) hb); have n5_ := G.a (Kd.V_lower (Kd.V_mono (ok' := fun k_ => some k_ ≠ (v816 : Value).ownBlock ∧ some k_ ≠ (.slice Ao123 t833.length co123 : Value).ownBlock ∧ some k_ ≠ (v844 : Value).ownBlock ∧ some k_ ≠ (.slice Ao131 t850.length co131 : Value).ownBlock ∧ some k_ ≠ (v858 : Value).ownBlock ∧ k_ ≠ gb849 ∧ k_ ≠ gb856) ho0 (fun k_ hk_ => ⟨(Kd.fresh' (Kd.R_lt (G.kR HO_5.out)) k_ hk_), (Kd.fresh' (Kd.R_lt (G.kR HO_9.out)) k_ hk_), (Kd.fresh' (Kd.R_lt (G.kR HO845.out)) k_ hk_), (Kd.fresh' (Kd.R_lt (G.kR HO852.out)) k_ hk_), (Kd.fresh' (Kd.R_lt (G.kR HO859.out)) k_ hk_), (Kd.freshB (g := gb849) (o := .cells #[.int .i64 t846, .int .i64 t847, .int .i64 t848] 32 (0, 0)) (G.kB BK849.out) k_ hk_), (Kd.freshB (g := gb856) (o := .cells #[.int .i64 t853, .int .i64 t854, .int .i64 t855] 32 (0, 0)) (G.kB BK856.out) k_ hk_)⟩)) (below_size (by repeat (first | (with_reducible first | exact HB.out | apply below_alloc | apply pw_below_drewN | apply below_drew1 | refine below_set ?_ GE849.out | refine below_set ?_ GE856.out) | exact HB.out)))); have n6_ := G.a (blk_below (g := gb849) (o := .cells #[.int .i64 t846, .int .i64 t847, .int .i64 t848] 32 (0, 0)) (G.kB BK849.out) hb); have n7_ := G.a (blk_below (g := gb856) (o := .cells #[.int .i64 t853, .int .i64 t854, .int .i64 t855] 32 (0, 0)) (G.kB BK856.out) hb); have n8_ := G.a (below_step (by repeat (first | (with_reducible first | exact HB.out | apply below_alloc | apply pw_below_drewN | apply below_drew1 | refine below_set ?_ GE849.out | refine below_set ?_ GE856.out) | exact HB.out)) hb); clear HO_5; clear HO_9; clear HO845; clear HO852; clear HO859; clear BK849; clear BK856; clear HB; have HO_5 := n0_; have HO_9 := n1_; have HO845 := n2_; have HO852 := n3_; have HO859 := n4_; have HO863 := n5_; have BK849 := n6_; have BK856 := n7_; have HB := n8_; clear n0_ n1_ n2_ n3_ n4_ n5_ n6_ n7_ n8_; (try clear hb); (try clear hb2); (try clear hk); (try clear hi); (try clear ho0)) | ((with_reducible refine gate_callee (f := 19) rfl ?_); refine goesL_ (some 197) rfl rfl Tryz.func19 (by kernel_rfl) rfl #[.slice A0 l0.length c0] rfl G.ar ?_; (with_reducible refine (spec_DrawSquaresInRun.any _ _ l0 _ ?side1 ?side2 ?side3 HRNok_.out).mono ?_); (case side3 => exact HBIG_.out); (case side1 => exact G.kC (Kd.C_below HR0.out HB.out)); (case side2 => exact HC0.out); rintro e w135 ⟨t865, t866, t867, hw_, rfl, hb⟩; have A114 := G.a hw_; clear hw_; refine ⟨_, rfl, ?_⟩; have n0_ := G.a (Kd.R_below (G.kR HO_5.out) hb); have n1_ := G.a (Kd.R_below (G.kR HO_9.out) hb); have n2_ := G.a (Kd.R_below (G.kR HO845.out) hb); have n3_ := G.a (Kd.R_below (G.kR HO852.out) hb); have n4_ := G.a (Kd.R_below (G.kR HO859.out) hb); have n5_ := G.a (Kd.V_below (G.kV HO863.out) hb); have n6_ := G.a (blk_below (g := gb849) (o := .cells #[.int .i64 t846, .int .i64 t847, .int .i64 t848] 32 (0, 0)) (G.kB BK849.out) hb); have n7_ := G.a (blk_below (g := gb856) (o := .cells #[.int .i64 t853, .int .i64 t854, .int .i64 t855] 32 (0, 0)) (G.kB BK856.out) hb); have n8_ := G.a (below_step (by repeat (first | (with_reducible first | exact HB.out | apply below_alloc | apply pw_below_drewN | apply below_drew1 | refine below_set ?_ GE849.out | refine below_set ?_ GE856.out) | exact HB.out)) hb); clear HO_5; clear HO_9; clear HO845; clear HO852; clear HO859; clear HO863; clear BK849; clear BK856; clear HB; have HO_5 := n0_; have HO_9 := n1_; have HO845 := n2_; have HO852 := n3_; have HO859 := n4_; have HO863 := n5_; have BK849 := n6_; have BK856 := n7_; have HB := n8_; clear n0_ n1_ n2_ n3_ n4_ n5_ n6_ n7_ n8_; (try clear hb); (try clear hb2); (try clear hk); (try clear hi)) | ((with_reducible refine gate_dst (N := 21) rfl ?_); (try (refine gate_guard (by rfl) ?_; dsimp only)); refine box_event ?hg (N := 21) ?hd (cs := #[.int .i64 0, .int .i64 0, .int .i64 0]) (t := 32) ?hr ?_; (case hd => rfl); (case hg => rfl); (case hr => first | (go_simp; done) | (go_simp; rfl)); intro gb868 hg w136 hbox hb; have n0_ := G.a (Kd.R_below (Kd.R_elderB (G.kR HO_5.out) gb868 (Nat.le_of_eq hg.symm)) hb); have n1_ := G.a (Kd.R_below (G.kR HO_9.out) hb); have n2_ := G.a (Kd.R_below (G.kR HO845.out) hb); have n3_ := G.a (Kd.R_below (G.kR HO852.out) hb); have n4_ := G.a (Kd.R_below (G.kR HO859.out) hb); have n5_ := G.a (Kd.V_below (Kd.V_elderB (G.kV HO863.out) gb868 (Nat.le_of_eq hg.symm)) hb); have n6_ := G.a (blk_below (g := gb849) (o := .cells #[.int .i64 t846, .int .i64 t847, .int .i64 t848] 32 (0, 0)) (G.kB BK849.out) hb); have n7_ := G.a (blk_below (g := gb856) (o := .cells #[.int .i64 t853, .int .i64 t854, .int .i64 t855] 32 (0, 0)) (G.kB BK856.out) hb); have n8_ := G.a (below_step (by repeat (first | (with_reducible first | exact HB.out | apply below_alloc | apply pw_below_drewN | apply below_drew1 | refine below_set ?_ GE849.out | refine below_set ?_ GE856.out) | exact HB.out)) hb); have n9_ := G.a (hbox); have n10_ := G.a ((by rw [hg]; exact (below_size (by repeat (first | (with_reducible first | exact HB.out | apply below_alloc | apply pw_below_drewN | apply below_drew1 | refine below_set ?_ GE849.out | refine below_set ?_ GE856.out) | exact HB.out))) : w.heap.size ≤ gb868)); have n11_ := G.a ((by rw [hg]; exact (below_size (by repeat (first | (with_reducible first | exact HB.out | apply below_alloc | apply pw_below_drewN | apply below_drew1 | refine below_set ?_ GE849.out | refine below_set ?_ GE856.out) | exact HB.out))) : w.heap.size ≤ gb868)); have n12_ := G.a ((by rw [hg]; exact Nat.ne_of_lt (blk_lt (g := gb849) (o := .cells #[.int .i64 t846, .int .i64 t847, .int .i64 t848] 32 (0, 0)) (G.kB BK849.out)) : gb849 ≠ gb868)); have n13_ := G.a ((by rw [hg]; exact Nat.ne_of_gt (blk_lt (g := gb849) (o := .cells #[.int .i64 t846, .int .i64 t847, .int .i64 t848] 32 (0, 0)) (G.kB BK849.out)) : gb868 ≠ gb849)); have n14_ := G.a ((by rw [hg]; exact Nat.ne_of_lt (blk_lt (g := gb856) (o := .cells #[.int .i64 t853, .int .i64 t854, .int .i64 t855] 32 (0, 0)) (G.kB BK856.out)) : gb856 ≠ gb868)); have n15_ := G.a ((by rw [hg]; exact Nat.ne_of_gt (blk_lt (g := gb856) (o := .cells #[.int .i64 t853, .int .i64 t854, .int .i64 t855] 32 (0, 0)) (G.kB BK856.out)) : gb868 ≠ gb856)); clear HO_5; clear HO_9; clear HO845; clear HO852; clear HO859; clear HO863; clear BK849; clear BK856; clear HB; have HO_5 := n0_; have HO_9 := n1_; have HO845 := n2_; have HO852 := n3_; have HO859 := n4_; have HO863 := n5_; have BK849 := n6_; have BK856 := n7_; have HB := n8_; have BK868 := n9_; have GW868 := n10_; have GE868 := n11_; have NB849_868 := n12_; have NB868_849 := n13_; have NB856_868 := n14_; have NB868_856 := n15_; clear n0_ n1_ n2_ n3_ n4_ n5_ n6_ n7_ n8_ n9_ n10_ n11_ n12_ n13_ n14_ n15_; clear hb hbox hg; have hnb137 := NB868_849.out; have hnc137 := NB849_868.out; have hnb138 := NB868_856.out; have hnc138 := NB856_868.out; have hcz139_0 : w136.cell? ⟨gb868, 0, none⟩ = some (.int .i64 0) := (blk_cell BK868.out 0).trans rfl; have hcz139_1 : w136.cell? ⟨gb868, 1, none⟩ = some (.int .i64 0) := (blk_cell BK868.out 1).trans rfl; have hcz139_2 : w136.cell? ⟨gb868, 2, none⟩ = some (.int .i64 0) := (blk_cell BK868.out 2).trans rfl; have hfz139_0 := blk_frozen BK868.out 0; have hfz139_1 := blk_frozen BK868.out 1; have hfz139_2 := blk_frozen BK868.out 2))
           obtain ⟨k3, H⟩ := G.draw_out H (t865, t866, t867) A114.out
           replace H : ((impl_IsRun.f k3 t843 t846 t847 t848).bind fun t869 => ((spec_IsRun.f k3 t843 t846 t847 t848).bind fun t870 => (if (t869 == t870) = true then (if (t860 == t864) = true then ((laws_sameInts.f k3 t857 t861).bind fun t871 => (if t871 = true then ((impl_SquaresInRun.f t865 t866 t867).bind fun t872 => ((spec_SquaresInRun.f t865 t866 t867).bind fun t873 => (some (t872 == t873)))) else (some false))) else (some false)) else (some false)))) = some r := H
           obtain ⟨t869, A115, H⟩ := G.bx H
           obtain ⟨t870, A116, H⟩ := G.bx H
           by_cases c117 : (t869 == t870) = true
           ·rw [if_pos c117] at H
            have c117b0 : (t869 == t870) = true := c117
            have et_ : t869 = t870 := by simpa using c117
            have Hn_ := H; subst et_; have H := Hn_; clear Hn_
            (try (have c117b1 : decide (t869 = t869) = true := by simpa using c117))
            (try (have c117b2 : (t869 == t869) = true := by simpa using c117))
            clear c117
            by_cases c118 : (t860 == t864) = true
            ·rw [if_pos c118] at H
             have c118b0 : (t860 == t864) = true := c118
             have et_ : t860 = t864 := by simpa using c118
             have Hn_ := H; subst et_; have H := Hn_; clear Hn_
             (try (have c118b1 : decide (t860 = t860) = true := by simpa using c118))
             (try (have c118b2 : (t860 == t860) = true := by simpa using c118))
             clear c118
             obtain ⟨t871, A119, H⟩ := G.bx H
             by_cases c120 : t871 = true
             ·subst c120
              rw [if_pos rfl] at H
              obtain ⟨t872, A121, H⟩ := G.bx H
              obtain ⟨t873, A122, H⟩ := G.bx H
              obtain rfl := Option.some.inj H
              skip
              skip
              try go_wp2_with (fail)
              have n0_ : Aside0 (Kd.R k32 32 (((w136.setCell ⟨gb868, 0, none⟩ (.int .i64 t865)).setCell ⟨gb868, 1, none⟩ (.int .i64 t866)).setCell ⟨gb868, 2, none⟩ (.int .i64 t867)) w.heap.size (fun k_ => k_ ≠ gb849 ∧ k_ ≠ gb856 ∧ k_ ≠ gb868) v816 t815) := ⟨by (with_reducible repeat (first | apply Kd.R_alloc | apply Kd.R_drewN | apply Kd.R_drew)); exact Kd.R_mono (Kd.R_far (p := ⟨gb868, 2, none⟩) (Kd.R_far (p := ⟨gb868, 1, none⟩) (Kd.R_far (p := ⟨gb868, 0, none⟩) (Kd.R_mono HO_5.out (fun k_ hk => (⟨hk, hk.2⟩ : _ ∧ k_ ≠ gb868))) (fun _ hk => hk.2) (.int .i64 t865)) (fun _ hk => hk.2) (.int .i64 t866)) (fun _ hk => hk.2) (.int .i64 t867)) (fun _ hk => ⟨hk.1.1.1.2, ⟨hk.1.1.2, hk.1.2⟩⟩)⟩
              have n1_ : Aside0 (Kd.R k39 39 (((w136.setCell ⟨gb868, 0, none⟩ (.int .i64 t865)).setCell ⟨gb868, 1, none⟩ (.int .i64 t866)).setCell ⟨gb868, 2, none⟩ (.int .i64 t867)) w.heap.size (fun _ => True) (.slice Ao123 t833.length co123) t833) := ⟨by (with_reducible repeat (first | apply Kd.R_alloc | apply Kd.R_drewN | apply Kd.R_drew)); exact Kd.R_mono (Kd.R_far (p := ⟨gb868, 2, none⟩) (Kd.R_far (p := ⟨gb868, 1, none⟩) (Kd.R_far (p := ⟨gb868, 0, none⟩) (Kd.R_types HO_9.out BK868.out (by decide)) (fun _ hk => hk.2) (.int .i64 t865)) (fun _ hk => hk.2) (.int .i64 t866)) (fun _ hk => hk.2) (.int .i64 t867)) (fun _ hk => trivial)⟩
              have n2_ : Aside0 (Kd.R (Kd.int .i64) 3 (((w136.setCell ⟨gb868, 0, none⟩ (.int .i64 t865)).setCell ⟨gb868, 1, none⟩ (.int .i64 t866)).setCell ⟨gb868, 2, none⟩ (.int .i64 t867)) w.heap.size (fun k_ => some k_ ≠ (.slice Ao131 t850.length co131 : Value).ownBlock ∧ some k_ ≠ (v858 : Value).ownBlock) v844 t843) := ⟨by (with_reducible repeat (first | apply Kd.R_alloc | apply Kd.R_drewN | apply Kd.R_drew)); exact Kd.R_mono (Kd.R_far (p := ⟨gb868, 2, none⟩) (Kd.R_far (p := ⟨gb868, 1, none⟩) (Kd.R_far (p := ⟨gb868, 0, none⟩) (Kd.R_types HO845.out BK868.out (by decide)) (fun _ hk => hk.2) (.int .i64 t865)) (fun _ hk => hk.2) (.int .i64 t866)) (fun _ hk => hk.2) (.int .i64 t867)) (fun _ hk => ⟨hk.1.1.2, hk.1.2⟩)⟩
              have n3_ : Aside0 (Kd.R (Kd.int .i64) 3 (((w136.setCell ⟨gb868, 0, none⟩ (.int .i64 t865)).setCell ⟨gb868, 1, none⟩ (.int .i64 t866)).setCell ⟨gb868, 2, none⟩ (.int .i64 t867)) w.heap.size (fun k_ => some k_ ≠ (v844 : Value).ownBlock ∧ some k_ ≠ (v858 : Value).ownBlock) (.slice Ao131 t850.length co131) t850) := ⟨by (with_reducible repeat (first | apply Kd.R_alloc | apply Kd.R_drewN | apply Kd.R_drew)); exact Kd.R_mono (Kd.R_far (p := ⟨gb868, 2, none⟩) (Kd.R_far (p := ⟨gb868, 1, none⟩) (Kd.R_far (p := ⟨gb868, 0, none⟩) (Kd.R_types HO852.out BK868.out (by decide)) (fun _ hk => hk.2) (.int .i64 t865)) (fun _ hk => hk.2) (.int .i64 t866)) (fun _ hk => hk.2) (.int .i64 t867)) (fun _ hk => ⟨hk.1.1.2, hk.1.2⟩)⟩
              have n4_ : Aside0 (Kd.R (Kd.int .i64) 3 (((w136.setCell ⟨gb868, 0, none⟩ (.int .i64 t865)).setCell ⟨gb868, 1, none⟩ (.int .i64 t866)).setCell ⟨gb868, 2, none⟩ (.int .i64 t867)) w.heap.size (fun k_ => some k_ ≠ (v844 : Value).ownBlock ∧ some k_ ≠ (.slice Ao131 t850.length co131 : Value).ownBlock) v858 t857) := ⟨by (with_reducible repeat (first | apply Kd.R_alloc | apply Kd.R_drewN | apply Kd.R_drew)); exact Kd.R_mono (Kd.R_far (p := ⟨gb868, 2, none⟩) (Kd.R_far (p := ⟨gb868, 1, none⟩) (Kd.R_far (p := ⟨gb868, 0, none⟩) (Kd.R_types HO859.out BK868.out (by decide)) (fun _ hk => hk.2) (.int .i64 t865)) (fun _ hk => hk.2) (.int .i64 t866)) (fun _ hk => hk.2) (.int .i64 t867)) (fun _ hk => ⟨hk.1.1.2, hk.1.2⟩)⟩
              have n5_ : Aside0 (Kd.V (Kd.int .i64) 3 (((w136.setCell ⟨gb868, 0, none⟩ (.int .i64 t865)).setCell ⟨gb868, 1, none⟩ (.int .i64 t866)).setCell ⟨gb868, 2, none⟩ (.int .i64 t867)) w.heap.size (fun k_ => some k_ ≠ (v816 : Value).ownBlock ∧ some k_ ≠ (.slice Ao123 t833.length co123 : Value).ownBlock ∧ some k_ ≠ (v844 : Value).ownBlock ∧ some k_ ≠ (.slice Ao131 t850.length co131 : Value).ownBlock ∧ some k_ ≠ (v858 : Value).ownBlock ∧ k_ ≠ gb849 ∧ k_ ≠ gb856 ∧ k_ ≠ gb868) v862 t861) := ⟨by (with_reducible repeat (first | apply Kd.V_alloc | apply Kd.V_drewN | apply Kd.V_drew)); exact Kd.V_mono (Kd.V_far (p := ⟨gb868, 2, none⟩) (Kd.V_far (p := ⟨gb868, 1, none⟩) (Kd.V_far (p := ⟨gb868, 0, none⟩) (Kd.V_mono HO863.out (fun k_ hk => (⟨hk, hk.2⟩ : _ ∧ k_ ≠ gb868))) (fun _ hk => hk.2) (.int .i64 t865)) (fun _ hk => hk.2) (.int .i64 t866)) (fun _ hk => hk.2) (.int .i64 t867)) (fun _ hk => ⟨hk.1.1.1, ⟨hk.1.1.2.1, ⟨hk.1.1.2.2.1, ⟨hk.1.1.2.2.2.1, ⟨hk.1.1.2.2.2.2.1, ⟨hk.1.1.2.2.2.2.2.1, ⟨hk.1.1.2.2.2.2.2.2, hk.1.2⟩⟩⟩⟩⟩⟩⟩)⟩
              have n6_ : Aside0 ((((w136.setCell ⟨gb868, 0, none⟩ (.int .i64 t865)).setCell ⟨gb868, 1, none⟩ (.int .i64 t866)).setCell ⟨gb868, 2, none⟩ (.int .i64 t867)).heap[gb849]? = some (.cells #[.int .i64 t846, .int .i64 t847, .int .i64 t848] 32 (0, 0))) := ⟨by (with_reducible repeat (first | refine blk_drewN ?_ _ | refine blk_drew ?_ | refine blk_alloc ?_ _)); refine blk_far ?_ NB849_868.out _; (with_reducible repeat (first | refine blk_drewN ?_ _ | refine blk_drew ?_ | refine blk_alloc ?_ _)); refine blk_far ?_ NB849_868.out _; (with_reducible repeat (first | refine blk_drewN ?_ _ | refine blk_drew ?_ | refine blk_alloc ?_ _)); refine blk_far ?_ NB849_868.out _; (with_reducible repeat (first | refine blk_drewN ?_ _ | refine blk_drew ?_ | refine blk_alloc ?_ _)); exact BK849.out⟩
              have n7_ : Aside0 ((((w136.setCell ⟨gb868, 0, none⟩ (.int .i64 t865)).setCell ⟨gb868, 1, none⟩ (.int .i64 t866)).setCell ⟨gb868, 2, none⟩ (.int .i64 t867)).heap[gb856]? = some (.cells #[.int .i64 t853, .int .i64 t854, .int .i64 t855] 32 (0, 0))) := ⟨by (with_reducible repeat (first | refine blk_drewN ?_ _ | refine blk_drew ?_ | refine blk_alloc ?_ _)); refine blk_far ?_ NB856_868.out _; (with_reducible repeat (first | refine blk_drewN ?_ _ | refine blk_drew ?_ | refine blk_alloc ?_ _)); refine blk_far ?_ NB856_868.out _; (with_reducible repeat (first | refine blk_drewN ?_ _ | refine blk_drew ?_ | refine blk_alloc ?_ _)); refine blk_far ?_ NB856_868.out _; (with_reducible repeat (first | refine blk_drewN ?_ _ | refine blk_drew ?_ | refine blk_alloc ?_ _)); exact BK856.out⟩
              have n8_ : Aside0 ((((w136.setCell ⟨gb868, 0, none⟩ (.int .i64 t865)).setCell ⟨gb868, 1, none⟩ (.int .i64 t866)).setCell ⟨gb868, 2, none⟩ (.int .i64 t867)).heap[gb868]? = some (.cells #[.int .i64 t865, .int .i64 t866, .int .i64 t867] 32 (0, 0))) := ⟨by (with_reducible repeat (first | refine blk_drewN ?_ _ | refine blk_drew ?_ | refine blk_alloc ?_ _)); refine blk_put (cs := #[.int .i64 t865, .int .i64 t866, .int .i64 0]) ?_ 2 _ rfl; (with_reducible repeat (first | refine blk_drewN ?_ _ | refine blk_drew ?_ | refine blk_alloc ?_ _)); refine blk_put (cs := #[.int .i64 t865, .int .i64 0, .int .i64 0]) ?_ 1 _ rfl; (with_reducible repeat (first | refine blk_drewN ?_ _ | refine blk_drew ?_ | refine blk_alloc ?_ _)); refine blk_put (cs := #[.int .i64 0, .int .i64 0, .int .i64 0]) ?_ 0 _ rfl; (with_reducible repeat (first | refine blk_drewN ?_ _ | refine blk_drew ?_ | refine blk_alloc ?_ _)); exact BK868.out⟩
              have n9_ : Aside0 (Below w.heap.size w (((w136.setCell ⟨gb868, 0, none⟩ (.int .i64 t865)).setCell ⟨gb868, 1, none⟩ (.int .i64 t866)).setCell ⟨gb868, 2, none⟩ (.int .i64 t867))) := ⟨by repeat (first | (with_reducible first | exact HB.out | apply below_alloc | apply pw_below_drewN | apply below_drew1 | refine below_set ?_ GE849.out | refine below_set ?_ GE856.out | refine below_set ?_ GE868.out) | exact HB.out)⟩
              (try clear HO_5)
              (try clear HO_9)
              (try clear HO845)
              (try clear HO852)
              (try clear HO859)
              (try clear HO863)
              (try clear BK849)
              (try clear BK856)
              (try clear BK868)
              (try clear HB)
              generalize (((w136.setCell ⟨gb868, 0, none⟩ (.int .i64 t865)).setCell ⟨gb868, 1, none⟩ (.int .i64 t866)).setCell ⟨gb868, 2, none⟩ (.int .i64 t867)) = w140 at n0_ n1_ n2_ n3_ n4_ n5_ n6_ n7_ n8_ n9_ ⊢
              have HO_5 := n0_
              have HO_9 := n1_
              have HO845 := n2_
              have HO852 := n3_
              have HO859 := n4_
              have HO863 := n5_
              have BK849 := n6_
              have BK856 := n7_
              have BK868 := n8_
              have HB := n9_
              clear n0_ n1_ n2_ n3_ n4_ n5_ n6_ n7_ n8_ n9_
              have n0_ := G.a (Kd.R_drew HO_5.out)
              have n1_ := G.a (Kd.R_drew HO_9.out)
              have n2_ := G.a (Kd.R_drew HO845.out)
              have n3_ := G.a (Kd.R_drew HO852.out)
              have n4_ := G.a (Kd.R_drew HO859.out)
              have n5_ := G.a (Kd.V_drew HO863.out)
              have n6_ := G.a (blk_drew BK849.out)
              have n7_ := G.a (blk_drew BK856.out)
              have n8_ := G.a (blk_drew BK868.out)
              have n9_ := G.a (below_drew1 HB.out)
              clear HO_5
              clear HO_9
              clear HO845
              clear HO852
              clear HO859
              clear HO863
              clear BK849
              clear BK856
              clear BK868
              clear HB
              have HO_5 := n0_
              have HO_9 := n1_
              have HO845 := n2_
              have HO852 := n3_
              have HO859 := n4_
              have HO863 := n5_
              have BK849 := n6_
              have BK856 := n7_
              have BK868 := n8_
              have HB := n9_
              clear n0_ n1_ n2_ n3_ n4_ n5_ n6_ n7_ n8_ n9_
              obtain ⟨Ao142, co142, eo142⟩ := Kd.R_slice HO845.out
              (first | subst eo142 | (injection eo142 with f1_ f2_ f3_; have f4_ := f1_.symm; have f5_ := f3_.symm; clear f1_ f2_ f3_; subst f4_; subst f5_))
              refine start_ (n := 25) (S := fun w' => w'.cell? ⟨gb849, 0, none⟩ = some (.int .i64 t846) ∧ w'.cell? ⟨gb849, 1, none⟩ = some (.int .i64 t847) ∧ w'.cell? ⟨gb849, 2, none⟩ = some (.int .i64 t848) ∧ w'.cell? ⟨gb868, 0, none⟩ = some (.int .i64 t865) ∧ w'.cell? ⟨gb868, 1, none⟩ = some (.int .i64 t866) ∧ w'.cell? ⟨gb868, 2, none⟩ = some (.int .i64 t867)) (ds := []) #[false, false, false, false, false, false, false, false, false, false, false, false, false, false, false, false, false, false, false, false, false, false, false, false, false] (by kernel_rfl) rfl rfl ⟨(blk_cell BK849.out 0).trans rfl, (blk_cell BK849.out 1).trans rfl, (blk_cell BK849.out 2).trans rfl, (blk_cell BK868.out 0).trans rfl, (blk_cell BK868.out 1).trans rfl, (blk_cell BK868.out 2).trans rfl⟩ (fun hHeld => ?_); refine with_tabW laws_FnRuns.tab30 laws_FnRuns.bits30 (fun HT_ HW_ => ?_)
              generalize w140.drew = w141 at HO_5 HO_9 HO845 HO852 HO859 HO863 BK849 BK856 BK868 HB hHeld ⊢
              refine G.pu 0 198 (G.bs 25 1) ?_
              refine G.pu 3 201 (G.bs 25 9) ?_
              refine G.tk 1 199 (G.bs 25 11) rfl (by rintro w' ⟨s0, s1, s2, s3, s4, s5⟩; go_simp; with_reducible rfl) ?_
              refine G.tk 4 202 (G.bs 25 27) rfl (by rintro w' ⟨s0, s1, s2, s3, s4, s5⟩; go_simp; with_reducible rfl) ?_
              refine one_ (i := 2) (N := some 200) (G.bs 25 31) rfl rfl (one_of HT_.out (by kernel_rfl)) (by decide) (fun K hK => ?_)
              refine goes_ Tryz.func12 (by kernel_rfl) rfl #[.slice Ao142 t843.length co142, .agg #[.int .i64 t846, .int .i64 t847, .int .i64 t848]] (by rfl) rfl rfl G.ar ?_
              with_reducible refine (impl_IsRun.calls k3 _ _ t843 t846 t847 t848 t869 _ ?side1 ?side2 A115.out).mono ?_
              (case side1 => repeat (first | exact (Kd.R_reads' HO845.out).2.2 | (with_reducible refine Kd.C_alloc ?_ _) | (with_reducible refine Kd.C_drewN ?_ _) | (with_reducible refine Kd.C_drew ?_)))
              (case side2 => exact (Kd.R_reads' HO845.out).2.1)
              rintro e w143 ⟨rfl, hb⟩
              refine ⟨_, rfl, ?_⟩
              have n0_ := G.a (Kd.R_below (G.kR HO_5.out) hb)
              have n1_ := G.a (Kd.R_below (G.kR HO_9.out) hb)
              have n2_ := G.a (Kd.R_below (G.kR HO845.out) hb)
              have n3_ := G.a (Kd.R_below (G.kR HO852.out) hb)
              have n4_ := G.a (Kd.R_below (G.kR HO859.out) hb)
              have n5_ := G.a (Kd.V_below (G.kV HO863.out) hb)
              have n6_ := G.a (blk_below (g := gb849) (o := .cells #[.int .i64 t846, .int .i64 t847, .int .i64 t848] 32 (0, 0)) (G.kB BK849.out) hb)
              have n7_ := G.a (blk_below (g := gb856) (o := .cells #[.int .i64 t853, .int .i64 t854, .int .i64 t855] 32 (0, 0)) (G.kB BK856.out) hb)
              have n8_ := G.a (blk_below (g := gb868) (o := .cells #[.int .i64 t865, .int .i64 t866, .int .i64 t867] 32 (0, 0)) (G.kB BK868.out) hb)
              have n9_ := G.a (below_step (by repeat (first | (with_reducible first | exact HB.out | apply below_alloc | apply pw_below_drewN | apply below_drew1 | refine below_set ?_ GE849.out | refine below_set ?_ GE856.out | refine below_set ?_ GE868.out) | exact HB.out)) hb)
              clear HO_5
              clear HO_9
              clear HO845
              clear HO852
              clear HO859
              clear HO863
              clear BK849
              clear BK856
              clear BK868
              clear HB
              have HO_5 := n0_
              have HO_9 := n1_
              have HO845 := n2_
              have HO852 := n3_
              have HO859 := n4_
              have HO863 := n5_
              have BK849 := n6_
              have BK856 := n7_
              have BK868 := n8_
              have HB := n9_
              clear n0_ n1_ n2_ n3_ n4_ n5_ n6_ n7_ n8_ n9_
              (try clear hb)
              (try clear hb2)
              (try clear hk)
              (try clear hi)
              refine hK.out _ _ ⟨(blk_cell BK849.out 0).trans rfl, (blk_cell BK849.out 1).trans rfl, (blk_cell BK849.out 2).trans rfl, (blk_cell BK868.out 0).trans rfl, (blk_cell BK868.out 1).trans rfl, (blk_cell BK868.out 2).trans rfl⟩ (fun hHeld => ?_)
              clear hK K
              refine norm_ (a' := ?_) ?_ ?_
              rotate_left
              ·show Act.put _ (some 200) _ = _
               simp only [Act.put, List.setIfInBounds_toArray, List.set_cons_zero, List.set_cons_succ, i64_w, i32_w]
               rfl
              refine one_ (i := 5) (N := some 203) (G.bs 25 63) rfl rfl (one_of HT_.out (by kernel_rfl)) (by decide) (fun K hK => ?_)
              refine goes_ Tryz.func20 (by kernel_rfl) rfl #[.slice Ao142 t843.length co142, .agg #[.int .i64 t846, .int .i64 t847, .int .i64 t848]] (by rfl) rfl rfl G.ar ?_
              with_reducible refine (spec_IsRun.calls k3 _ _ t843 t846 t847 t848 t869 _ ?side1 ?side2 A116.out).mono ?_
              (case side1 => repeat (first | exact (Kd.R_reads' HO845.out).2.2 | (with_reducible refine Kd.C_alloc ?_ _) | (with_reducible refine Kd.C_drewN ?_ _) | (with_reducible refine Kd.C_drew ?_)))
              (case side2 => exact (Kd.R_reads' HO845.out).2.1)
              rintro e w144 ⟨rfl, hb⟩
              refine ⟨_, rfl, ?_⟩
              have n0_ := G.a (Kd.R_below (G.kR HO_5.out) hb)
              have n1_ := G.a (Kd.R_below (G.kR HO_9.out) hb)
              have n2_ := G.a (Kd.R_below (G.kR HO845.out) hb)
              have n3_ := G.a (Kd.R_below (G.kR HO852.out) hb)
              have n4_ := G.a (Kd.R_below (G.kR HO859.out) hb)
              have n5_ := G.a (Kd.V_below (G.kV HO863.out) hb)
              have n6_ := G.a (blk_below (g := gb849) (o := .cells #[.int .i64 t846, .int .i64 t847, .int .i64 t848] 32 (0, 0)) (G.kB BK849.out) hb)
              have n7_ := G.a (blk_below (g := gb856) (o := .cells #[.int .i64 t853, .int .i64 t854, .int .i64 t855] 32 (0, 0)) (G.kB BK856.out) hb)
              have n8_ := G.a (blk_below (g := gb868) (o := .cells #[.int .i64 t865, .int .i64 t866, .int .i64 t867] 32 (0, 0)) (G.kB BK868.out) hb)
              have n9_ := G.a (below_step (by repeat (first | (with_reducible first | exact HB.out | apply below_alloc | apply pw_below_drewN | apply below_drew1 | refine below_set ?_ GE849.out | refine below_set ?_ GE856.out | refine below_set ?_ GE868.out) | exact HB.out)) hb)
              clear HO_5
              clear HO_9
              clear HO845
              clear HO852
              clear HO859
              clear HO863
              clear BK849
              clear BK856
              clear BK868
              clear HB
              have HO_5 := n0_
              have HO_9 := n1_
              have HO845 := n2_
              have HO852 := n3_
              have HO859 := n4_
              have HO863 := n5_
              have BK849 := n6_
              have BK856 := n7_
              have BK868 := n8_
              have HB := n9_
              clear n0_ n1_ n2_ n3_ n4_ n5_ n6_ n7_ n8_ n9_
              (try clear hb)
              (try clear hb2)
              (try clear hk)
              (try clear hi)
              obtain ⟨Ao145, co145, eo145⟩ := Kd.R_slice HO859.out
              (first | subst eo145 | (injection eo145 with f1_ f2_ f3_; have f4_ := f1_.symm; have f5_ := f3_.symm; clear f1_ f2_ f3_; subst f4_; subst f5_))
              obtain ⟨Ao146, co146, eo146⟩ := Kd.V_slice HO863.out
              (first | subst eo146 | (injection eo146 with f1_ f2_ f3_; have f4_ := f1_.symm; have f5_ := f3_.symm; clear f1_ f2_ f3_; subst f4_; subst f5_))
              refine hK.out _ _ ⟨(blk_cell BK849.out 0).trans rfl, (blk_cell BK849.out 1).trans rfl, (blk_cell BK849.out 2).trans rfl, (blk_cell BK868.out 0).trans rfl, (blk_cell BK868.out 1).trans rfl, (blk_cell BK868.out 2).trans rfl⟩ (fun hHeld => ?_)
              clear hK K
              refine norm_ (a' := ?_) ?_ ?_
              rotate_left
              ·show Act.put _ (some 203) _ = _
               simp only [Act.put, List.setIfInBounds_toArray, List.set_cons_zero, List.set_cons_succ, i64_w, i32_w]
               rfl
              refine G.pu 6 204 (G.bs 25 127) ?_
              refine G.pu 7 205 (G.bs 25 255) ?_
              refine G.pu 8 206 (G.bs 25 511) ?_
              refine G.pu 9 207 (G.bs 25 1023) ?_
              refine G.pu 10 208 (G.bs 25 2047) ?_
              refine G.pu 11 209 (G.bs 25 4095) ?_
              refine G.pu 12 210 (G.bs 25 8191) ?_
              refine G.pu 13 211 (G.bs 25 16383) ?_
              refine G.pu 14 212 (G.bs 25 32767) ?_
              refine one_ (i := 15) (N := some 213) (G.bs 25 65535) rfl rfl (one_of HT_.out (by kernel_rfl)) (by decide) (fun K hK => ?_)
              refine goes_ Tryz.func21 (by kernel_rfl) rfl #[.slice Ao145 t857.length co145, .slice Ao146 t861.length co146] (by rfl) rfl rfl G.ar ?_
              with_reducible refine (laws_sameInts.calls k3 _ _ t857 _ _ t861 true _ ?side1 ?side2 ?side3 ?side4 A119.out).mono ?_
              (case side1 => repeat (first | exact (Kd.R_reads' HO859.out).2.2 | (with_reducible refine Kd.C_alloc ?_ _) | (with_reducible refine Kd.C_drewN ?_ _) | (with_reducible refine Kd.C_drew ?_)))
              (case side2 => exact (Kd.R_reads' HO859.out).2.1)
              (case side3 => repeat (first | exact (Kd.V_reads' HO863.out).2.2 | (with_reducible refine Kd.C_alloc ?_ _) | (with_reducible refine Kd.C_drewN ?_ _) | (with_reducible refine Kd.C_drew ?_)))
              (case side4 => exact (Kd.V_reads' HO863.out).2.1)
              rintro e w' ⟨rfl, ⟨nd, rfl⟩⟩
              refine ⟨_, rfl, ?_⟩
              refine hK.out _ _ ⟨(blk_cell BK849.out 0).trans rfl, (blk_cell BK849.out 1).trans rfl, (blk_cell BK849.out 2).trans rfl, (blk_cell BK868.out 0).trans rfl, (blk_cell BK868.out 1).trans rfl, (blk_cell BK868.out 2).trans rfl⟩ (fun hHeld => ?_)
              clear hK K
              refine norm_ (a' := ?_) ?_ ?_
              rotate_left
              ·show Act.put _ (some 213) _ = _
               simp only [Act.put, List.setIfInBounds_toArray, List.set_cons_zero, List.set_cons_succ, i64_w, i32_w]
               rfl
              refine G.pu 16 214 (G.bs 25 131071) ?_
              refine G.pu 17 215 (G.bs 25 262143) ?_
              refine G.tk 18 216 (G.bs 25 524287) rfl (by rintro w' ⟨s0, s1, s2, s3, s4, s5⟩; go_simp; with_reducible rfl) ?_
              refine G.tk 20 218 (G.bs 25 1572863) rfl (by rintro w' ⟨s0, s1, s2, s3, s4, s5⟩; go_simp; with_reducible rfl) ?_
              refine one_ (i := 19) (N := some 217) (G.bs 25 2097151) rfl rfl (one_of HT_.out (by kernel_rfl)) (by decide) (fun K hK => ?_)
              refine goes_ Tryz.func14 (by kernel_rfl) rfl #[.agg #[.int .i64 t865, .int .i64 t866, .int .i64 t867]] (by rfl) rfl rfl G.ar ?_
              with_reducible refine (impl_SquaresInRun.calls t865 t866 t867 t872 _ A121.out).mono ?_
              rintro e w147 ⟨rfl, hb⟩
              refine ⟨_, rfl, ?_⟩
              have n0_ := G.a (Kd.R_below (G.kR HO_5.out) hb)
              have n1_ := G.a (Kd.R_below (G.kR HO_9.out) hb)
              have n2_ := G.a (Kd.R_below (G.kR HO845.out) hb)
              have n3_ := G.a (Kd.R_below (G.kR HO852.out) hb)
              have n4_ := G.a (Kd.R_below (G.kR HO859.out) hb)
              have n5_ := G.a (Kd.V_below (G.kV HO863.out) hb)
              have n6_ := G.a (blk_below (g := gb849) (o := .cells #[.int .i64 t846, .int .i64 t847, .int .i64 t848] 32 (0, 0)) (G.kB BK849.out) hb)
              have n7_ := G.a (blk_below (g := gb856) (o := .cells #[.int .i64 t853, .int .i64 t854, .int .i64 t855] 32 (0, 0)) (G.kB BK856.out) hb)
              have n8_ := G.a (blk_below (g := gb868) (o := .cells #[.int .i64 t865, .int .i64 t866, .int .i64 t867] 32 (0, 0)) (G.kB BK868.out) hb)
              have n9_ := G.a (below_step (by repeat (first | (with_reducible first | exact HB.out | apply below_alloc | apply pw_below_drewN | apply below_drew1 | refine below_set ?_ GE849.out | refine below_set ?_ GE856.out | refine below_set ?_ GE868.out) | exact HB.out)) hb)
              clear HO_5
              clear HO_9
              clear HO845
              clear HO852
              clear HO859
              clear HO863
              clear BK849
              clear BK856
              clear BK868
              clear HB
              have HO_5 := n0_
              have HO_9 := n1_
              have HO845 := n2_
              have HO852 := n3_
              have HO859 := n4_
              have HO863 := n5_
              have BK849 := n6_
              have BK856 := n7_
              have BK868 := n8_
              have HB := n9_
              clear n0_ n1_ n2_ n3_ n4_ n5_ n6_ n7_ n8_ n9_
              (try clear hb)
              (try clear hb2)
              (try clear hk)
              (try clear hi)
              refine hK.out _ _ ⟨(blk_cell BK849.out 0).trans rfl, (blk_cell BK849.out 1).trans rfl, (blk_cell BK849.out 2).trans rfl, (blk_cell BK868.out 0).trans rfl, (blk_cell BK868.out 1).trans rfl, (blk_cell BK868.out 2).trans rfl⟩ (fun hHeld => ?_)
              clear hK K
              refine norm_ (a' := ?_) ?_ ?_
              rotate_left
              ·show Act.put _ (some 217) _ = _
               simp only [Act.put, List.setIfInBounds_toArray, List.set_cons_zero, List.set_cons_succ, i64_w, i32_w]
               rfl
              refine one_ (i := 21) (N := some 219) (G.bs 25 4194303) rfl rfl (one_of HT_.out (by kernel_rfl)) (by decide) (fun K hK => ?_)
              refine goes_ Tryz.func22 (by kernel_rfl) rfl #[.agg #[.int .i64 t865, .int .i64 t866, .int .i64 t867]] (by rfl) rfl rfl G.ar ?_
              with_reducible refine (spec_SquaresInRun.calls t865 t866 t867 t873 _ A122.out).mono ?_
              rintro e w148 ⟨rfl, hb⟩
              refine ⟨_, rfl, ?_⟩
              have n0_ := G.a (Kd.R_below (G.kR HO_5.out) hb)
              have n1_ := G.a (Kd.R_below (G.kR HO_9.out) hb)
              have n2_ := G.a (Kd.R_below (G.kR HO845.out) hb)
              have n3_ := G.a (Kd.R_below (G.kR HO852.out) hb)
              have n4_ := G.a (Kd.R_below (G.kR HO859.out) hb)
              have n5_ := G.a (Kd.V_below (G.kV HO863.out) hb)
              have n6_ := G.a (blk_below (g := gb849) (o := .cells #[.int .i64 t846, .int .i64 t847, .int .i64 t848] 32 (0, 0)) (G.kB BK849.out) hb)
              have n7_ := G.a (blk_below (g := gb856) (o := .cells #[.int .i64 t853, .int .i64 t854, .int .i64 t855] 32 (0, 0)) (G.kB BK856.out) hb)
              have n8_ := G.a (blk_below (g := gb868) (o := .cells #[.int .i64 t865, .int .i64 t866, .int .i64 t867] 32 (0, 0)) (G.kB BK868.out) hb)
              have n9_ := G.a (below_step (by repeat (first | (with_reducible first | exact HB.out | apply below_alloc | apply pw_below_drewN | apply below_drew1 | refine below_set ?_ GE849.out | refine below_set ?_ GE856.out | refine below_set ?_ GE868.out) | exact HB.out)) hb)
              clear HO_5
              clear HO_9
              clear HO845
              clear HO852
              clear HO859
              clear HO863
              clear BK849
              clear BK856
              clear BK868
              clear HB
              have HO_5 := n0_
              have HO_9 := n1_
              have HO845 := n2_
              have HO852 := n3_
              have HO859 := n4_
              have HO863 := n5_
              have BK849 := n6_
              have BK856 := n7_
              have BK868 := n8_
              have HB := n9_
              clear n0_ n1_ n2_ n3_ n4_ n5_ n6_ n7_ n8_ n9_
              (try clear hb)
              (try clear hb2)
              (try clear hk)
              (try clear hi)
              refine hK.out _ _ ⟨(blk_cell BK849.out 0).trans rfl, (blk_cell BK849.out 1).trans rfl, (blk_cell BK849.out 2).trans rfl, (blk_cell BK868.out 0).trans rfl, (blk_cell BK868.out 1).trans rfl, (blk_cell BK868.out 2).trans rfl⟩ (fun hHeld => ?_)
              clear hK K
              refine norm_ (a' := ?_) ?_ ?_
              rotate_left
              ·show Act.put _ (some 219) _ = _
               simp only [Act.put, List.setIfInBounds_toArray, List.set_cons_zero, List.set_cons_succ, i64_w, i32_w]
               rfl
              refine G.pu 22 220 (G.bs 25 8388607) ?_
              refine G.pu 23 221 (G.bs 25 16777215) ?_
              refine G.pu 24 2 (G.bs 25 33554431) ?_
              refine done_ (done_of HT_.out (by kernel_rfl)) ?_
              try go_wp2
              go_ret
              exact ⟨G.er, by repeat (first | (with_reducible first | exact HB.out | apply below_alloc | apply pw_below_drewN | apply below_drew1 | refine below_set ?_ GE849.out | refine below_set ?_ GE856.out | refine below_set ?_ GE868.out) | exact HB.out)⟩
             ·replace c120 := Bool.eq_false_iff.mpr c120
              subst c120
              rw [if_neg (show ¬ (false = true) by decide)] at H
              exact absurd ((Option.some.inj H).trans HTrue_.out) (by decide)
            ·rw [if_neg c118] at H
             have c118b0 : (t860 == t864) = false := by simpa using c118
             (try (have c118b1 : decide (t860 = t864) = false := by simpa using c118))
             (try (have c118b2 : (t860 == t864) = false := by simpa using c118))
             (try (have c118b3 : ¬ (t860 = t864) := by simpa using c118))
             clear c118
             exact absurd ((Option.some.inj H).trans HTrue_.out) (by decide)
           ·rw [if_neg c117] at H
            have c117b0 : (t869 == t870) = false := by simpa using c117
            (try (have c117b1 : decide (t869 = t870) = false := by simpa using c117))
            (try (have c117b2 : (t869 == t870) = false := by simpa using c117))
            (try (have c117b3 : ¬ (t869 = t870) := by simpa using c117))
            clear c117
            exact absurd ((Option.some.inj H).trans HTrue_.out) (by decide)
def laws_FnRuns.Pure : Prop := (RNok) ∧ ∀ (l0 : List Int), l0.length ≤ maxLen → l0.length * 1 ≤ 140737488351232 → (∀ x ∈ l0, (Lit.int .u8 x).wf = true) → ∃ k, laws_FnRuns.f k l0 = some true
theorem laws_FnRuns.walk (P : laws_FnRuns.Pure) (a0 : Option Addr) (len0 cap0 : Nat) (z0 : List Int) (w : World) (w0 : (a0 = none ∧ len0 = 0 ∧ cap0 = 0 ∧ z0 = []) ∨ ∃ x, a0 = some x ∧ len0 ≤ cap0 ∧ cap0 ≤ maxLen ∧ z0.length = cap0 ∧ (∀ i, i < z0.length → w.cell? (x.add i) = some (.int .u8 (z0.getD i 0))) ∧ ∀ n ∈ z0, (Lit.int .u8 n).wf = true) (y0 : len0 * 1 ≤ 140737488351232) :
  Calls Tryz.prog 3 #[.slice a0 len0 cap0] w fun e w' => e = .returned (.bool true) ∧ Below w.heap.size w w' := by
 obtain ⟨l0, rfl, hr0, hm0, hw0, hc0⟩ := ReadsInt.ofRowC w0
 obtain ⟨k, h⟩ := P.2 l0 hm0 y0 hw0
 refine (laws_FnRuns.calls P.1 k _ _ l0 true w (Kd.C_of_reads (d := (0 : Int)) (h1 := fun _ => rfl) hr0) hc0 h).mono ?_
 rintro e w' ⟨rfl, hd⟩
 exact ⟨rfl, hd⟩
end Go.Proofs.YtolikggioekalabGreat.PFnRuns
