/- The Go functions that the law FnLyndon reaches (part 19): each as a Lean function, and that its code comes to these answers. No condition beyond those written. -/
import Derived.Test.YtolikggioekalabVGSlim
import Derived.Test.YtolikggioekalabVGPick
import Derived.Test.YtolikggioekalabVMFnLyndonx9
import Derived.Test.YtolikggioekalabVMFnLyndonx8
import Derived.Test.YtolikggioekalabVMFnLyndonx7
import Derived.Test.YtolikggioekalabVMFnLyndonx6
import Derived.Test.YtolikggioekalabVMFnLyndonx5
import Derived.Test.YtolikggioekalabVMFnLyndonx0
import Derived.Test.YtolikggioekalabVMFnLyndonx1
import Derived.Test.YtolikggioekalabVMFnLyndonx2
import Derived.Test.YtolikggioekalabVMFnLyndonx3
import Derived.Test.YtolikggioekalabVMFnLyndonx4
import Derived.Test.YtolikggioekalabVMFnLyndonx10
import Derived.Test.YtolikggioekalabVMFnLyndonx11
import Derived.Test.YtolikggioekalabVMFnLyndonx12
import Derived.Test.YtolikggioekalabVMFnLyndonx13
import Derived.Test.YtolikggioekalabVMFnLyndonx14
import Derived.Test.YtolikggioekalabVMFnLyndonx15
import Derived.Test.YtolikggioekalabVMFnLyndonx16
import Derived.Test.YtolikggioekalabVMFnLyndonx17
import Derived.Test.YtolikggioekalabVMFnLyndonx18
namespace Go.Proofs.Ytolikggioekalab.PFnLyndon
open Go.RowKit Go.Proofs.YtolikggioekalabW.PrintWords Go.Proofs.YtolikggioekalabW.PrintLast Go.Proofs.YtolikggioekalabW.PrintMore
attribute [local go_sem] max2_int min2_int max_two min_two max_three min_three max_four min_four   -- for this text's walks alone
set_option linter.unusedVariables false
set_option linter.unusedSimpArgs false
set_option linter.unnecessarySimpa false

/-! ### laws_FnLyndon: function 13 -/
mutual
noncomputable def laws_FnLyndon.j0 : Nat → List Int → List Int → List (List Int) → Bool → Option (Bool)
 | 0, _, _, _, _ => none
 | k + 1, x0, x3, x4, x53 => if x53 = true then (some false) else (laws_FnLyndon.l0 k x0 x3 x4 (([] : List Int)) 0)
noncomputable def laws_FnLyndon.l0 : Nat → List Int → List Int → List (List Int) → List Int → Int → Option (Bool)
 | 0, _, _, _, _, _ => none
 | k + 1, x0, x3, x4, x5, x6 => if x6 < (x4.length : Int) then (if 0 ≤ x6 then (if x5.length + (rd_L1 x4 x6).length < 17592186044416 then ((some (x5 ++ (rd_L1 x4 x6) : List Int)).bind fun y918 => ((impl_IsLyndon.f k (rd_L1 x4 x6)).bind fun t922 => (if t922 = true then (if x6 > 0 then (if 0 ≤ (wrap64 (x6 - 1)) then (if (wrap64 (x6 - 1)) < (x4.length : Int) then ((spec_CompareWords.f k (rd_L1 x4 (wrap64 (x6 - 1))) (rd_L1 x4 x6)).bind fun t925 => (if t925 < 0 then (some false) else (laws_FnLyndon.l0 k x0 x3 x4 y918 (wrap64 (x6 + 1))))) else (none)) else (none)) else (laws_FnLyndon.l0 k x0 x3 x4 y918 (wrap64 (x6 + 1)))) else (some false)))) else (none)) else (none)) else ((laws_sameInts.f k x5 x3).bind fun t926 => (if t926 = true then (if (x3.length : Int) > 0 then ((spec_IsLyndon.f k x3).bind fun t927 => (laws_FnLyndon.j2 k x0 (((x4.length : Int) == 1) != t927))) else (laws_FnLyndon.j2 k x0 false)) else (laws_FnLyndon.j2 k x0 true)))
noncomputable def laws_FnLyndon.j2 : Nat → List Int → Bool → Option (Bool)
 | 0, _, _ => none
 | k + 1, x0, x106 => if x106 = true then (some false) else (G.draw spec_DrawLyndonWords.Ok fun k bt928 => ((impl_LyndonWords.f k bt928.1 bt928.2).bind fun bt930 => ((spec_LyndonWords.f k bt928.1 bt928.2).bind fun bt934 => (if (bt930.2 != bt934.2) = true then (laws_FnLyndon.j3 k x0 true) else ((laws_sameWords.f k bt930.1 bt934.1).bind fun t938 => (if t938 = true then (if bt930.2 = true then ((impl_CountLyndon.f k bt928.1 bt928.2).bind fun t939 => (if t939 = (bt934.1.length : Int) then ((impl_CountLyndon.f k bt928.1 bt928.2).bind fun t940 => ((spec_CountLyndon.f k bt928.1 bt928.2).bind fun t941 => (if t940 = t941 then ((impl_CountNecklaces.f k bt928.1 bt928.2).bind fun t942 => ((spec_CountNecklaces.f k bt928.1 bt928.2).bind fun t943 => (laws_FnLyndon.j3 k x0 (t942 != t943)))) else (laws_FnLyndon.j3 k x0 true)))) else (laws_FnLyndon.j3 k x0 true))) else ((impl_CountLyndon.f k bt928.1 bt928.2).bind fun t944 => ((spec_CountLyndon.f k bt928.1 bt928.2).bind fun t945 => (if t944 = t945 then ((impl_CountNecklaces.f k bt928.1 bt928.2).bind fun t946 => ((spec_CountNecklaces.f k bt928.1 bt928.2).bind fun t947 => (laws_FnLyndon.j3 k x0 (t946 != t947)))) else (laws_FnLyndon.j3 k x0 true))))) else (laws_FnLyndon.j3 k x0 true)))))))
noncomputable def laws_FnLyndon.j3 : Nat → List Int → Bool → Option (Bool)
 | 0, _, _ => none
 | k + 1, x0, x161 => if x161 = true then (some false) else (G.draw spec_DrawStandardSplit.Ok fun k t948 => ((impl_StandardSplit.f k t948).bind fun bt951 => ((spec_StandardSplit.f k t948).bind fun bt958 => (if (bt951.2.2 == bt958.2.2) = true then ((laws_sameInts.f k bt951.1 bt958.1).bind fun t965 => (if t965 = true then ((laws_sameInts.f k bt951.2.1 bt958.2.1).bind fun t966 => (if t966 = true then ((spec_IsLyndon.f k t948).bind fun t967 => (if t967 = true then (if (bt951.2.2 == (decide ((t948.length : Int) > 1))) = true then (if bt951.2.2 = true then ((impl_IsLyndon.f k bt958.1).bind fun t968 => (if t968 = true then ((impl_IsLyndon.f k bt958.2.1).bind fun t969 => (if t969 = true then ((spec_CompareWords.f k bt958.1 bt958.2.1).bind fun t970 => (some (decide (t970 < 0)))) else (some false))) else (some false))) else (some true)) else (some false)) else (if (bt951.2.2 == false) = true then (if bt951.2.2 = true then ((impl_IsLyndon.f k bt958.1).bind fun t971 => (if t971 = true then ((impl_IsLyndon.f k bt958.2.1).bind fun t972 => (if t972 = true then ((spec_CompareWords.f k bt958.1 bt958.2.1).bind fun t973 => (some (decide (t973 < 0)))) else (some false))) else (some false))) else (some true)) else (some false)))) else (some false))) else (some false))) else (some false)))))
end
noncomputable def laws_FnLyndon.f (k : Nat) (l0 : List Int) : Option (Bool) := (laws_big.f l0).bind fun t887 => (if t887 = true then (some true) else (G.draw spec_DrawLyndonFactors.Ok fun k t888 => ((impl_LyndonFactors.f k t888).bind fun t891 => ((spec_LyndonFactors.f k t888).bind fun t894 => ((laws_sameWords.f k t891 t894).bind fun t897 => (if t897 = true then ((impl_IsLyndon.f k t888).bind fun t898 => ((spec_IsLyndon.f k t888).bind fun t899 => (if (t898 != t899) = true then (laws_FnLyndon.j0 k l0 t888 t891 true) else ((impl_LeastConjugate.f k t888).bind fun t900 => ((spec_LeastConjugate.f k t888).bind fun t903 => ((laws_sameInts.f k t900 t903).bind fun t906 => (if t906 = true then ((impl_ConjugatesOf.f k t888).bind fun t907 => ((spec_ConjugatesOf.f k t888).bind fun t910 => ((laws_sameWords.f k t907 t910).bind fun t913 => (laws_FnLyndon.j0 k l0 t888 t891 (!t913))))) else (laws_FnLyndon.j0 k l0 t888 t891 true)))))))) else (laws_FnLyndon.j0 k l0 t888 t891 true)))))))
def laws_FnLyndon.T12 : Bool × List (List Nat × List Nat) := (true, [([], []), ([], []), ([0, 1], [0, 1]), ([2], [2]), ([3], [3]), ([4], [4]), ([5, 4], [5]), ([6], [6]), ([7, 6], [6, 7]), ([8, 6, 6], [6, 8]), ([9], [9]), ([9], [9]), ([11, 9], [9, 11]), ([10, 12, 9], [9, 10, 12]), ([13, 9], [9, 13]), ([9], [9]), ([9], [9]), ([15, 16, 9], [9, 15, 16]), ([17, 9], [9, 17]), ([14, 18, 9, 9], [9, 14, 18]), ([19, 9], [9, 19]), ([9, 20, 6], [6, 9, 20]), ([6, 21], [6, 21])])
def laws_FnLyndon.B12 : List Nat := [0, 0, 3, 7, 15, 31, 63, 127, 255, 511, 1023, 1023, 3071, 8191, 16383, 1023, 1023, 99327, 230399, 524287, 1048575, 2097151, 4194303]
theorem laws_FnLyndon.tab12 : rtab .any (opsOf Try.f13 12) = laws_FnLyndon.T12 := by kernel_rfl
theorem laws_FnLyndon.bits12 : waitsOk laws_FnLyndon.T12.2 laws_FnLyndon.B12 = true := by kernel_rfl
theorem laws_FnLyndon.j0_no : ∀ k a0 a1 a2, laws_FnLyndon.j0 k a0 a1 a2 true ≠ some true := by
 intro k _ _ _
 cases k <;> simp [laws_FnLyndon.j0]
theorem laws_FnLyndon.j2_no : ∀ k a0, laws_FnLyndon.j2 k a0 true ≠ some true := by
 intro k _
 cases k <;> simp [laws_FnLyndon.j2]
theorem laws_FnLyndon.j3_no : ∀ k a0, laws_FnLyndon.j3 k a0 true ≠ some true := by
 intro k _
 cases k <;> simp [laws_FnLyndon.j3]
set_option maxHeartbeats 8000000 in
set_option maxRecDepth 100000 in
theorem laws_FnLyndon.calls (hLCok : LCok) (hRTok : RTok) (k : Nat) (A0 : Option Addr) (c0 : Nat) (l0 : List Int) (r : Bool) (w : World) (hr0 : Kd.C (Kd.int .u8) w A0 l0.length l0) (hc0 : l0.length ≤ c0) (h : laws_FnLyndon.f k l0 = some r) (hT : r = true := by rfl) :
  Calls Try.prog 13 #[.slice A0 l0.length c0] w fun e w' => e = .returned (.bool r) ∧ Below w.heap.size w w' := by
 have HLCok_ := Aside0.mk hLCok
 clear hLCok
 have HRTok_ := Aside0.mk hRTok
 clear hRTok
 have HTrue_ := Aside0.mk hT
 clear hT
 have HR0 := Aside0.mk hr0
 have HC0 := Aside0.mk hc0
 clear hr0 hc0
 have HB := Aside0.mk (Below.refl w.heap.size w)
 have H : ((laws_big.f l0).bind fun t887 => (if t887 = true then (some true) else (G.draw spec_DrawLyndonFactors.Ok fun k t888 => ((impl_LyndonFactors.f k t888).bind fun t891 => ((spec_LyndonFactors.f k t888).bind fun t894 => ((laws_sameWords.f k t891 t894).bind fun t897 => (if t897 = true then ((impl_IsLyndon.f k t888).bind fun t898 => ((spec_IsLyndon.f k t888).bind fun t899 => (if (t898 != t899) = true then (laws_FnLyndon.j0 k l0 t888 t891 true) else ((impl_LeastConjugate.f k t888).bind fun t900 => ((spec_LeastConjugate.f k t888).bind fun t903 => ((laws_sameInts.f k t900 t903).bind fun t906 => (if t906 = true then ((impl_ConjugatesOf.f k t888).bind fun t907 => ((spec_ConjugatesOf.f k t888).bind fun t910 => ((laws_sameWords.f k t907 t910).bind fun t913 => (laws_FnLyndon.j0 k l0 t888 t891 (!t913))))) else (laws_FnLyndon.j0 k l0 t888 t891 true)))))))) else (laws_FnLyndon.j0 k l0 t888 t891 true)))))))) = some r := h
 clear h
 obtain ⟨t887, A2, H⟩ := G.bx H
 by_cases c3 : t887 = true
 ·subst c3
  rw [if_pos rfl] at H
  obtain rfl := Option.some.inj H
  go_enter Try.func13, Try.ntmps13
  go_wp2_with (first | ((with_reducible refine gate_callee (f := 41) rfl ?_); refine goesL_ (some 21) rfl rfl Try.func41 (by kernel_rfl) rfl #[.slice A0 l0.length c0] rfl G.ar ?_; (with_reducible refine (laws_big.calls _ _ l0 true _ ?side1 ?side2 A2.out).mono ?_); (case side1 => exact G.kC HR0.out); (case side2 => exact HC0.out); rintro e w' ⟨rfl, ⟨nd, rfl⟩⟩; refine ⟨_, rfl, ?_⟩))
  go_ret
  exact ⟨G.er, G.bel⟩
 ·replace c3 := Bool.eq_false_iff.mpr c3
  subst c3
  rw [if_neg (show ¬ (false = true) by decide)] at H
  have HBIG_ := Aside0.mk (big_le A2.out)
  go_enter Try.func13, Try.ntmps13
  go_upto_region 4 with (first | ((with_reducible refine gate_callee (f := 41) rfl ?_); refine goesL_ (some 21) rfl rfl Try.func41 (by kernel_rfl) rfl #[.slice A0 l0.length c0] rfl G.ar ?_; (with_reducible refine (laws_big.calls _ _ l0 false _ ?side1 ?side2 A2.out).mono ?_); (case side1 => exact G.kC HR0.out); (case side2 => exact HC0.out); rintro e w' ⟨rfl, ⟨nd, rfl⟩⟩; refine ⟨_, rfl, ?_⟩) | ((with_reducible refine gate_callee (f := 81) rfl ?_); refine goesL_ (some 23) rfl rfl Try.func81 (by kernel_rfl) rfl #[.slice A0 l0.length c0] rfl G.ar ?_; (with_reducible refine (spec_DrawLyndonFactors.any _ _ l0 _ ?side1 ?side2 ?side3 HLCok_.out).mono ?_); (case side3 => exact HBIG_.out); (case side1 => exact G.kC HR0.out); (case side2 => exact HC0.out); rintro e w7 ⟨t888, v889, hw_, rfl, ho0, hb⟩; have A4 := Aside0.mk hw_; clear hw_; refine ⟨_, rfl, ?_⟩; have n0_ := Aside0.mk (Kd.V_lower (Kd.V_mono (ok' := fun k_ => True) ho0 (fun k_ hk_ => trivial)) (below_size G.bel)); have n1_ := Aside0.mk (below_step G.bel hb); clear HB; have HO890 := n0_; have HB := n1_; clear n0_ n1_; (try clear hb); (try clear hb2); (try clear hk); (try clear hi); (try clear ho0)))
  obtain ⟨k, H⟩ := G.draw_out H t888 A4.out
  replace H : ((impl_LyndonFactors.f k t888).bind fun t891 => ((spec_LyndonFactors.f k t888).bind fun t894 => ((laws_sameWords.f k t891 t894).bind fun t897 => (if t897 = true then ((impl_IsLyndon.f k t888).bind fun t898 => ((spec_IsLyndon.f k t888).bind fun t899 => (if (t898 != t899) = true then (laws_FnLyndon.j0 k l0 t888 t891 true) else ((impl_LeastConjugate.f k t888).bind fun t900 => ((spec_LeastConjugate.f k t888).bind fun t903 => ((laws_sameInts.f k t900 t903).bind fun t906 => (if t906 = true then ((impl_ConjugatesOf.f k t888).bind fun t907 => ((spec_ConjugatesOf.f k t888).bind fun t910 => ((laws_sameWords.f k t907 t910).bind fun t913 => (laws_FnLyndon.j0 k l0 t888 t891 (!t913))))) else (laws_FnLyndon.j0 k l0 t888 t891 true)))))))) else (laws_FnLyndon.j0 k l0 t888 t891 true))))) = some r := H
  obtain ⟨t891, A5, H⟩ := G.bx H
  have HC6 := Aside0.mk H
  clear H
  obtain ⟨Ao8, co8, eo8⟩ := Kd.V_slice HO890.out
  subst eo8
  go_upto_region 5 with (first | ((with_reducible refine gate_callee (f := 82) rfl ?_); refine goesL_ (some 25) rfl rfl Try.func82 (by kernel_rfl) rfl #[.slice Ao8 t888.length co8] rfl G.ar ?_; (with_reducible refine (impl_LyndonFactors.calls k (fun k_ => True) _ _ t888 t891 _ ?side1 A5.out).mono ?_); (case side1 => exact HO890.out); rintro e w9 ⟨v892, rfl, ho0, hb⟩; refine ⟨_, rfl, ?_⟩; have n0_ := Aside0.mk (Kd.V_elder' (G.kV HO890.out) (Kd.N_base ho0) hb); have n1_ := Aside0.mk (Kd.N_lower (Kd.N_mono (ok' := fun k_ => True) ho0 (fun k_ hk_ => trivial)) (below_size G.bel)); have n2_ := Aside0.mk (below_step G.bel hb); clear HO890; clear HB; have HO890 := n0_; have HO893 := n1_; have HB := n2_; clear n0_ n1_ n2_; (try clear hb); (try clear hb2); (try clear hk); (try clear hi); (try clear ho0)))
  (try simp only [Act.put, List.setIfInBounds_toArray, List.set_cons_zero, List.set_cons_succ])
  go_cut [53] (fun v53 wc => ∃ (kq : Nat) (x53_5 : Bool), v53 = .bool x53_5 ∧ Aside0 (laws_FnLyndon.j0 kq l0 t888 t891 x53_5 = some r) ∧ Aside0 (kq ≤ k) ∧ Aside0 (Kd.V (Kd.int .i64) 3 wc w.heap.size (fun k_ => some k_ ≠ (v892 : Value).ownBlock) (.slice Ao8 t888.length co8) t888) ∧ Aside0 (Kd.N (Kd.slice 3 (Kd.int .i64)) 22 wc w.heap.size (fun _ => True) v892 t891) ∧ Aside0 (Below w.heap.size w wc))
  case first => as_aux_lemma =>
   have H := HC6.out
   clear HC6
   obtain ⟨t894, A10, H⟩ := G.bx H
   obtain ⟨t897, A11, H⟩ := G.bx H
   by_cases c12 : t897 = true
   ·subst c12
    rw [if_pos rfl] at H
    obtain ⟨t898, A13, H⟩ := G.bx H
    obtain ⟨t899, A14, H⟩ := G.bx H
    by_cases c15 : (t898 != t899) = true
    ·rw [if_pos c15] at H
     exact absurd (H.trans (congrArg some HTrue_.out)) (laws_FnLyndon.j0_no _ _ _ _)
    ·rw [if_neg c15] at H
     have c15b0 : (t898 != t899) = false := by simpa using c15
     (try (have c15b1 : decide (t898 = t899) = true := by simpa using c15))
     (try (have c15b2 : (t898 == t899) = true := by simpa using c15))
     clear c15
     (first | rw [c15b0] | (simp only [i64_w, i32_w]; rw [c15b0]) | skip)
     obtain ⟨t900, A20, H⟩ := G.bx H
     obtain ⟨t903, A21, H⟩ := G.bx H
     obtain ⟨t906, A22, H⟩ := G.bx H
     by_cases c23 : t906 = true
     ·subst c23
      rw [if_pos rfl] at H
      obtain ⟨t907, A24, H⟩ := G.bx H
      obtain ⟨t910, A25, H⟩ := G.bx H
      obtain ⟨t913, A26, H⟩ := G.bx H
      have H' := Aside0.mk H
      clear H
      go_wp2_with (first | ((with_reducible refine gate_callee (f := 83) rfl ?_); refine goesL_ (some 28) rfl rfl Try.func83 (by kernel_rfl) rfl #[.slice Ao8 t888.length co8] rfl G.ar ?_; (with_reducible refine (spec_LyndonFactors.calls k _ _ t888 t894 _ ?side1 ?side2 A10.out).mono ?_); (case side1 => repeat (first | exact (Kd.V_reads' HO890.out).2.2 | (with_reducible refine Kd.C_alloc ?_ _) | (with_reducible refine Kd.C_drewN ?_ _) | (with_reducible refine Kd.C_drew ?_))); (case side2 => exact (Kd.V_reads' HO890.out).2.1); rintro e w27 ⟨v895, rfl, ho0, hb⟩; refine ⟨_, rfl, ?_⟩; have n0_ := Aside0.mk (Kd.V_elder' (G.kV HO890.out) (Kd.S_base ho0) hb); have n1_ := Aside0.mk (Kd.N_elder' (G.kN HO893.out) (Kd.S_base ho0) hb); have n2_ := Aside0.mk (Kd.N_lower (Kd.N_mono (ok' := fun k_ => some k_ ≠ (v892 : Value).ownBlock) (Kd.S_N (Kd.S_bound ho0)) (fun k_ hk_ => (Kd.fresh' (Kd.N_lt (G.kN HO893.out)) k_ hk_.2.1))) (below_size G.bel)); have n3_ := Aside0.mk (below_step G.bel hb); clear HO890; clear HO893; clear HB; have HO890 := n0_; have HO893 := n1_; have HO896 := n2_; have HB := n3_; clear n0_ n1_ n2_ n3_; (try clear hb); (try clear hb2); (try clear hk); (try clear hi); (try clear ho0); obtain ⟨Ao28, co28, eo28⟩ := Kd.N_slice HO893.out; subst eo28; obtain ⟨Ao29, co29, eo29⟩ := Kd.N_slice HO896.out; subst eo29) | ((with_reducible refine gate_callee (f := 69) rfl ?_); refine goesL_ (some 29) rfl rfl Try.func69 (by kernel_rfl) rfl #[.slice Ao28 t891.length co28, .slice Ao29 t894.length co29] rfl G.ar ?_; (with_reducible refine (laws_sameWords.calls k _ _ t891 _ _ t894 true _ ?side1 ?side2 ?side3 ?side4 A11.out).mono ?_); (case side1 => repeat (first | exact (Kd.N_reads' HO893.out).2.2 | (with_reducible refine Kd.C_alloc ?_ _) | (with_reducible refine Kd.C_drewN ?_ _) | (with_reducible refine Kd.C_drew ?_))); (case side2 => exact (Kd.N_reads' HO893.out).2.1); (case side3 => repeat (first | exact (Kd.N_reads' HO896.out).2.2 | (with_reducible refine Kd.C_alloc ?_ _) | (with_reducible refine Kd.C_drewN ?_ _) | (with_reducible refine Kd.C_drew ?_))); (case side4 => exact (Kd.N_reads' HO896.out).2.1); rintro e w' ⟨rfl, ⟨nd, rfl⟩⟩; refine ⟨_, rfl, ?_⟩) | (go_at_call 84; (with_reducible refine (impl_IsLyndon.calls k _ _ t888 t898 _ ?side1 ?side2 A13.out).mono ?_); (case side1 => repeat (first | exact (Kd.V_reads' HO890.out).2.2 | (with_reducible refine Kd.C_alloc ?_ _) | (with_reducible refine Kd.C_drewN ?_ _) | (with_reducible refine Kd.C_drew ?_))); (case side2 => exact (Kd.V_reads' HO890.out).2.1); rintro e w30 ⟨rfl, hb⟩; have n0_ := Aside0.mk (Kd.V_below (G.kV HO890.out) hb); have n1_ := Aside0.mk (Kd.N_below (G.kN HO893.out) hb); have n2_ := Aside0.mk (Kd.N_below (G.kN HO896.out) hb); have n3_ := Aside0.mk (below_step G.bel hb); clear HO890; clear HO893; clear HO896; clear HB; have HO890 := n0_; have HO893 := n1_; have HO896 := n2_; have HB := n3_; clear n0_ n1_ n2_ n3_; (try clear hb); (try clear hb2); (try clear hk); (try clear hi)) | (go_at_call 85; (with_reducible refine (spec_IsLyndon.calls k _ _ t888 t899 _ ?side1 ?side2 A14.out).mono ?_); (case side1 => repeat (first | exact (Kd.V_reads' HO890.out).2.2 | (with_reducible refine Kd.C_alloc ?_ _) | (with_reducible refine Kd.C_drewN ?_ _) | (with_reducible refine Kd.C_drew ?_))); (case side2 => exact (Kd.V_reads' HO890.out).2.1); rintro e w' ⟨rfl, ⟨nd, rfl⟩⟩) | (go_at_call 86; (with_reducible refine (impl_LeastConjugate.calls k _ _ t888 t900 _ ?side1 ?side2 A20.out).mono ?_); (case side1 => repeat (first | exact (Kd.V_reads' HO890.out).2.2 | (with_reducible refine Kd.C_alloc ?_ _) | (with_reducible refine Kd.C_drewN ?_ _) | (with_reducible refine Kd.C_drew ?_))); (case side2 => exact (Kd.V_reads' HO890.out).2.1); rintro e w31 ⟨v901, rfl, ho0, hb⟩; have n0_ := Aside0.mk (Kd.V_elder' (G.kV HO890.out) (Kd.R_base ho0) hb); have n1_ := Aside0.mk (Kd.N_elder' (G.kN HO893.out) (Kd.R_base ho0) hb); have n2_ := Aside0.mk (Kd.N_elder' (G.kN HO896.out) (Kd.R_base ho0) hb); have n3_ := Aside0.mk (Kd.R_lower ho0 (below_size G.bel)); have n4_ := Aside0.mk (below_step G.bel hb); clear HO890; clear HO893; clear HO896; clear HB; have HO890 := n0_; have HO893 := n1_; have HO896 := n2_; have HO902 := n3_; have HB := n4_; clear n0_ n1_ n2_ n3_ n4_; (try clear hb); (try clear hb2); (try clear hk); (try clear hi); (try clear ho0)) | (go_at_call 87; (with_reducible refine (spec_LeastConjugate.calls k _ _ t888 t903 _ ?side1 ?side2 A21.out).mono ?_); (case side1 => repeat (first | exact (Kd.V_reads' HO890.out).2.2 | (with_reducible refine Kd.C_alloc ?_ _) | (with_reducible refine Kd.C_drewN ?_ _) | (with_reducible refine Kd.C_drew ?_))); (case side2 => exact (Kd.V_reads' HO890.out).2.1); rintro e w32 ⟨v904, rfl, ho0, hb⟩; have n0_ := Aside0.mk (Kd.V_below (G.kV HO890.out) hb); have n1_ := Aside0.mk (Kd.N_below (G.kN HO893.out) hb); have n2_ := Aside0.mk (Kd.N_below (G.kN HO896.out) hb); have n3_ := Aside0.mk (Kd.R_below (G.kR HO902.out) hb); have n4_ := Aside0.mk (Kd.V_lower (Kd.V_mono (ok' := fun k_ => some k_ ≠ (.slice Ao28 t891.length co28 : Value).ownBlock ∧ some k_ ≠ (.slice Ao29 t894.length co29 : Value).ownBlock ∧ some k_ ≠ (v901 : Value).ownBlock) ho0 (fun k_ hk_ => ⟨(Kd.fresh' (Kd.N_lt (G.kN HO893.out)) k_ hk_), (Kd.fresh' (Kd.N_lt (G.kN HO896.out)) k_ hk_), (Kd.fresh' (Kd.R_lt (G.kR HO902.out)) k_ hk_)⟩)) (below_size G.bel)); have n5_ := Aside0.mk (below_step G.bel hb); clear HO890; clear HO893; clear HO896; clear HO902; clear HB; have HO890 := n0_; have HO893 := n1_; have HO896 := n2_; have HO902 := n3_; have HO905 := n4_; have HB := n5_; clear n0_ n1_ n2_ n3_ n4_ n5_; (try clear hb); (try clear hb2); (try clear hk); (try clear hi); (try clear ho0); obtain ⟨Ao33, co33, eo33⟩ := Kd.R_slice HO902.out; subst eo33; obtain ⟨Ao34, co34, eo34⟩ := Kd.V_slice HO905.out; subst eo34) | (go_at_call 51; (with_reducible refine (laws_sameInts.calls k _ _ t900 _ _ t903 true _ ?side1 ?side2 ?side3 ?side4 A22.out).mono ?_); (case side1 => repeat (first | exact (Kd.R_reads' HO902.out).2.2 | (with_reducible refine Kd.C_alloc ?_ _) | (with_reducible refine Kd.C_drewN ?_ _) | (with_reducible refine Kd.C_drew ?_))); (case side2 => exact (Kd.R_reads' HO902.out).2.1); (case side3 => repeat (first | exact (Kd.V_reads' HO905.out).2.2 | (with_reducible refine Kd.C_alloc ?_ _) | (with_reducible refine Kd.C_drewN ?_ _) | (with_reducible refine Kd.C_drew ?_))); (case side4 => exact (Kd.V_reads' HO905.out).2.1); rintro e w' ⟨rfl, ⟨nd, rfl⟩⟩) | (go_at_call 16; (with_reducible refine (impl_ConjugatesOf.calls k _ _ t888 t907 _ ?side1 ?side2 A24.out).mono ?_); (case side1 => repeat (first | exact (Kd.V_reads' HO890.out).2.2 | (with_reducible refine Kd.C_alloc ?_ _) | (with_reducible refine Kd.C_drewN ?_ _) | (with_reducible refine Kd.C_drew ?_))); (case side2 => exact (Kd.V_reads' HO890.out).2.1); rintro e w35 ⟨v908, rfl, ho0, hb⟩; have n0_ := Aside0.mk (Kd.V_elder' (G.kV HO890.out) (Kd.S_base ho0) hb); have n1_ := Aside0.mk (Kd.N_elder' (G.kN HO893.out) (Kd.S_base ho0) hb); have n2_ := Aside0.mk (Kd.N_elder' (G.kN HO896.out) (Kd.S_base ho0) hb); have n3_ := Aside0.mk (Kd.R_below (G.kR HO902.out) hb); have n4_ := Aside0.mk (Kd.V_elder' (G.kV HO905.out) (Kd.S_base ho0) hb); have n5_ := Aside0.mk (Kd.N_lower (Kd.N_mono (ok' := fun k_ => some k_ ≠ (.slice Ao28 t891.length co28 : Value).ownBlock ∧ some k_ ≠ (.slice Ao29 t894.length co29 : Value).ownBlock ∧ some k_ ≠ (.slice Ao33 t900.length co33 : Value).ownBlock) (Kd.S_N (Kd.S_bound ho0)) (fun k_ hk_ => ⟨(Kd.fresh' (Kd.N_lt (G.kN HO893.out)) k_ hk_.2.1), (Kd.fresh' (Kd.N_lt (G.kN HO896.out)) k_ hk_.2.1), (Kd.fresh' (Kd.R_lt (G.kR HO902.out)) k_ hk_.2.1)⟩)) (below_size G.bel)); have n6_ := Aside0.mk (below_step G.bel hb); clear HO890; clear HO893; clear HO896; clear HO902; clear HO905; clear HB; have HO890 := n0_; have HO893 := n1_; have HO896 := n2_; have HO902 := n3_; have HO905 := n4_; have HO909 := n5_; have HB := n6_; clear n0_ n1_ n2_ n3_ n4_ n5_ n6_; (try clear hb); (try clear hb2); (try clear hk); (try clear hi); (try clear ho0)) | (go_at_call 14; (with_reducible refine (spec_ConjugatesOf.calls k _ _ t888 t910 _ ?side1 ?side2 A25.out).mono ?_); (case side1 => repeat (first | exact (Kd.V_reads' HO890.out).2.2 | (with_reducible refine Kd.C_alloc ?_ _) | (with_reducible refine Kd.C_drewN ?_ _) | (with_reducible refine Kd.C_drew ?_))); (case side2 => exact (Kd.V_reads' HO890.out).2.1); rintro e w36 ⟨v911, rfl, ho0, hb⟩; have n0_ := Aside0.mk (Kd.V_elder' (G.kV HO890.out) (Kd.N_base ho0) hb); have n1_ := Aside0.mk (Kd.N_elder' (G.kN HO893.out) (Kd.N_base ho0) hb); have n2_ := Aside0.mk (Kd.N_elder' (G.kN HO896.out) (Kd.N_base ho0) hb); have n3_ := Aside0.mk (Kd.R_below (G.kR HO902.out) hb); have n4_ := Aside0.mk (Kd.V_elder' (G.kV HO905.out) (Kd.N_base ho0) hb); have n5_ := Aside0.mk (Kd.N_elder' (G.kN HO909.out) (Kd.N_base ho0) hb); have n6_ := Aside0.mk (Kd.N_lower (Kd.N_mono (ok' := fun k_ => some k_ ≠ (.slice Ao28 t891.length co28 : Value).ownBlock ∧ some k_ ≠ (.slice Ao29 t894.length co29 : Value).ownBlock ∧ some k_ ≠ (.slice Ao33 t900.length co33 : Value).ownBlock ∧ some k_ ≠ (v908 : Value).ownBlock) ho0 (fun k_ hk_ => ⟨(Kd.fresh' (Kd.N_lt (G.kN HO893.out)) k_ hk_), (Kd.fresh' (Kd.N_lt (G.kN HO896.out)) k_ hk_), (Kd.fresh' (Kd.R_lt (G.kR HO902.out)) k_ hk_), (Kd.fresh' (Kd.N_lt (G.kN HO909.out)) k_ hk_)⟩)) (below_size G.bel)); have n7_ := Aside0.mk (below_step G.bel hb); clear HO890; clear HO893; clear HO896; clear HO902; clear HO905; clear HO909; clear HB; have HO890 := n0_; have HO893 := n1_; have HO896 := n2_; have HO902 := n3_; have HO905 := n4_; have HO909 := n5_; have HO912 := n6_; have HB := n7_; clear n0_ n1_ n2_ n3_ n4_ n5_ n6_ n7_; (try clear hb); (try clear hb2); (try clear hk); (try clear hi); (try clear ho0); obtain ⟨Ao37, co37, eo37⟩ := Kd.N_slice HO909.out; subst eo37; obtain ⟨Ao38, co38, eo38⟩ := Kd.N_slice HO912.out; subst eo38) | (go_at_call 69; (with_reducible refine (laws_sameWords.calls k _ _ t907 _ _ t910 t913 _ ?side1 ?side2 ?side3 ?side4 A26.out).mono ?_); (case side1 => repeat (first | exact (Kd.N_reads' HO909.out).2.2 | (with_reducible refine Kd.C_alloc ?_ _) | (with_reducible refine Kd.C_drewN ?_ _) | (with_reducible refine Kd.C_drew ?_))); (case side2 => exact (Kd.N_reads' HO909.out).2.1); (case side3 => repeat (first | exact (Kd.N_reads' HO912.out).2.2 | (with_reducible refine Kd.C_alloc ?_ _) | (with_reducible refine Kd.C_drewN ?_ _) | (with_reducible refine Kd.C_drew ?_))); (case side4 => exact (Kd.N_reads' HO912.out).2.1); rintro e w' ⟨rfl, ⟨nd, rfl⟩⟩))
      go_meet
      case rel => exact ⟨_, (!t913), G.tr, H', ⟨by first | omega | exact Nat.le_refl _⟩, ⟨by (with_reducible repeat (first | apply Kd.V_alloc | apply Kd.V_drewN | apply Kd.V_drew)); exact Kd.V_mono HO890.out (fun _ hk => hk.1.1.1.1.2)⟩, ⟨by (with_reducible repeat (first | apply Kd.N_alloc | apply Kd.N_drewN | apply Kd.N_drew)); exact Kd.N_mono HO893.out (fun _ hk => trivial)⟩, ⟨G.bel⟩⟩
     ·replace c23 := Bool.eq_false_iff.mpr c23
      subst c23
      rw [if_neg (show ¬ (false = true) by decide)] at H
      exact absurd (H.trans (congrArg some HTrue_.out)) (laws_FnLyndon.j0_no _ _ _ _)
   ·replace c12 := Bool.eq_false_iff.mpr c12
    subst c12
    rw [if_neg (show ¬ (false = true) by decide)] at H
    exact absurd (H.trans (congrArg some HTrue_.out)) (laws_FnLyndon.j0_no _ _ _ _)
  case rest => as_aux_lemma =>
   clear HC6
   try clear c1; try clear c2; try clear p2; try clear c3; try clear c4; try clear c6; try clear c8; try clear c12; try clear c13; try clear c15; try clear c15b0; try clear c15b1; try clear c15b2; try clear c23; try clear c41
   obtain ⟨kq, x53_5, rfl, HA, HJ5, HO_3, HO_4, HB⟩ := hcut
   cases kq with
   | zero => exact absurd HA.out (by simp [laws_FnLyndon.j0])
   | succ kj5 =>
    have H := HA.out
    clear HA
    simp only [laws_FnLyndon.j0] at H
    by_cases c50 : x53_5 = true
    ·subst c50
     rw [if_pos rfl] at H
     exact absurd ((Option.some.inj H).trans HTrue_.out) (by decide)
    ·replace c50 := Bool.eq_false_iff.mpr c50
     subst c50
     rw [if_neg (show ¬ (false = true) by decide)] at H
     obtain ⟨y914, hy914⟩ : ∃ y_ : List Int, y_ = (([] : List Int)) := ⟨_, rfl⟩
     replace H : (laws_FnLyndon.l0 kj5 l0 t888 t891 y914 0) = some r := by first | (rw [hy914]; with_reducible exact H) | (have H2_ := (Option.bind_some _ _).symm.trans H; rw [hy914]; with_reducible exact H2_) | (have H2_ := (Option.bind_some _ _).symm.trans H; with_reducible exact H2_) | with_reducible exact H | (rw [hy914]; exact H) | exact H
     have Ny914 := Aside0.mk hy914
     clear hy914
     have H' := Aside0.mk H
     clear H
     go_wp2_with (first | ((with_reducible refine gate_dst (N := 54) rfl ?_); (try (refine gate_guard (by rfl) ?_; dsimp only)); refine Kd.R_lit (Kd.int .i64) _ 3 ?hg (N := 54) ?hd (xs := ([] : List Int)) (inner := []) (ok := fun _ => True) (okp := fun _ => True) ?hr ?hp (fun _ hk => hk) trivial (Below.refl _ _) (Nat.le_refl _) (by simp) ?_; (case hd => rfl); (case hg => rfl); (case hr => first | (go_simp; done) | (go_simp; rfl)); (case hp => exact (Reps.none _ _)); intro v915 w51 ho52 hb hg_ hnew_; clear hg_ hnew_; (first | rw [← Ny914.out] at ho52 | (simp only [Int.reduceToNat] at ho52; rw [← Ny914.out] at ho52)); have n0_ := Aside0.mk (Kd.V_elder' (G.kV HO_3.out) (Kd.R_base ho52) hb); have n1_ := Aside0.mk (Kd.N_elder' (G.kN HO_4.out) (Kd.R_base ho52) hb); have n2_ := Aside0.mk (Kd.R_lower ho52 (below_size G.bel)); have n3_ := Aside0.mk (below_step G.bel hb); clear HO_3; clear HO_4; clear HB; have HO_3 := n0_; have HO_4 := n1_; have HO916 := n2_; have HB := n3_; clear n0_ n1_ n2_ n3_; clear hb ho52))
     go_loopg [5, 6] kj5 (fun kq v5 v6 w' => ∃ (x5_2 : List Int) (x6_2 : Int), v6 = .int .i64 x6_2 ∧ Aside0 (laws_FnLyndon.l0 kq l0 t888 t891 x5_2 x6_2 = some r) ∧ Aside0 (kq ≤ kj5) ∧ Aside0 (Kd.V (Kd.int .i64) 3 w' w.heap.size (fun k_ => some k_ ≠ (v892 : Value).ownBlock ∧ some k_ ≠ (v5 : Value).ownBlock) (.slice Ao8 t888.length co8) t888) ∧ Aside0 (Kd.N (Kd.slice 3 (Kd.int .i64)) 22 w' w.heap.size (fun k_ => some k_ ≠ (v5 : Value).ownBlock) v892 t891) ∧ Aside0 (Kd.R (Kd.int .i64) 3 w' w.heap.size (fun _ => True) v5 x5_2) ∧ Aside0 (Below w.heap.size w w'))
     case atStart => exact ⟨(y914), (0), G.tr, H', ⟨Nat.le_refl _⟩, ⟨G.kV HO_3.out⟩, ⟨by (with_reducible repeat (first | apply Kd.N_alloc | apply Kd.N_drewN | apply Kd.N_drew)); exact Kd.N_mono HO_4.out (fun _ hk => hk.2)⟩, ⟨G.kR HO916.out⟩, ⟨G.bel⟩⟩
     case round => as_aux_lemma =>
      clear H'
      try clear c1; try clear c2; try clear p2; try clear c3; try clear c4; try clear c5; try clear c6; try clear c8; try clear c12; try clear c13; try clear c15; try clear c15b0; try clear c15b1; try clear c15b2; try clear c23; try clear c41; try clear c50; try clear p2
      obtain ⟨x5_2, x6_2, rfl, HA, HK2, HO_3, HO_4, HO_5, HB⟩ := hrel
      cases gk with
      | zero => exact absurd HA.out (by simp [laws_FnLyndon.l0])
      | succ k2 =>
       have H := HA.out
       clear HA
       simp only [laws_FnLyndon.l0] at H
       by_cases c53 : x6_2 < (t891.length : Int)
       ·rw [if_pos c53] at H
        have c53b0 : decide (x6_2 < (t891.length : Int)) = true := decide_eq_true c53
        clear c53
        by_cases c54 : 0 ≤ x6_2
        ·rw [if_pos c54] at H
         have c54b0 : decide (0 ≤ x6_2) = true := decide_eq_true c54
         clear c54
         by_cases c55 : x5_2.length + (rd_L1 t891 x6_2).length < 17592186044416
         ·rw [if_pos c55] at H
          have LMc55 := Aside0.mk c55
          clear c55
          obtain ⟨y918, hy918⟩ : ∃ y_ : List Int, y_ = (x5_2 ++ (rd_L1 t891 x6_2)) := ⟨_, rfl⟩
          replace H : ((impl_IsLyndon.f k2 (rd_L1 t891 x6_2)).bind fun t922 => (if t922 = true then (if x6_2 > 0 then (if 0 ≤ (wrap64 (x6_2 - 1)) then (if (wrap64 (x6_2 - 1)) < (t891.length : Int) then ((spec_CompareWords.f k2 (rd_L1 t891 (wrap64 (x6_2 - 1))) (rd_L1 t891 x6_2)).bind fun t925 => (if t925 < 0 then (some false) else (laws_FnLyndon.l0 k2 l0 t888 t891 y918 (wrap64 (x6_2 + 1))))) else (none)) else (none)) else (laws_FnLyndon.l0 k2 l0 t888 t891 y918 (wrap64 (x6_2 + 1)))) else (some false))) = some r := by first | (rw [hy918]; with_reducible exact H) | (have H2_ := (Option.bind_some _ _).symm.trans H; rw [hy918]; with_reducible exact H2_) | (have H2_ := (Option.bind_some _ _).symm.trans H; with_reducible exact H2_) | with_reducible exact H | (rw [hy918]; exact H) | exact H
          have Ny918 := Aside0.mk hy918
          clear hy918
          obtain ⟨t922, A56, H⟩ := G.bx H
          by_cases c57 : t922 = true
          ·subst c57
           rw [if_pos rfl] at H
           by_cases c58 : x6_2 > 0
           ·rw [if_pos c58] at H
            have c58b0 : decide (0 < x6_2) = true := decide_eq_true c58
            clear c58
            obtain ⟨ji59, hji59⟩ : ∃ j_ : Int, (wrap64 (x6_2 - 1)) = j_ := ⟨_, rfl⟩
            replace H : (if 0 ≤ (ji59) then (if (ji59) < (t891.length : Int) then ((spec_CompareWords.f k2 (rd_L1 t891 (ji59)) (rd_L1 t891 x6_2)).bind fun t925 => (if t925 < 0 then (some false) else (laws_FnLyndon.l0 k2 l0 t888 t891 y918 (wrap64 (x6_2 + 1))))) else (none)) else (none)) = some r := by first | (rw [hji59] at H; exact H) | (simp only [hji59] at H ⊢; exact H)
            (try rw [hji59] at A56)
            have hji59w : (IntKind.i64.wrap (x6_2 - 1)) = ji59 := (i64_w _).trans hji59
            by_cases c60 : 0 ≤ (ji59)
            ·rw [if_pos c60] at H
             have c60b0 : decide (0 ≤ (ji59)) = true := decide_eq_true c60
             clear c60
             by_cases c61 : (ji59) < (t891.length : Int)
             ·rw [if_pos c61] at H
              have c61b0 : decide ((ji59) < (t891.length : Int)) = true := decide_eq_true c61
              clear c61
              obtain ⟨t925, A62, H⟩ := G.bx H
              by_cases c63 : t925 < 0
              ·rw [if_pos c63] at H
               have c63b0 : decide (t925 < 0) = true := decide_eq_true c63
               clear c63
               exact absurd ((Option.some.inj H).trans HTrue_.out) (by decide)
              ·rw [if_neg c63] at H
               have c63b0 : decide (t925 < 0) = false := decide_eq_false c63
               clear c63
               have H' := Aside0.mk H
               clear H
               obtain ⟨Ao68, co68, eo68⟩ := Kd.N_slice HO_4.out
               subst eo68
               have p917 : 0 ≤ (x6_2 : Int) := G.odt
               have q917 : x6_2 < (t891.length : Int) := G.odt
               obtain ⟨ad917, A917_0, c917_0, e917, hx917_0, hl917_0, hi917_0⟩ := at_L1 (Kd.N_reads' HO_4.out).2.2 x6_2 p917 q917
               cases e917
               obtain ⟨ce917, hce917, hMe917, hcc917⟩ := Kd.N_get HO_4.out [] x6_2 p917 (by first | exact q917 | exact G.odt | (have e_ := (Kd.N_reads' HO_4.out).1; omega))
               obtain ⟨ua917_0, uc917_0, rfl, ul917_0, ge917_0⟩ := Kd.FK_slice_open hMe917
               have hv917_0 := hcc917 0 _ rfl
               rw [Nat.add_zero, show ((Kd.slice 3 (Kd.int .i64))).sz = 1 from rfl, Nat.mul_one] at hv917_0
               replace hv917_0 := Option.some.inj (hv917_0.symm.trans hx917_0)
               injection hv917_0 with hva_ hvn_ hvc_
               rw [hva_] at ge917_0
               rw [hvc_] at ul917_0
               have HL917_0 := Aside0.mk (show Kd.V (Kd.int .i64) 3 _ w.heap.size _ _ (rd_L1 t891 x6_2) from Kd.V_mk ul917_0 ge917_0)
               clear hva_ hvn_ hvc_ ge917_0 ul917_0
               clear hcc917 hce917
               have HR917_0 := Aside0.mk hi917_0
               have HC917_0 := Aside0.mk hl917_0
               clear hi917_0 hl917_0
               replace p917 := eq_true p917
               replace q917 := eq_true q917
               try go_wp2_with (first | ((with_reducible refine gate_builtin (b := .append) (xs := #[.tmp 61, .tmp 65]) rfl ?_); (try (refine gate_guard (by rfl) ?_; dsimp only)); at_builtin; refine Kd.R_append_rows (Kd.int .i64) (w0 := w) w.heap.size rfl (.tmp 61) (.tmp 65) 22 3 (.int .i64 0) 8 rfl Try.underlying22 info3 rfl (by decide) (by omega) u5 x5_2 (rd_L1 t891 x6_2) _ _ _ (fun _ => True) (fun _ => False) rfl rfl ?aO ?aR (fun _ _ h => h) (fun _ h => h.elim) ?aF ?aB ?aS ?aL ?_; (case aR => repeat (first | exact (by repeat (first | (with_reducible exact HR917_0.out) | (with_reducible refine Kd.C_alloc ?_ _) | (with_reducible refine Kd.C_drewN ?_ _) | (with_reducible refine Kd.C_drew ?_) | exact HR917_0.out)) | (with_reducible refine Kd.C_alloc ?_ _) | (with_reducible refine Kd.C_drewN ?_ _) | (with_reducible refine Kd.C_drew ?_))); (case aB => exact G.bel); (case aF => exact (fun _ _ => trivial)); (case aO => exact (G.kR HO_5.out)); (case aS => exact (below_size G.bel)); (case aL => have := LMc55.out; omega); intro v919 w69 ho hb hg hat; rw [← Ny918.out] at ho; have n0_ := Aside0.mk (Kd.V_afterv (ok := (fun k_ => some k_ ≠ (.slice (some ad917) t891.length co68 : Value).ownBlock)) (G.kV HO_3.out) hg hat); have n1_ := Aside0.mk (Kd.N_afterv (ok := (fun _ => True)) (by (with_reducible repeat (first | apply Kd.N_alloc | apply Kd.N_drewN | apply Kd.N_drew)); exact Kd.N_mono HO_4.out (fun _ hk => ⟨trivial, hk⟩)) hg hat); have n2_ := Aside0.mk (Kd.V_afterv (ok := (fun k_ => some k_ ≠ (.slice (some ad917) t891.length co68 : Value).ownBlock)) (by (with_reducible repeat (first | apply Kd.V_alloc | apply Kd.V_drewN | apply Kd.V_drew)); exact Kd.V_mono HL917_0.out (fun _ hk => ⟨hk.2, hk.1⟩)) hg hat); have n3_ := Aside0.mk (hb); have n4_ := Aside0.mk (ho); clear HO_3; clear HO_4; clear HL917_0; clear HB; clear HO_5; have HO_3 := n0_; have HO_4 := n1_; have HL917_0 := n2_; have HB := n3_; have HO920 := n4_; clear n0_ n1_ n2_ n3_ n4_; clear ho hb hg hat))
               have n0_ := Aside0.mk (Kd.V_drew HO_3.out)
               have n1_ := Aside0.mk (Kd.N_drew HO_4.out)
               have n2_ := Aside0.mk (Kd.V_drew HL917_0.out)
               have n3_ := Aside0.mk (Kd.R_drew HO920.out)
               have n4_ := Aside0.mk (below_drew1 HB.out)
               clear HO_3
               clear HO_4
               clear HL917_0
               clear HO920
               clear HB
               have HO_3 := n0_
               have HO_4 := n1_
               have HL917_0 := n2_
               have HO920 := n3_
               have HB := n4_
               clear n0_ n1_ n2_ n3_ n4_
               have p921 : 0 ≤ (x6_2 : Int) := G.odt
               have q921 : x6_2 < (t891.length : Int) := G.odt
               obtain ⟨ad921, A921_0, c921_0, e921, hx921_0, hl921_0, hi921_0⟩ := at_L1 (Kd.N_reads' HO_4.out).2.2 x6_2 p921 q921
               obtain rfl : ad917 = ad921 := (by injection e921)
               obtain ⟨ce921, hce921, hMe921, hcc921⟩ := Kd.N_get HO_4.out [] x6_2 p921 (by first | exact q921 | exact G.odt | (have e_ := (Kd.N_reads' HO_4.out).1; omega))
               obtain ⟨ua921_0, uc921_0, rfl, ul921_0, ge921_0⟩ := Kd.FK_slice_open hMe921
               have hv921_0 := hcc921 0 _ rfl
               rw [Nat.add_zero, show ((Kd.slice 3 (Kd.int .i64))).sz = 1 from rfl, Nat.mul_one] at hv921_0
               replace hv921_0 := Option.some.inj (hv921_0.symm.trans hx921_0)
               injection hv921_0 with hva_ hvn_ hvc_
               rw [hva_] at ge921_0
               rw [hvc_] at ul921_0
               have HL921_0 := Aside0.mk (show Kd.V (Kd.int .i64) 3 _ w.heap.size _ _ (rd_L1 t891 x6_2) from Kd.V_mk ul921_0 ge921_0)
               clear hva_ hvn_ hvc_ ge921_0 ul921_0
               clear hcc921 hce921
               have HR921_0 := Aside0.mk hi921_0
               have HC921_0 := Aside0.mk hl921_0
               clear hi921_0 hl921_0
               replace p921 := eq_true p921
               replace q921 := eq_true q921
               have p923 : 0 ≤ ((ji59) : Int) := G.odt
               have q923 : (ji59) < (t891.length : Int) := G.odt
               obtain ⟨ad923, A923_0, c923_0, e923, hx923_0, hl923_0, hi923_0⟩ := at_L1 (Kd.N_reads' HO_4.out).2.2 (ji59) p923 q923
               obtain rfl : ad917 = ad923 := (by injection e923)
               obtain ⟨ce923, hce923, hMe923, hcc923⟩ := Kd.N_get HO_4.out [] (ji59) p923 (by first | exact q923 | exact G.odt | (have e_ := (Kd.N_reads' HO_4.out).1; omega))
               obtain ⟨ua923_0, uc923_0, rfl, ul923_0, ge923_0⟩ := Kd.FK_slice_open hMe923
               have hv923_0 := hcc923 0 _ rfl
               rw [Nat.add_zero, show ((Kd.slice 3 (Kd.int .i64))).sz = 1 from rfl, Nat.mul_one] at hv923_0
               replace hv923_0 := Option.some.inj (hv923_0.symm.trans hx923_0)
               injection hv923_0 with hva_ hvn_ hvc_
               rw [hva_] at ge923_0
               rw [hvc_] at ul923_0
               have HL923_0 := Aside0.mk (show Kd.V (Kd.int .i64) 3 _ w.heap.size _ _ (rd_L1 t891 (ji59)) from Kd.V_mk ul923_0 ge923_0)
               clear hva_ hvn_ hvc_ ge923_0 ul923_0
               clear hcc923 hce923
               have HR923_0 := Aside0.mk hi923_0
               have HC923_0 := Aside0.mk hl923_0
               clear hi923_0 hl923_0
               replace p923 := eq_true p923
               replace q923 := eq_true q923
               have p924 : 0 ≤ (x6_2 : Int) := G.odt
               have q924 : x6_2 < (t891.length : Int) := G.odt
               obtain ⟨ad924, A924_0, c924_0, e924, hx924_0, hl924_0, hi924_0⟩ := at_L1 (Kd.N_reads' HO_4.out).2.2 x6_2 p924 q924
               obtain rfl : ad917 = ad924 := (by injection e924)
               obtain ⟨ce924, hce924, hMe924, hcc924⟩ := Kd.N_get HO_4.out [] x6_2 p924 (by first | exact q924 | exact G.odt | (have e_ := (Kd.N_reads' HO_4.out).1; omega))
               obtain ⟨ua924_0, uc924_0, rfl, ul924_0, ge924_0⟩ := Kd.FK_slice_open hMe924
               have hv924_0 := hcc924 0 _ rfl
               rw [Nat.add_zero, show ((Kd.slice 3 (Kd.int .i64))).sz = 1 from rfl, Nat.mul_one] at hv924_0
               replace hv924_0 := Option.some.inj (hv924_0.symm.trans hx924_0)
               injection hv924_0 with hva_ hvn_ hvc_
               rw [hva_] at ge924_0
               rw [hvc_] at ul924_0
               have HL924_0 := Aside0.mk (show Kd.V (Kd.int .i64) 3 _ w.heap.size _ _ (rd_L1 t891 x6_2) from Kd.V_mk ul924_0 ge924_0)
               clear hva_ hvn_ hvc_ ge924_0 ul924_0
               clear hcc924 hce924
               have HR924_0 := Aside0.mk hi924_0
               have HC924_0 := Aside0.mk hl924_0
               have ea_ := Option.some.inj (hx921_0.symm.trans hx924_0)
               injection ea_ with ea_ en_ ec_
               subst ea_
               subst ec_
               clear en_
               clear hi924_0 hl924_0
               replace p924 := eq_true p924
               replace q924 := eq_true q924
               refine start_ (n := 23) (S := fun w' => w'.cell? (ad917.add (x6_2).toNat) = some (.slice A921_0 (rd_L1 t891 x6_2).length c921_0) ∧ w'.cell? (ad917.add ((ji59)).toNat) = some (.slice A923_0 (rd_L1 t891 (ji59)).length c923_0) ∧ w'.cell? (ad917.add (x6_2).toNat) = some (.slice A921_0 (rd_L1 t891 x6_2).length c921_0)) (ds := []) #[false, false, false, false, false, false, false, false, false, false, false, false, false, false, false, false, false, false, false, false, false, false, false] (by kernel_rfl) rfl rfl ⟨hx921_0, hx923_0, hx924_0⟩ (fun hHeld => ?_); refine with_tabW laws_FnLyndon.tab12 laws_FnLyndon.bits12 (fun HT_ HW_ => ?_)
               generalize w69.drew = w70 at HO_3 HO_4 HL917_0 HO920 HB HL921_0 HL923_0 HL924_0 HR921_0 HR923_0 HR924_0 hx921_0 hx923_0 hx924_0 hHeld ⊢
               refine pure_ (i := 0) (N := some 67) (v := ?_) (a' := ?_) #[true, false, false, false, false, false, false, false, false, false, false, false, false, false, false, false, false, false, false, false, false, false, false] rfl rfl (any_of HT_.out (by kernel_rfl)) (fun _ _ _ h => h) (Or.inl ⟨by rfl, ?_⟩) ?_ ?_
               rotate_left; (·intro w'; go_simp; with_reducible rfl); rotate_left; (·simp only [Act.put, List.setIfInBounds_toArray, List.set_cons_zero, List.set_cons_succ, i64_w, i32_w]; rfl)
               refine pure_ (i := 1) (N := some 68) (v := ?_) (a' := ?_) #[true, true, false, false, false, false, false, false, false, false, false, false, false, false, false, false, false, false, false, false, false, false, false] rfl rfl (any_of HT_.out (by kernel_rfl)) (fun _ _ _ h => h) (Or.inl ⟨by rfl, ?_⟩) ?_ ?_
               rotate_left; (·intro w'; go_simp; with_reducible rfl); rotate_left; (·simp only [Act.put, List.setIfInBounds_toArray, List.set_cons_zero, List.set_cons_succ, i64_w, i32_w]; rfl)
               refine pure_ (i := 2) (N := some 69) (v := ?_) (a' := ?_) #[true, true, true, false, false, false, false, false, false, false, false, false, false, false, false, false, false, false, false, false, false, false, false] rfl rfl (any_of HT_.out (by kernel_rfl)) (fun _ _ _ h => h) (Or.inl ⟨by rfl, ?_⟩) ?_ ?_
               rotate_left; (·intro w'; go_simp; with_reducible rfl); rotate_left; (·simp only [Act.put, List.setIfInBounds_toArray, List.set_cons_zero, List.set_cons_succ, i64_w, i32_w]; rfl)
               refine take_ (i := 3) (N := some 70) (v := ?_) (a' := ?_) #[true, true, true, true, false, false, false, false, false, false, false, false, false, false, false, false, false, false, false, false, false, false, false] rfl rfl (take_ofW HT_.out HW_.out (by kernel_rfl)) (fun _ _ _ h => h) (Or.inl ⟨by rfl, ?_⟩) hHeld ?_ ?_
               rotate_left; (·rintro w' ⟨s0, s1, s2⟩; go_simp; with_reducible rfl); rotate_left; (·simp only [Act.put, List.setIfInBounds_toArray, List.set_cons_zero, List.set_cons_succ, i64_w, i32_w]; rfl)
               refine one_ (i := 4) (N := some 71) #[true, true, true, true, true, false, false, false, false, false, false, false, false, false, false, false, false, false, false, false, false, false, false] rfl rfl (one_of HT_.out (by kernel_rfl)) (by decide) (fun K hK => ?_)
               refine goes_ Try.func84 (by kernel_rfl) rfl #[.slice A921_0 (rd_L1 t891 x6_2).length c921_0] (by rfl) rfl rfl G.ar ?_
               with_reducible refine (impl_IsLyndon.calls k2 _ _ (rd_L1 t891 x6_2) true _ ?side1 ?side2 A56.out).mono ?_
               (case side1 => repeat (first | exact (by repeat (first | (with_reducible exact HR921_0.out) | (with_reducible refine Kd.C_alloc ?_ _) | (with_reducible refine Kd.C_drewN ?_ _) | (with_reducible refine Kd.C_drew ?_) | exact HR921_0.out)) | (with_reducible refine Kd.C_alloc ?_ _) | (with_reducible refine Kd.C_drewN ?_ _) | (with_reducible refine Kd.C_drew ?_)))
               (case side2 => exact HC921_0.out)
               rintro e w71 ⟨rfl, hb⟩
               have HS0_ := (hb.cell (World.block_lt_of_cell? _ _ (hHeld.1))).trans (hHeld.1)
               have HS1_ := (hb.cell (World.block_lt_of_cell? _ _ (hHeld.2.1))).trans (hHeld.2.1)
               have HS2_ := (hb.cell (World.block_lt_of_cell? _ _ (hHeld.2.2))).trans (hHeld.2.2)
               refine ⟨_, rfl, ?_⟩
               have n0_ := Aside0.mk (Kd.V_below (G.kV HO_3.out) hb)
               have n1_ := Aside0.mk (Kd.N_below (G.kN HO_4.out) hb)
               have n2_ := Aside0.mk (Kd.V_below (G.kV HL917_0.out) hb)
               have n3_ := Aside0.mk (Kd.R_below (G.kR HO920.out) hb)
               have n4_ := Aside0.mk (Kd.V_below (G.kV HL921_0.out) hb)
               have n5_ := Aside0.mk (Kd.C_below (by repeat (first | (with_reducible exact HR921_0.out) | (with_reducible refine Kd.C_alloc ?_ _) | (with_reducible refine Kd.C_drewN ?_ _) | (with_reducible refine Kd.C_drew ?_) | exact HR921_0.out)) hb)
               have n6_ := Aside0.mk (below_step G.bel hb)
               have m923_ := Aside0.mk (Kd.C_below (by repeat (first | (with_reducible exact HR923_0.out) | (with_reducible refine Kd.C_alloc ?_ _) | (with_reducible refine Kd.C_drewN ?_ _) | (with_reducible refine Kd.C_drew ?_) | exact HR923_0.out)) hb)
               clear HR923_0
               have HR923_0 := m923_
               clear m923_
               have m924_ := Aside0.mk (Kd.C_below (by repeat (first | (with_reducible exact HR924_0.out) | (with_reducible refine Kd.C_alloc ?_ _) | (with_reducible refine Kd.C_drewN ?_ _) | (with_reducible refine Kd.C_drew ?_) | exact HR924_0.out)) hb)
               clear HR924_0
               have HR924_0 := m924_
               clear m924_
               clear HO_3
               clear HO_4
               clear HL917_0
               clear HO920
               clear HL921_0
               clear HR921_0
               clear HB
               have HO_3 := n0_
               have HO_4 := n1_
               have HL917_0 := n2_
               have HO920 := n3_
               have HL921_0 := n4_
               have HR921_0 := n5_
               have HB := n6_
               clear n0_ n1_ n2_ n3_ n4_ n5_ n6_
               (try clear hb)
               (try clear hb2)
               (try clear hk)
               (try clear hi)
               refine hK.out _ _ ⟨HS0_, HS1_, HS2_⟩ (fun hHeld => ?_)
               clear hK K
               refine norm_ (a' := ?_) ?_ ?_
               rotate_left
               ·show Act.put _ (some 71) _ = _
                simp only [Act.put, List.setIfInBounds_toArray, List.set_cons_zero, List.set_cons_succ, i64_w, i32_w]
                rfl
               refine pure_ (i := 5) (N := some 72) (v := ?_) (a' := ?_) #[true, true, true, true, true, true, false, false, false, false, false, false, false, false, false, false, false, false, false, false, false, false, false] rfl rfl (any_of HT_.out (by kernel_rfl)) (fun _ _ _ h => h) (Or.inl ⟨by rfl, ?_⟩) ?_ ?_
               rotate_left; (·intro w'; go_simp; with_reducible rfl); rotate_left; (·simp only [Act.put, List.setIfInBounds_toArray, List.set_cons_zero, List.set_cons_succ, i64_w, i32_w]; rfl)
               refine pure_ (i := 6) (N := some 73) (v := ?_) (a' := ?_) #[true, true, true, true, true, true, true, false, false, false, false, false, false, false, false, false, false, false, false, false, false, false, false] rfl rfl (any_of HT_.out (by kernel_rfl)) (fun _ _ _ h => h) (Or.inl ⟨by rfl, ?_⟩) ?_ ?_
               rotate_left; (·intro w'; go_simp; with_reducible rfl); rotate_left; (·simp only [Act.put, List.setIfInBounds_toArray, List.set_cons_zero, List.set_cons_succ, i64_w, i32_w]; rfl)
               refine pure_ (i := 7) (N := some 74) (v := ?_) (a' := ?_) #[true, true, true, true, true, true, true, true, false, false, false, false, false, false, false, false, false, false, false, false, false, false, false] rfl rfl (any_of HT_.out (by kernel_rfl)) (fun _ _ _ h => h) (Or.inl ⟨by rfl, ?_⟩) ?_ ?_
               rotate_left; (·intro w'; go_simp; with_reducible rfl); rotate_left; (·simp only [Act.put, List.setIfInBounds_toArray, List.set_cons_zero, List.set_cons_succ, i64_w, i32_w]; rfl)
               refine pure_ (i := 8) (N := some 75) (v := ?_) (a' := ?_) #[true, true, true, true, true, true, true, true, true, false, false, false, false, false, false, false, false, false, false, false, false, false, false] rfl rfl (any_of HT_.out (by kernel_rfl)) (fun _ _ _ h => h) (Or.inl ⟨by rfl, ?_⟩) ?_ ?_
               rotate_left; (·intro w'; go_simp; with_reducible rfl); rotate_left; (·simp only [Act.put, List.setIfInBounds_toArray, List.set_cons_zero, List.set_cons_succ, i64_w, i32_w]; rfl)
               refine pure_ (i := 9) (N := some 76) (v := ?_) (a' := ?_) #[true, true, true, true, true, true, true, true, true, true, false, false, false, false, false, false, false, false, false, false, false, false, false] rfl rfl (any_of HT_.out (by kernel_rfl)) (fun _ _ _ h => h) (Or.inl ⟨by rfl, ?_⟩) ?_ ?_
               rotate_left; (·intro w'; go_simp; with_reducible rfl); rotate_left; (·simp only [Act.put, List.setIfInBounds_toArray, List.set_cons_zero, List.set_cons_succ, i64_w, i32_w]; rfl)
               refine pure_ (i := 10) (N := some 77) (v := ?_) (a' := ?_) #[true, true, true, true, true, true, true, true, true, true, true, false, false, false, false, false, false, false, false, false, false, false, false] rfl rfl (any_of HT_.out (by kernel_rfl)) (fun _ _ _ h => h) (Or.inl ⟨by rfl, ?_⟩) ?_ ?_
               rotate_left; (·intro w'; go_simp; with_reducible rfl); rotate_left; (·simp only [Act.put, List.setIfInBounds_toArray, List.set_cons_zero, List.set_cons_succ, i64_w, i32_w]; rfl)
               refine pure_ (i := 11) (N := some 78) (v := ?_) (a' := ?_) #[true, true, true, true, true, true, true, true, true, true, true, true, false, false, false, false, false, false, false, false, false, false, false] rfl rfl (any_of HT_.out (by kernel_rfl)) (fun _ _ _ h => h) (Or.inl ⟨by rfl, ?_⟩) ?_ ?_
               rotate_left; (·intro w'; go_simp; with_reducible rfl); rotate_left; (·simp only [Act.put, List.setIfInBounds_toArray, List.set_cons_zero, List.set_cons_succ, i64_w, i32_w]; rfl)
               refine pure_ (i := 12) (N := some 79) (v := ?_) (a' := ?_) #[true, true, true, true, true, true, true, true, true, true, true, true, true, false, false, false, false, false, false, false, false, false, false] rfl rfl (any_of HT_.out (by kernel_rfl)) (fun _ _ _ h => h) (Or.inl ⟨by rfl, ?_⟩) ?_ ?_
               rotate_left; (·intro w'; go_simp; with_reducible rfl); rotate_left; (·simp only [Act.put, List.setIfInBounds_toArray, List.set_cons_zero, List.set_cons_succ, i64_w, i32_w]; rfl)
               refine pure_ (i := 13) (N := some 80) (v := ?_) (a' := ?_) #[true, true, true, true, true, true, true, true, true, true, true, true, true, true, false, false, false, false, false, false, false, false, false] rfl rfl (any_of HT_.out (by kernel_rfl)) (fun _ _ _ h => h) (Or.inl ⟨by rfl, ?_⟩) ?_ ?_
               rotate_left; (·intro w'; go_simp; with_reducible rfl); rotate_left; (·simp only [Act.put, List.setIfInBounds_toArray, List.set_cons_zero, List.set_cons_succ, i64_w, i32_w]; rfl)
               refine pure_ (i := 15) (N := some 82) (v := ?_) (a' := ?_) #[true, true, true, true, true, true, true, true, true, true, true, true, true, true, false, true, false, false, false, false, false, false, false] rfl rfl (any_of HT_.out (by kernel_rfl)) (fun _ _ _ h => h) (Or.inl ⟨by rfl, ?_⟩) ?_ ?_
               rotate_left; (·intro w'; go_simp; with_reducible rfl); rotate_left; (·simp only [Act.put, List.setIfInBounds_toArray, List.set_cons_zero, List.set_cons_succ, i64_w, i32_w]; rfl)
               refine pure_ (i := 16) (N := some 83) (v := ?_) (a' := ?_) #[true, true, true, true, true, true, true, true, true, true, true, true, true, true, false, true, true, false, false, false, false, false, false] rfl rfl (any_of HT_.out (by kernel_rfl)) (fun _ _ _ h => h) (Or.inl ⟨by rfl, ?_⟩) ?_ ?_
               rotate_left; (·intro w'; go_simp; with_reducible rfl); rotate_left; (·simp only [Act.put, List.setIfInBounds_toArray, List.set_cons_zero, List.set_cons_succ, i64_w, i32_w]; rfl)
               refine pure_ (i := 17) (N := some 84) (v := ?_) (a' := ?_) #[true, true, true, true, true, true, true, true, true, true, true, true, true, true, false, true, true, true, false, false, false, false, false] rfl rfl (any_of HT_.out (by kernel_rfl)) (fun _ _ _ h => h) (Or.inl ⟨by rfl, ?_⟩) ?_ ?_
               rotate_left; (·intro w'; go_simp; with_reducible rfl); rotate_left; (·simp only [Act.put, List.setIfInBounds_toArray, List.set_cons_zero, List.set_cons_succ, i64_w, i32_w]; rfl)
               refine take_ (i := 14) (N := some 81) (v := ?_) (a' := ?_) #[true, true, true, true, true, true, true, true, true, true, true, true, true, true, true, true, true, true, false, false, false, false, false] rfl rfl (take_ofW HT_.out HW_.out (by kernel_rfl)) (fun _ _ _ h => h) (Or.inl ⟨by rfl, ?_⟩) hHeld ?_ ?_
               rotate_left; (·rintro w' ⟨s0, s1, s2⟩; go_simp; with_reducible rfl); rotate_left; (·simp only [Act.put, List.setIfInBounds_toArray, List.set_cons_zero, List.set_cons_succ, i64_w, i32_w]; rfl)
               refine take_ (i := 18) (N := some 85) (v := ?_) (a' := ?_) #[true, true, true, true, true, true, true, true, true, true, true, true, true, true, true, true, true, true, true, false, false, false, false] rfl rfl (take_ofW HT_.out HW_.out (by kernel_rfl)) (fun _ _ _ h => h) (Or.inl ⟨by rfl, ?_⟩) hHeld ?_ ?_
               rotate_left; (·rintro w' ⟨s0, s1, s2⟩; go_simp; with_reducible rfl); rotate_left; (·simp only [Act.put, List.setIfInBounds_toArray, List.set_cons_zero, List.set_cons_succ, i64_w, i32_w]; rfl)
               refine one_ (i := 19) (N := some 86) #[true, true, true, true, true, true, true, true, true, true, true, true, true, true, true, true, true, true, true, true, false, false, false] rfl rfl (one_of HT_.out (by kernel_rfl)) (by decide) (fun K hK => ?_)
               refine goes_ Try.func79 (by kernel_rfl) rfl #[.slice A923_0 (rd_L1 t891 (ji59)).length c923_0, .slice A921_0 (rd_L1 t891 x6_2).length c921_0] (by rfl) rfl rfl (by (try simp only [List.map_toArray, List.map_cons, List.map_nil]); first | done | (simp only [hji59]; rfl) | rfl | (simp only [List.length_drop, List.length_take]; rfl)) ?_
               with_reducible refine (spec_CompareWords.calls k2 _ _ (rd_L1 t891 (ji59)) _ _ (rd_L1 t891 x6_2) t925 _ ?side1 ?side2 ?side3 ?side4 A62.out).mono ?_
               (case side1 => repeat (first | exact (by repeat (first | (with_reducible exact HR923_0.out) | (with_reducible refine Kd.C_alloc ?_ _) | (with_reducible refine Kd.C_drewN ?_ _) | (with_reducible refine Kd.C_drew ?_) | exact HR923_0.out)) | (with_reducible refine Kd.C_alloc ?_ _) | (with_reducible refine Kd.C_drewN ?_ _) | (with_reducible refine Kd.C_drew ?_)))
               (case side2 => exact HC923_0.out)
               (case side3 => repeat (first | exact (by repeat (first | (with_reducible exact HR924_0.out) | (with_reducible refine Kd.C_alloc ?_ _) | (with_reducible refine Kd.C_drewN ?_ _) | (with_reducible refine Kd.C_drew ?_) | exact HR924_0.out)) | (with_reducible refine Kd.C_alloc ?_ _) | (with_reducible refine Kd.C_drewN ?_ _) | (with_reducible refine Kd.C_drew ?_)))
               (case side4 => exact HC924_0.out)
               rintro e w' ⟨rfl, ⟨nd, rfl⟩⟩
               refine ⟨_, rfl, ?_⟩
               refine hK.out _ _ ⟨hHeld.1, hHeld.2.1, hHeld.2.2⟩ (fun hHeld => ?_)
               clear hK K
               refine norm_ (a' := ?_) ?_ ?_
               rotate_left
               ·show Act.put _ (some 86) _ = _
                simp only [Act.put, List.setIfInBounds_toArray, List.set_cons_zero, List.set_cons_succ, i64_w, i32_w]
                rfl
               refine pure_ (i := 20) (N := some 87) (v := ?_) (a' := ?_) #[true, true, true, true, true, true, true, true, true, true, true, true, true, true, true, true, true, true, true, true, true, false, false] rfl rfl (any_of HT_.out (by kernel_rfl)) (fun _ _ _ h => h) (Or.inl ⟨by rfl, ?_⟩) ?_ ?_
               rotate_left; (·intro w'; go_simp; with_reducible rfl); rotate_left; (·simp only [Act.put, List.setIfInBounds_toArray, List.set_cons_zero, List.set_cons_succ, i64_w, i32_w]; rfl)
               refine pure_ (i := 21) (N := some 88) (v := ?_) (a' := ?_) #[true, true, true, true, true, true, true, true, true, true, true, true, true, true, true, true, true, true, true, true, true, true, false] rfl rfl (any_of HT_.out (by kernel_rfl)) (fun _ _ _ h => h) (Or.inl ⟨by rfl, ?_⟩) ?_ ?_
               rotate_left; (·intro w'; go_simp; with_reducible rfl); rotate_left; (·simp only [Act.put, List.setIfInBounds_toArray, List.set_cons_zero, List.set_cons_succ, i64_w, i32_w]; rfl)
               refine pure_ (i := 22) (N := some 89) (v := ?_) (a' := ?_) #[true, true, true, true, true, true, true, true, true, true, true, true, true, true, true, true, true, true, true, true, true, true, true] rfl rfl (any_of HT_.out (by kernel_rfl)) (fun _ _ _ h => h) (Or.inl ⟨by rfl, ?_⟩) ?_ ?_
               rotate_left; (·intro w'; go_simp; with_reducible rfl); rotate_left; (·simp only [Act.put, List.setIfInBounds_toArray, List.set_cons_zero, List.set_cons_succ, i64_w, i32_w]; rfl)
               refine done_ (done_of HT_.out (by kernel_rfl)) ?_
               try go_wp2
               go_roundg k2
               case measure => have := HJ5.out; have := HK2.out; omega
               case rel => exact ⟨(y918), (wrap64 (x6_2 + 1)), G.tr, H', ⟨by have := HJ5.out; have := HK2.out; omega⟩, ⟨G.kV HO_3.out⟩, ⟨by (with_reducible repeat (first | apply Kd.N_alloc | apply Kd.N_drewN | apply Kd.N_drew)); exact Kd.N_mono HO_4.out (fun _ hk => hk.2)⟩, ⟨G.kR HO920.out⟩, ⟨G.bel⟩⟩
             ·rw [if_neg c61] at H
              exact absurd H (by simp)
            ·rw [if_neg c60] at H
             exact absurd H (by simp)
           ·rw [if_neg c58] at H
            have c58b0 : decide (0 < x6_2) = false := decide_eq_false c58
            clear c58
            have H' := Aside0.mk H
            clear H
            obtain ⟨Ao72, co72, eo72⟩ := Kd.N_slice HO_4.out
            subst eo72
            have p917 : 0 ≤ (x6_2 : Int) := G.odt
            have q917 : x6_2 < (t891.length : Int) := G.odt
            obtain ⟨ad917, A917_0, c917_0, e917, hx917_0, hl917_0, hi917_0⟩ := at_L1 (Kd.N_reads' HO_4.out).2.2 x6_2 p917 q917
            cases e917
            obtain ⟨ce917, hce917, hMe917, hcc917⟩ := Kd.N_get HO_4.out [] x6_2 p917 (by first | exact q917 | exact G.odt | (have e_ := (Kd.N_reads' HO_4.out).1; omega))
            obtain ⟨ua917_0, uc917_0, rfl, ul917_0, ge917_0⟩ := Kd.FK_slice_open hMe917
            have hv917_0 := hcc917 0 _ rfl
            rw [Nat.add_zero, show ((Kd.slice 3 (Kd.int .i64))).sz = 1 from rfl, Nat.mul_one] at hv917_0
            replace hv917_0 := Option.some.inj (hv917_0.symm.trans hx917_0)
            injection hv917_0 with hva_ hvn_ hvc_
            rw [hva_] at ge917_0
            rw [hvc_] at ul917_0
            have HL917_0 := Aside0.mk (show Kd.V (Kd.int .i64) 3 _ w.heap.size _ _ (rd_L1 t891 x6_2) from Kd.V_mk ul917_0 ge917_0)
            clear hva_ hvn_ hvc_ ge917_0 ul917_0
            clear hcc917 hce917
            have HR917_0 := Aside0.mk hi917_0
            have HC917_0 := Aside0.mk hl917_0
            clear hi917_0 hl917_0
            replace p917 := eq_true p917
            replace q917 := eq_true q917
            try go_wp2_with (first | ((with_reducible refine gate_builtin (b := .append) (xs := #[.tmp 61, .tmp 65]) rfl ?_); (try (refine gate_guard (by rfl) ?_; dsimp only)); at_builtin; refine Kd.R_append_rows (Kd.int .i64) (w0 := w) w.heap.size rfl (.tmp 61) (.tmp 65) 22 3 (.int .i64 0) 8 rfl Try.underlying22 info3 rfl (by decide) (by omega) u5 x5_2 (rd_L1 t891 x6_2) _ _ _ (fun _ => True) (fun _ => False) rfl rfl ?aO ?aR (fun _ _ h => h) (fun _ h => h.elim) ?aF ?aB ?aS ?aL ?_; (case aR => repeat (first | exact (by repeat (first | (with_reducible exact HR917_0.out) | (with_reducible refine Kd.C_alloc ?_ _) | (with_reducible refine Kd.C_drewN ?_ _) | (with_reducible refine Kd.C_drew ?_) | exact HR917_0.out)) | (with_reducible refine Kd.C_alloc ?_ _) | (with_reducible refine Kd.C_drewN ?_ _) | (with_reducible refine Kd.C_drew ?_))); (case aB => exact G.bel); (case aF => exact (fun _ _ => trivial)); (case aO => exact (G.kR HO_5.out)); (case aS => exact (below_size G.bel)); (case aL => have := LMc55.out; omega); intro v919 w73 ho hb hg hat; rw [← Ny918.out] at ho; have n0_ := Aside0.mk (Kd.V_afterv (ok := (fun k_ => some k_ ≠ (.slice (some ad917) t891.length co72 : Value).ownBlock)) (G.kV HO_3.out) hg hat); have n1_ := Aside0.mk (Kd.N_afterv (ok := (fun _ => True)) (by (with_reducible repeat (first | apply Kd.N_alloc | apply Kd.N_drewN | apply Kd.N_drew)); exact Kd.N_mono HO_4.out (fun _ hk => ⟨trivial, hk⟩)) hg hat); have n2_ := Aside0.mk (Kd.V_afterv (ok := (fun k_ => some k_ ≠ (.slice (some ad917) t891.length co72 : Value).ownBlock)) (by (with_reducible repeat (first | apply Kd.V_alloc | apply Kd.V_drewN | apply Kd.V_drew)); exact Kd.V_mono HL917_0.out (fun _ hk => ⟨hk.2, hk.1⟩)) hg hat); have n3_ := Aside0.mk (hb); have n4_ := Aside0.mk (ho); clear HO_3; clear HO_4; clear HL917_0; clear HB; clear HO_5; have HO_3 := n0_; have HO_4 := n1_; have HL917_0 := n2_; have HB := n3_; have HO920 := n4_; clear n0_ n1_ n2_ n3_ n4_; clear ho hb hg hat))
            have n0_ := Aside0.mk (Kd.V_drew HO_3.out)
            have n1_ := Aside0.mk (Kd.N_drew HO_4.out)
            have n2_ := Aside0.mk (Kd.V_drew HL917_0.out)
            have n3_ := Aside0.mk (Kd.R_drew HO920.out)
            have n4_ := Aside0.mk (below_drew1 HB.out)
            clear HO_3
            clear HO_4
            clear HL917_0
            clear HO920
            clear HB
            have HO_3 := n0_
            have HO_4 := n1_
            have HL917_0 := n2_
            have HO920 := n3_
            have HB := n4_
            clear n0_ n1_ n2_ n3_ n4_
            have p921 : 0 ≤ (x6_2 : Int) := G.odt
            have q921 : x6_2 < (t891.length : Int) := G.odt
            obtain ⟨ad921, A921_0, c921_0, e921, hx921_0, hl921_0, hi921_0⟩ := at_L1 (Kd.N_reads' HO_4.out).2.2 x6_2 p921 q921
            obtain rfl : ad917 = ad921 := (by injection e921)
            obtain ⟨ce921, hce921, hMe921, hcc921⟩ := Kd.N_get HO_4.out [] x6_2 p921 (by first | exact q921 | exact G.odt | (have e_ := (Kd.N_reads' HO_4.out).1; omega))
            obtain ⟨ua921_0, uc921_0, rfl, ul921_0, ge921_0⟩ := Kd.FK_slice_open hMe921
            have hv921_0 := hcc921 0 _ rfl
            rw [Nat.add_zero, show ((Kd.slice 3 (Kd.int .i64))).sz = 1 from rfl, Nat.mul_one] at hv921_0
            replace hv921_0 := Option.some.inj (hv921_0.symm.trans hx921_0)
            injection hv921_0 with hva_ hvn_ hvc_
            rw [hva_] at ge921_0
            rw [hvc_] at ul921_0
            have HL921_0 := Aside0.mk (show Kd.V (Kd.int .i64) 3 _ w.heap.size _ _ (rd_L1 t891 x6_2) from Kd.V_mk ul921_0 ge921_0)
            clear hva_ hvn_ hvc_ ge921_0 ul921_0
            clear hcc921 hce921
            have HR921_0 := Aside0.mk hi921_0
            have HC921_0 := Aside0.mk hl921_0
            clear hi921_0 hl921_0
            replace p921 := eq_true p921
            replace q921 := eq_true q921
            refine start_ (n := 23) (S := fun w' => w'.cell? (ad917.add (x6_2).toNat) = some (.slice A921_0 (rd_L1 t891 x6_2).length c921_0)) (ds := []) #[false, false, false, false, false, false, false, false, false, false, false, false, false, false, false, false, false, false, false, false, false, false, false] (by kernel_rfl) rfl rfl (hx921_0) (fun hHeld => ?_); refine with_tabW laws_FnLyndon.tab12 laws_FnLyndon.bits12 (fun HT_ HW_ => ?_)
            generalize w73.drew = w74 at HO_3 HO_4 HL917_0 HO920 HB HL921_0 HR921_0 hx921_0 hHeld ⊢
            refine pure_ (i := 0) (N := some 67) (v := ?_) (a' := ?_) #[true, false, false, false, false, false, false, false, false, false, false, false, false, false, false, false, false, false, false, false, false, false, false] rfl rfl (any_of HT_.out (by kernel_rfl)) (fun _ _ _ h => h) (Or.inl ⟨by rfl, ?_⟩) ?_ ?_
            rotate_left; (·intro w'; go_simp; with_reducible rfl); rotate_left; (·simp only [Act.put, List.setIfInBounds_toArray, List.set_cons_zero, List.set_cons_succ, i64_w, i32_w]; rfl)
            refine pure_ (i := 1) (N := some 68) (v := ?_) (a' := ?_) #[true, true, false, false, false, false, false, false, false, false, false, false, false, false, false, false, false, false, false, false, false, false, false] rfl rfl (any_of HT_.out (by kernel_rfl)) (fun _ _ _ h => h) (Or.inl ⟨by rfl, ?_⟩) ?_ ?_
            rotate_left; (·intro w'; go_simp; with_reducible rfl); rotate_left; (·simp only [Act.put, List.setIfInBounds_toArray, List.set_cons_zero, List.set_cons_succ, i64_w, i32_w]; rfl)
            refine pure_ (i := 2) (N := some 69) (v := ?_) (a' := ?_) #[true, true, true, false, false, false, false, false, false, false, false, false, false, false, false, false, false, false, false, false, false, false, false] rfl rfl (any_of HT_.out (by kernel_rfl)) (fun _ _ _ h => h) (Or.inl ⟨by rfl, ?_⟩) ?_ ?_
            rotate_left; (·intro w'; go_simp; with_reducible rfl); rotate_left; (·simp only [Act.put, List.setIfInBounds_toArray, List.set_cons_zero, List.set_cons_succ, i64_w, i32_w]; rfl)
            refine take_ (i := 3) (N := some 70) (v := ?_) (a' := ?_) #[true, true, true, true, false, false, false, false, false, false, false, false, false, false, false, false, false, false, false, false, false, false, false] rfl rfl (take_ofW HT_.out HW_.out (by kernel_rfl)) (fun _ _ _ h => h) (Or.inl ⟨by rfl, ?_⟩) hHeld ?_ ?_
            rotate_left; (·intro w' s0; go_simp; with_reducible rfl); rotate_left; (·simp only [Act.put, List.setIfInBounds_toArray, List.set_cons_zero, List.set_cons_succ, i64_w, i32_w]; rfl)
            refine one_ (i := 4) (N := some 71) #[true, true, true, true, true, false, false, false, false, false, false, false, false, false, false, false, false, false, false, false, false, false, false] rfl rfl (one_of HT_.out (by kernel_rfl)) (by decide) (fun K hK => ?_)
            refine goes_ Try.func84 (by kernel_rfl) rfl #[.slice A921_0 (rd_L1 t891 x6_2).length c921_0] (by rfl) rfl rfl G.ar ?_
            with_reducible refine (impl_IsLyndon.calls k2 _ _ (rd_L1 t891 x6_2) true _ ?side1 ?side2 A56.out).mono ?_
            (case side1 => repeat (first | exact (by repeat (first | (with_reducible exact HR921_0.out) | (with_reducible refine Kd.C_alloc ?_ _) | (with_reducible refine Kd.C_drewN ?_ _) | (with_reducible refine Kd.C_drew ?_) | exact HR921_0.out)) | (with_reducible refine Kd.C_alloc ?_ _) | (with_reducible refine Kd.C_drewN ?_ _) | (with_reducible refine Kd.C_drew ?_)))
            (case side2 => exact HC921_0.out)
            rintro e w75 ⟨rfl, hb⟩
            have HS0_ := (hb.cell (World.block_lt_of_cell? _ _ (hHeld))).trans (hHeld)
            refine ⟨_, rfl, ?_⟩
            have n0_ := Aside0.mk (Kd.V_below (G.kV HO_3.out) hb)
            have n1_ := Aside0.mk (Kd.N_below (G.kN HO_4.out) hb)
            have n2_ := Aside0.mk (Kd.V_below (G.kV HL917_0.out) hb)
            have n3_ := Aside0.mk (Kd.R_below (G.kR HO920.out) hb)
            have n4_ := Aside0.mk (Kd.V_below (G.kV HL921_0.out) hb)
            have n5_ := Aside0.mk (Kd.C_below (by repeat (first | (with_reducible exact HR921_0.out) | (with_reducible refine Kd.C_alloc ?_ _) | (with_reducible refine Kd.C_drewN ?_ _) | (with_reducible refine Kd.C_drew ?_) | exact HR921_0.out)) hb)
            have n6_ := Aside0.mk (below_step G.bel hb)
            clear HO_3
            clear HO_4
            clear HL917_0
            clear HO920
            clear HL921_0
            clear HR921_0
            clear HB
            have HO_3 := n0_
            have HO_4 := n1_
            have HL917_0 := n2_
            have HO920 := n3_
            have HL921_0 := n4_
            have HR921_0 := n5_
            have HB := n6_
            clear n0_ n1_ n2_ n3_ n4_ n5_ n6_
            (try clear hb)
            (try clear hb2)
            (try clear hk)
            (try clear hi)
            refine hK.out _ _ (HS0_) (fun hHeld => ?_)
            clear hK K
            refine norm_ (a' := ?_) ?_ ?_
            rotate_left
            ·show Act.put _ (some 71) _ = _
             simp only [Act.put, List.setIfInBounds_toArray, List.set_cons_zero, List.set_cons_succ, i64_w, i32_w]
             rfl
            refine pure_ (i := 5) (N := some 72) (v := ?_) (a' := ?_) #[true, true, true, true, true, true, false, false, false, false, false, false, false, false, false, false, false, false, false, false, false, false, false] rfl rfl (any_of HT_.out (by kernel_rfl)) (fun _ _ _ h => h) (Or.inl ⟨by rfl, ?_⟩) ?_ ?_
            rotate_left; (·intro w'; go_simp; with_reducible rfl); rotate_left; (·simp only [Act.put, List.setIfInBounds_toArray, List.set_cons_zero, List.set_cons_succ, i64_w, i32_w]; rfl)
            refine pure_ (i := 6) (N := some 73) (v := ?_) (a' := ?_) #[true, true, true, true, true, true, true, false, false, false, false, false, false, false, false, false, false, false, false, false, false, false, false] rfl rfl (any_of HT_.out (by kernel_rfl)) (fun _ _ _ h => h) (Or.inl ⟨by rfl, ?_⟩) ?_ ?_
            rotate_left; (·intro w'; go_simp; with_reducible rfl); rotate_left; (·simp only [Act.put, List.setIfInBounds_toArray, List.set_cons_zero, List.set_cons_succ, i64_w, i32_w]; rfl)
            refine pure_ (i := 7) (N := some 74) (v := ?_) (a' := ?_) #[true, true, true, true, true, true, true, true, false, false, false, false, false, false, false, false, false, false, false, false, false, false, false] rfl rfl (any_of HT_.out (by kernel_rfl)) (fun _ _ _ h => h) (Or.inl ⟨by rfl, ?_⟩) ?_ ?_
            rotate_left; (·intro w'; go_simp; with_reducible rfl); rotate_left; (·simp only [Act.put, List.setIfInBounds_toArray, List.set_cons_zero, List.set_cons_succ, i64_w, i32_w]; rfl)
            refine pure_ (i := 8) (N := some 75) (v := ?_) (a' := ?_) #[true, true, true, true, true, true, true, true, true, false, false, false, false, false, false, false, false, false, false, false, false, false, false] rfl rfl (any_of HT_.out (by kernel_rfl)) (fun _ _ _ h => h) (Or.inl ⟨by rfl, ?_⟩) ?_ ?_
            rotate_left; (·intro w'; go_simp; with_reducible rfl); rotate_left; (·simp only [Act.put, List.setIfInBounds_toArray, List.set_cons_zero, List.set_cons_succ, i64_w, i32_w]; rfl)
            refine pure_ (i := 9) (N := some 76) (v := ?_) (a' := ?_) #[true, true, true, true, true, true, true, true, true, true, false, false, false, false, false, false, false, false, false, false, false, false, false] rfl rfl (any_of HT_.out (by kernel_rfl)) (fun _ _ _ h => h) (Or.inl ⟨by rfl, ?_⟩) ?_ ?_
            rotate_left; (·intro w'; go_simp; with_reducible rfl); rotate_left; (·simp only [Act.put, List.setIfInBounds_toArray, List.set_cons_zero, List.set_cons_succ, i64_w, i32_w]; rfl)
            refine pure_ (i := 10) (N := some 77) (v := undef) (a' := ?_) #[true, true, true, true, true, true, true, true, true, true, true, false, false, false, false, false, false, false, false, false, false, false, false] rfl rfl (any_of HT_.out (by kernel_rfl)) (fun _ _ _ h => h) (Or.inr ⟨by rfl, rfl⟩) ?_ ?_
            rotate_left
            ·simp only [Act.put, List.setIfInBounds_toArray, List.set_cons_zero, List.set_cons_succ, i64_w, i32_w]
             rfl
            refine pure_ (i := 11) (N := some 78) (v := undef) (a' := ?_) #[true, true, true, true, true, true, true, true, true, true, true, true, false, false, false, false, false, false, false, false, false, false, false] rfl rfl (any_of HT_.out (by kernel_rfl)) (fun _ _ _ h => h) (Or.inr ⟨by rfl, rfl⟩) ?_ ?_
            rotate_left
            ·simp only [Act.put, List.setIfInBounds_toArray, List.set_cons_zero, List.set_cons_succ, i64_w, i32_w]
             rfl
            refine pure_ (i := 12) (N := some 79) (v := undef) (a' := ?_) #[true, true, true, true, true, true, true, true, true, true, true, true, true, false, false, false, false, false, false, false, false, false, false] rfl rfl (any_of HT_.out (by kernel_rfl)) (fun _ _ _ h => h) (Or.inr ⟨by rfl, rfl⟩) ?_ ?_
            rotate_left
            ·simp only [Act.put, List.setIfInBounds_toArray, List.set_cons_zero, List.set_cons_succ, i64_w, i32_w]
             rfl
            refine pure_ (i := 13) (N := some 80) (v := undef) (a' := ?_) #[true, true, true, true, true, true, true, true, true, true, true, true, true, true, false, false, false, false, false, false, false, false, false] rfl rfl (any_of HT_.out (by kernel_rfl)) (fun _ _ _ h => h) (Or.inr ⟨by rfl, rfl⟩) ?_ ?_
            rotate_left
            ·simp only [Act.put, List.setIfInBounds_toArray, List.set_cons_zero, List.set_cons_succ, i64_w, i32_w]
             rfl
            refine pure_ (i := 14) (N := some 81) (v := undef) (a' := ?_) #[true, true, true, true, true, true, true, true, true, true, true, true, true, true, true, false, false, false, false, false, false, false, false] rfl rfl (any_of HT_.out (by kernel_rfl)) (fun _ _ _ h => h) (Or.inr ⟨by rfl, rfl⟩) ?_ ?_
            rotate_left
            ·simp only [Act.put, List.setIfInBounds_toArray, List.set_cons_zero, List.set_cons_succ, i64_w, i32_w]
             rfl
            refine pure_ (i := 15) (N := some 82) (v := undef) (a' := ?_) #[true, true, true, true, true, true, true, true, true, true, true, true, true, true, true, true, false, false, false, false, false, false, false] rfl rfl (any_of HT_.out (by kernel_rfl)) (fun _ _ _ h => h) (Or.inr ⟨by rfl, rfl⟩) ?_ ?_
            rotate_left
            ·simp only [Act.put, List.setIfInBounds_toArray, List.set_cons_zero, List.set_cons_succ, i64_w, i32_w]
             rfl
            refine pure_ (i := 16) (N := some 83) (v := undef) (a' := ?_) #[true, true, true, true, true, true, true, true, true, true, true, true, true, true, true, true, true, false, false, false, false, false, false] rfl rfl (any_of HT_.out (by kernel_rfl)) (fun _ _ _ h => h) (Or.inr ⟨by rfl, rfl⟩) ?_ ?_
            rotate_left
            ·simp only [Act.put, List.setIfInBounds_toArray, List.set_cons_zero, List.set_cons_succ, i64_w, i32_w]
             rfl
            refine pure_ (i := 17) (N := some 84) (v := undef) (a' := ?_) #[true, true, true, true, true, true, true, true, true, true, true, true, true, true, true, true, true, true, false, false, false, false, false] rfl rfl (any_of HT_.out (by kernel_rfl)) (fun _ _ _ h => h) (Or.inr ⟨by rfl, rfl⟩) ?_ ?_
            rotate_left
            ·simp only [Act.put, List.setIfInBounds_toArray, List.set_cons_zero, List.set_cons_succ, i64_w, i32_w]
             rfl
            refine pure_ (i := 18) (N := some 85) (v := undef) (a' := ?_) #[true, true, true, true, true, true, true, true, true, true, true, true, true, true, true, true, true, true, true, false, false, false, false] rfl rfl (any_of HT_.out (by kernel_rfl)) (fun _ _ _ h => h) (Or.inr ⟨by rfl, rfl⟩) ?_ ?_
            rotate_left
            ·simp only [Act.put, List.setIfInBounds_toArray, List.set_cons_zero, List.set_cons_succ, i64_w, i32_w]
             rfl
            refine pure_ (i := 19) (N := some 86) (v := undef) (a' := ?_) #[true, true, true, true, true, true, true, true, true, true, true, true, true, true, true, true, true, true, true, true, false, false, false] rfl rfl (any_of HT_.out (by kernel_rfl)) (fun _ _ _ h => h) (Or.inr ⟨by rfl, rfl⟩) ?_ ?_
            rotate_left
            ·simp only [Act.put, List.setIfInBounds_toArray, List.set_cons_zero, List.set_cons_succ, i64_w, i32_w]
             rfl
            refine pure_ (i := 20) (N := some 87) (v := undef) (a' := ?_) #[true, true, true, true, true, true, true, true, true, true, true, true, true, true, true, true, true, true, true, true, true, false, false] rfl rfl (any_of HT_.out (by kernel_rfl)) (fun _ _ _ h => h) (Or.inr ⟨by rfl, rfl⟩) ?_ ?_
            rotate_left
            ·simp only [Act.put, List.setIfInBounds_toArray, List.set_cons_zero, List.set_cons_succ, i64_w, i32_w]
             rfl
            refine pure_ (i := 21) (N := some 88) (v := ?_) (a' := ?_) #[true, true, true, true, true, true, true, true, true, true, true, true, true, true, true, true, true, true, true, true, true, true, false] rfl rfl (any_of HT_.out (by kernel_rfl)) (fun _ _ _ h => h) (Or.inl ⟨by rfl, ?_⟩) ?_ ?_
            rotate_left; (·intro w'; go_simp; with_reducible rfl); rotate_left; (·simp only [Act.put, List.setIfInBounds_toArray, List.set_cons_zero, List.set_cons_succ, i64_w, i32_w]; rfl)
            refine pure_ (i := 22) (N := some 89) (v := ?_) (a' := ?_) #[true, true, true, true, true, true, true, true, true, true, true, true, true, true, true, true, true, true, true, true, true, true, true] rfl rfl (any_of HT_.out (by kernel_rfl)) (fun _ _ _ h => h) (Or.inl ⟨by rfl, ?_⟩) ?_ ?_
            rotate_left; (·intro w'; go_simp; with_reducible rfl); rotate_left; (·simp only [Act.put, List.setIfInBounds_toArray, List.set_cons_zero, List.set_cons_succ, i64_w, i32_w]; rfl)
            refine done_ (done_of HT_.out (by kernel_rfl)) ?_
            try go_wp2
            go_roundg k2
            case measure => have := HJ5.out; have := HK2.out; omega
            case rel => exact ⟨(y918), (wrap64 (x6_2 + 1)), G.tr, H', ⟨by have := HJ5.out; have := HK2.out; omega⟩, ⟨G.kV HO_3.out⟩, ⟨by (with_reducible repeat (first | apply Kd.N_alloc | apply Kd.N_drewN | apply Kd.N_drew)); exact Kd.N_mono HO_4.out (fun _ hk => hk.2)⟩, ⟨G.kR HO920.out⟩, ⟨G.bel⟩⟩
          ·replace c57 := Bool.eq_false_iff.mpr c57
           subst c57
           rw [if_neg (show ¬ (false = true) by decide)] at H
           exact absurd ((Option.some.inj H).trans HTrue_.out) (by decide)
         ·rw [if_neg c55] at H
          exact absurd H (by simp)
        ·rw [if_neg c54] at H
         exact absurd H (by simp)
       ·rw [if_neg c53] at H
        have c53b0 : decide (x6_2 < (t891.length : Int)) = false := decide_eq_false c53
        clear c53
        have HC80 := Aside0.mk H
        clear H
        obtain ⟨Ao81, co81, eo81⟩ := Kd.N_slice HO_4.out
        subst eo81
        go_upto_region 14 with (fail)
        go_cut [106] (fun v106 wc => ∃ (kq : Nat) (x106_79 : Bool), v106 = .bool x106_79 ∧ Aside0 (laws_FnLyndon.j2 kq l0 x106_79 = some r) ∧ Aside0 (kq ≤ k2) ∧ Aside0 (Below w.heap.size w wc))
        case first => as_aux_lemma =>
         have H := HC80.out
         clear HC80
         obtain ⟨t926, A82, H⟩ := G.bx H
         by_cases c83 : t926 = true
         ·subst c83
          rw [if_pos rfl] at H
          by_cases c84 : (t888.length : Int) > 0
          ·rw [if_pos c84] at H
           have c84b0 : decide (0 < (t888.length : Int)) = true := decide_eq_true c84
           have c84b1 : decide (0 < t888.length) = true := decide_eq_true (by omega)
           clear c84
           (first | rw [c84b0] | (simp only [i64_w, i32_w]; rw [c84b0]) | skip)
           obtain ⟨t927, A85, H⟩ := G.bx H
           have H' := Aside0.mk H
           clear H
           obtain ⟨Ao86, co86, eo86⟩ := Kd.R_slice HO_5.out
           subst eo86
           go_wp2_with (first | ((with_reducible refine gate_callee (f := 51) rfl ?_); refine goesL_ (some 92) rfl rfl Try.func51 (by kernel_rfl) rfl #[.slice Ao86 x5_2.length co86, .slice Ao8 t888.length co8] rfl G.ar ?_; (with_reducible refine (laws_sameInts.calls k2 _ _ x5_2 _ _ t888 true _ ?side1 ?side2 ?side3 ?side4 A82.out).mono ?_); (case side1 => repeat (first | exact (Kd.R_reads' HO_5.out).2.2 | (with_reducible refine Kd.C_alloc ?_ _) | (with_reducible refine Kd.C_drewN ?_ _) | (with_reducible refine Kd.C_drew ?_))); (case side2 => exact (Kd.R_reads' HO_5.out).2.1); (case side3 => repeat (first | exact (Kd.V_reads' HO_3.out).2.2 | (with_reducible refine Kd.C_alloc ?_ _) | (with_reducible refine Kd.C_drewN ?_ _) | (with_reducible refine Kd.C_drew ?_))); (case side4 => exact (Kd.V_reads' HO_3.out).2.1); rintro e w' ⟨rfl, ⟨nd, rfl⟩⟩; refine ⟨_, rfl, ?_⟩) | (go_at_call 85; (with_reducible refine (spec_IsLyndon.calls k2 _ _ t888 t927 _ ?side1 ?side2 A85.out).mono ?_); (case side1 => repeat (first | exact (Kd.V_reads' HO_3.out).2.2 | (with_reducible refine Kd.C_alloc ?_ _) | (with_reducible refine Kd.C_drewN ?_ _) | (with_reducible refine Kd.C_drew ?_))); (case side2 => exact (Kd.V_reads' HO_3.out).2.1); rintro e w' ⟨rfl, ⟨nd, rfl⟩⟩))
           go_meet
           case rel => exact ⟨_, ((((t891.length : Int) == 1) != t927)), G.tr, H', ⟨by have := HJ5.out; have := HK2.out; first | omega | exact Nat.le_refl _⟩, ⟨G.bel⟩⟩
          ·rw [if_neg c84] at H
           have c84b0 : decide (0 < (t888.length : Int)) = false := decide_eq_false c84
           have c84b1 : decide (0 < t888.length) = false := decide_eq_false (by omega)
           clear c84
           (first | rw [c84b0] | (simp only [i64_w, i32_w]; rw [c84b0]) | skip)
           have H' := Aside0.mk H
           clear H
           obtain ⟨Ao87, co87, eo87⟩ := Kd.R_slice HO_5.out
           subst eo87
           go_wp2_with (first | ((with_reducible refine gate_callee (f := 51) rfl ?_); refine goesL_ (some 92) rfl rfl Try.func51 (by kernel_rfl) rfl #[.slice Ao87 x5_2.length co87, .slice Ao8 t888.length co8] rfl G.ar ?_; (with_reducible refine (laws_sameInts.calls k2 _ _ x5_2 _ _ t888 true _ ?side1 ?side2 ?side3 ?side4 A82.out).mono ?_); (case side1 => repeat (first | exact (Kd.R_reads' HO_5.out).2.2 | (with_reducible refine Kd.C_alloc ?_ _) | (with_reducible refine Kd.C_drewN ?_ _) | (with_reducible refine Kd.C_drew ?_))); (case side2 => exact (Kd.R_reads' HO_5.out).2.1); (case side3 => repeat (first | exact (Kd.V_reads' HO_3.out).2.2 | (with_reducible refine Kd.C_alloc ?_ _) | (with_reducible refine Kd.C_drewN ?_ _) | (with_reducible refine Kd.C_drew ?_))); (case side4 => exact (Kd.V_reads' HO_3.out).2.1); rintro e w' ⟨rfl, ⟨nd, rfl⟩⟩; refine ⟨_, rfl, ?_⟩))
           go_meet
           case rel => exact ⟨_, (false), G.tr, H', ⟨by have := HJ5.out; have := HK2.out; first | omega | exact Nat.le_refl _⟩, ⟨G.bel⟩⟩
         ·replace c83 := Bool.eq_false_iff.mpr c83
          subst c83
          rw [if_neg (show ¬ (false = true) by decide)] at H
          exact absurd (H.trans (congrArg some HTrue_.out)) (laws_FnLyndon.j2_no _ _)
        case rest => as_aux_lemma =>
         clear HC80
         try clear p2; try clear c5; try clear c6; try clear p6; try clear c7; try clear c8; try clear c9; try clear p9; try clear q9; try clear hx9; try clear c51; try clear c53; try clear c53b0; try clear c54; try clear c55; try clear c57; try clear c58; try clear c58b0; try clear c60; try clear c61; try clear p64; try clear c79; try clear c83; try clear c84; try clear c84b0; try clear c84b1; try clear hx917_0; try clear hx921_0; try clear p917; try clear p921; try clear q917; try clear q921
         obtain ⟨kq, x106_79, rfl, HA, HJ79, HB⟩ := hcut
         cases kq with
         | zero => exact absurd HA.out (by simp [laws_FnLyndon.j2])
         | succ kj79 =>
          have H := HA.out
          clear HA
          simp only [laws_FnLyndon.j2] at H
          by_cases c89 : x106_79 = true
          ·subst c89
           rw [if_pos rfl] at H
           exact absurd ((Option.some.inj H).trans HTrue_.out) (by decide)
          ·replace c89 := Bool.eq_false_iff.mpr c89
           subst c89
           rw [if_neg (show ¬ (false = true) by decide)] at H
           go_upto_region 17 with (first | ((with_reducible refine gate_callee (f := 88) rfl ?_); refine goesL_ (some 109) rfl rfl Try.func88 (by kernel_rfl) rfl #[.slice A0 l0.length c0] rfl G.ar ?_; (with_reducible refine (spec_DrawLyndonWords.any _ _ l0 _ ?side1 ?side2 ?side3).mono ?_); (case side3 => exact HBIG_.out); (case side1 => exact G.kC (Kd.C_below HR0.out HB.out)); (case side2 => exact HC0.out); rintro e w94 ⟨t928, t929, hw_, rfl, hb⟩; have A90 := Aside0.mk hw_; clear hw_; refine ⟨_, rfl, ?_⟩; have n0_ := Aside0.mk (below_step G.bel hb); clear HB; have HB := n0_; clear n0_; (try clear hb); (try clear hb2); (try clear hk); (try clear hi)))
           obtain ⟨kj79, H⟩ := G.draw_out H (t928, t929) A90.out
           replace H : ((impl_LyndonWords.f kj79 t928 t929).bind fun bt930 => ((spec_LyndonWords.f kj79 t928 t929).bind fun bt934 => (if (bt930.2 != bt934.2) = true then (laws_FnLyndon.j3 kj79 l0 true) else ((laws_sameWords.f kj79 bt930.1 bt934.1).bind fun t938 => (if t938 = true then (if bt930.2 = true then ((impl_CountLyndon.f kj79 t928 t929).bind fun t939 => (if t939 = (bt934.1.length : Int) then ((impl_CountLyndon.f kj79 t928 t929).bind fun t940 => ((spec_CountLyndon.f kj79 t928 t929).bind fun t941 => (if t940 = t941 then ((impl_CountNecklaces.f kj79 t928 t929).bind fun t942 => ((spec_CountNecklaces.f kj79 t928 t929).bind fun t943 => (laws_FnLyndon.j3 kj79 l0 (t942 != t943)))) else (laws_FnLyndon.j3 kj79 l0 true)))) else (laws_FnLyndon.j3 kj79 l0 true))) else ((impl_CountLyndon.f kj79 t928 t929).bind fun t944 => ((spec_CountLyndon.f kj79 t928 t929).bind fun t945 => (if t944 = t945 then ((impl_CountNecklaces.f kj79 t928 t929).bind fun t946 => ((spec_CountNecklaces.f kj79 t928 t929).bind fun t947 => (laws_FnLyndon.j3 kj79 l0 (t946 != t947)))) else (laws_FnLyndon.j3 kj79 l0 true))))) else (laws_FnLyndon.j3 kj79 l0 true)))))) = some r := H
           obtain ⟨⟨t930, t933⟩, A91, H⟩ := G.bx H
           replace H : ((spec_LyndonWords.f kj79 t928 t929).bind fun bt934 => (if (t933 != bt934.2) = true then (laws_FnLyndon.j3 kj79 l0 true) else ((laws_sameWords.f kj79 t930 bt934.1).bind fun t938 => (if t938 = true then (if t933 = true then ((impl_CountLyndon.f kj79 t928 t929).bind fun t939 => (if t939 = (bt934.1.length : Int) then ((impl_CountLyndon.f kj79 t928 t929).bind fun t940 => ((spec_CountLyndon.f kj79 t928 t929).bind fun t941 => (if t940 = t941 then ((impl_CountNecklaces.f kj79 t928 t929).bind fun t942 => ((spec_CountNecklaces.f kj79 t928 t929).bind fun t943 => (laws_FnLyndon.j3 kj79 l0 (t942 != t943)))) else (laws_FnLyndon.j3 kj79 l0 true)))) else (laws_FnLyndon.j3 kj79 l0 true))) else ((impl_CountLyndon.f kj79 t928 t929).bind fun t944 => ((spec_CountLyndon.f kj79 t928 t929).bind fun t945 => (if t944 = t945 then ((impl_CountNecklaces.f kj79 t928 t929).bind fun t946 => ((spec_CountNecklaces.f kj79 t928 t929).bind fun t947 => (laws_FnLyndon.j3 kj79 l0 (t946 != t947)))) else (laws_FnLyndon.j3 kj79 l0 true))))) else (laws_FnLyndon.j3 kj79 l0 true))))) = some r := H
           obtain ⟨⟨t934, t935⟩, A92, H⟩ := G.bx H
           replace H : (if (t933 != t935) = true then (laws_FnLyndon.j3 kj79 l0 true) else ((laws_sameWords.f kj79 t930 t934).bind fun t938 => (if t938 = true then (if t933 = true then ((impl_CountLyndon.f kj79 t928 t929).bind fun t939 => (if t939 = (t934.length : Int) then ((impl_CountLyndon.f kj79 t928 t929).bind fun t940 => ((spec_CountLyndon.f kj79 t928 t929).bind fun t941 => (if t940 = t941 then ((impl_CountNecklaces.f kj79 t928 t929).bind fun t942 => ((spec_CountNecklaces.f kj79 t928 t929).bind fun t943 => (laws_FnLyndon.j3 kj79 l0 (t942 != t943)))) else (laws_FnLyndon.j3 kj79 l0 true)))) else (laws_FnLyndon.j3 kj79 l0 true))) else ((impl_CountLyndon.f kj79 t928 t929).bind fun t944 => ((spec_CountLyndon.f kj79 t928 t929).bind fun t945 => (if t944 = t945 then ((impl_CountNecklaces.f kj79 t928 t929).bind fun t946 => ((spec_CountNecklaces.f kj79 t928 t929).bind fun t947 => (laws_FnLyndon.j3 kj79 l0 (t946 != t947)))) else (laws_FnLyndon.j3 kj79 l0 true))))) else (laws_FnLyndon.j3 kj79 l0 true)))) = some r := H
           have HC93 := Aside0.mk H
           clear H
           go_upto_region 19 with (first | ((with_reducible refine gate_callee (f := 89) rfl ?_); refine goesL_ (some 115) rfl rfl Try.func89 (by kernel_rfl) rfl #[.int .i64 t928, .int .i64 t929] rfl G.ar ?_; (with_reducible refine (impl_LyndonWords.calls kj79 t928 t929 t930 t933 _ A91.out).mono ?_); rintro e w95 ⟨v931, rfl, ho0, hb⟩; refine ⟨_, rfl, ?_⟩; replace ho0 := Kd.S_N ho0; have n0_ := Aside0.mk (Kd.N_lower (Kd.N_mono (ok' := fun k_ => True) ho0 (fun k_ hk_ => trivial)) (below_size G.bel)); have n1_ := Aside0.mk (below_step G.bel hb); clear HB; have HO932 := n0_; have HB := n1_; clear n0_ n1_; (try clear hb); (try clear hb2); (try clear hk); (try clear hi); (try clear ho0)) | ((with_reducible refine gate_callee (f := 90) rfl ?_); refine goesL_ (some 121) rfl rfl Try.func90 (by kernel_rfl) rfl #[.int .i64 t928, .int .i64 t929] rfl G.ar ?_; (with_reducible refine (spec_LyndonWords.calls kj79 t928 t929 t934 t935 _ A92.out).mono ?_); rintro e w96 ⟨v936, rfl, ho0, hb⟩; refine ⟨_, rfl, ?_⟩; have n0_ := Aside0.mk (Kd.N_elder' (G.kN HO932.out) (Kd.S_base ho0) hb); have n1_ := Aside0.mk (Kd.N_lower (Kd.N_mono (ok' := fun k_ => some k_ ≠ (v931 : Value).ownBlock) (Kd.S_N (Kd.S_bound ho0)) (fun k_ hk_ => (Kd.fresh' (Kd.N_lt (G.kN HO932.out)) k_ hk_.2.1))) (below_size G.bel)); have n2_ := Aside0.mk (below_step G.bel hb); clear HO932; clear HB; have HO932 := n0_; have HO937 := n1_; have HB := n2_; clear n0_ n1_ n2_; (try clear hb); (try clear hb2); (try clear hk); (try clear hi); (try clear ho0)))
           (try simp only [Act.put, List.setIfInBounds_toArray, List.set_cons_zero, List.set_cons_succ])
           go_cut [161] (fun v161 wc => ∃ (kq : Nat) (x161_92 : Bool), v161 = .bool x161_92 ∧ Aside0 (laws_FnLyndon.j3 kq l0 x161_92 = some r) ∧ Aside0 (kq ≤ kj79) ∧ Aside0 (Below w.heap.size w wc))
           case first => as_aux_lemma =>
            have H := HC93.out
            clear HC93
            by_cases c97 : (t933 != t935) = true
            ·rw [if_pos c97] at H
             exact absurd (H.trans (congrArg some HTrue_.out)) (laws_FnLyndon.j3_no _ _)
            ·rw [if_neg c97] at H
             have c97b0 : (t933 != t935) = false := by simpa using c97
             (try (have c97b1 : decide (t933 = t935) = true := by simpa using c97))
             (try (have c97b2 : (t933 == t935) = true := by simpa using c97))
             clear c97
             (first | rw [c97b0] | (simp only [i64_w, i32_w]; rw [c97b0]) | skip)
             obtain ⟨t938, A98, H⟩ := G.bx H
             by_cases c99 : t938 = true
             ·subst c99
              rw [if_pos rfl] at H
              by_cases c100 : t933 = true
              ·subst c100
               rw [if_pos rfl] at H
               obtain ⟨t939, A101, H⟩ := G.bx H
               by_cases c102 : t939 = (t934.length : Int)
               ·rw [if_pos c102] at H
                have c102b0 : (t939 == (t934.length : Int)) = true := beq_iff_eq.mpr c102
                have c102b1 : (t939 != (t934.length : Int)) = false := bne_eq_false_iff_eq.mpr c102
                clear c102
                replace H := Option.bind_eq_some_iff.mp H
                obtain ⟨t940, A1030, H⟩ := H
                replace H : ((spec_CountLyndon.f kj79 t928 t929).bind fun t941 => (if t940 = t941 then ((impl_CountNecklaces.f kj79 t928 t929).bind fun t942 => ((spec_CountNecklaces.f kj79 t928 t929).bind fun t943 => (laws_FnLyndon.j3 kj79 l0 (t942 != t943)))) else (laws_FnLyndon.j3 kj79 l0 true))) = some r := H
                have A103 := Aside0.mk A1030
                have et_ : t939 = t940 := Option.some.inj (A101.out.symm.trans A103.out)
                subst et_
                clear A1030
                obtain ⟨t941, A104, H⟩ := G.bx H
                by_cases c105 : t939 = t941
                ·rw [if_pos c105] at H
                 have c105b0 : (t939 == t941) = true := beq_iff_eq.mpr c105
                 have c105b1 : (t939 != t941) = false := bne_eq_false_iff_eq.mpr c105
                 clear c105
                 obtain ⟨t942, A106, H⟩ := G.bx H
                 obtain ⟨t943, A107, H⟩ := G.bx H
                 have H' := Aside0.mk H
                 clear H
                 obtain ⟨Ao108, co108, eo108⟩ := Kd.N_slice HO932.out
                 subst eo108
                 obtain ⟨Ao109, co109, eo109⟩ := Kd.N_slice HO937.out
                 subst eo109
                 go_wp2_with (first | (go_at_call 69; (with_reducible refine (laws_sameWords.calls kj79 _ _ t930 _ _ t934 true _ ?side1 ?side2 ?side3 ?side4 A98.out).mono ?_); (case side1 => repeat (first | exact (Kd.N_reads' HO932.out).2.2 | (with_reducible refine Kd.C_alloc ?_ _) | (with_reducible refine Kd.C_drewN ?_ _) | (with_reducible refine Kd.C_drew ?_))); (case side2 => exact (Kd.N_reads' HO932.out).2.1); (case side3 => repeat (first | exact (Kd.N_reads' HO937.out).2.2 | (with_reducible refine Kd.C_alloc ?_ _) | (with_reducible refine Kd.C_drewN ?_ _) | (with_reducible refine Kd.C_drew ?_))); (case side4 => exact (Kd.N_reads' HO937.out).2.1); rintro e w' ⟨rfl, ⟨nd, rfl⟩⟩) | (go_at_call 91; (with_reducible refine (impl_CountLyndon.calls kj79 t928 t929 t939 _ A101.out).mono ?_); rintro e w' ⟨rfl, ⟨nd, rfl⟩⟩) | (go_at_call 91; (with_reducible refine (impl_CountLyndon.calls kj79 t928 t929 t939 _ A103.out).mono ?_); rintro e w' ⟨rfl, ⟨nd, rfl⟩⟩) | (go_at_call 92; (with_reducible refine (spec_CountLyndon.calls kj79 t928 t929 t941 _ A104.out).mono ?_); rintro e w' ⟨rfl, ⟨nd, rfl⟩⟩) | (go_at_call 93; (with_reducible refine (impl_CountNecklaces.calls kj79 t928 t929 t942 _ A106.out).mono ?_); rintro e w' ⟨rfl, ⟨nd, rfl⟩⟩) | (go_at_call 94; (with_reducible refine (spec_CountNecklaces.calls kj79 t928 t929 t943 _ A107.out).mono ?_); rintro e w' ⟨rfl, ⟨nd, rfl⟩⟩))
                 go_meet
                 case rel => exact ⟨_, ((t942 != t943)), G.tr, H', ⟨by have := HJ5.out; have := HK2.out; have := HJ79.out; first | omega | exact Nat.le_refl _⟩, ⟨G.bel⟩⟩
                ·rw [if_neg c105] at H
                 exact absurd (H.trans (congrArg some HTrue_.out)) (laws_FnLyndon.j3_no _ _)
               ·rw [if_neg c102] at H
                exact absurd (H.trans (congrArg some HTrue_.out)) (laws_FnLyndon.j3_no _ _)
              ·replace c100 := Bool.eq_false_iff.mpr c100
               subst c100
               rw [if_neg (show ¬ (false = true) by decide)] at H
               obtain ⟨t944, A114, H⟩ := G.bx H
               obtain ⟨t945, A115, H⟩ := G.bx H
               by_cases c116 : t944 = t945
               ·rw [if_pos c116] at H
                have c116b0 : (t944 == t945) = true := beq_iff_eq.mpr c116
                have c116b1 : (t944 != t945) = false := bne_eq_false_iff_eq.mpr c116
                clear c116
                obtain ⟨t946, A117, H⟩ := G.bx H
                obtain ⟨t947, A118, H⟩ := G.bx H
                have H' := Aside0.mk H
                clear H
                obtain ⟨Ao119, co119, eo119⟩ := Kd.N_slice HO932.out
                subst eo119
                obtain ⟨Ao120, co120, eo120⟩ := Kd.N_slice HO937.out
                subst eo120
                go_wp2_with (first | (go_at_call 69; (with_reducible refine (laws_sameWords.calls kj79 _ _ t930 _ _ t934 true _ ?side1 ?side2 ?side3 ?side4 A98.out).mono ?_); (case side1 => repeat (first | exact (Kd.N_reads' HO932.out).2.2 | (with_reducible refine Kd.C_alloc ?_ _) | (with_reducible refine Kd.C_drewN ?_ _) | (with_reducible refine Kd.C_drew ?_))); (case side2 => exact (Kd.N_reads' HO932.out).2.1); (case side3 => repeat (first | exact (Kd.N_reads' HO937.out).2.2 | (with_reducible refine Kd.C_alloc ?_ _) | (with_reducible refine Kd.C_drewN ?_ _) | (with_reducible refine Kd.C_drew ?_))); (case side4 => exact (Kd.N_reads' HO937.out).2.1); rintro e w' ⟨rfl, ⟨nd, rfl⟩⟩) | (go_at_call 91; (with_reducible refine (impl_CountLyndon.calls kj79 t928 t929 t944 _ A114.out).mono ?_); rintro e w' ⟨rfl, ⟨nd, rfl⟩⟩) | (go_at_call 92; (with_reducible refine (spec_CountLyndon.calls kj79 t928 t929 t945 _ A115.out).mono ?_); rintro e w' ⟨rfl, ⟨nd, rfl⟩⟩) | (go_at_call 93; (with_reducible refine (impl_CountNecklaces.calls kj79 t928 t929 t946 _ A117.out).mono ?_); rintro e w' ⟨rfl, ⟨nd, rfl⟩⟩) | (go_at_call 94; (with_reducible refine (spec_CountNecklaces.calls kj79 t928 t929 t947 _ A118.out).mono ?_); rintro e w' ⟨rfl, ⟨nd, rfl⟩⟩))
                go_meet
                case rel => exact ⟨_, ((t946 != t947)), G.tr, H', ⟨by have := HJ5.out; have := HK2.out; have := HJ79.out; first | omega | exact Nat.le_refl _⟩, ⟨G.bel⟩⟩
               ·rw [if_neg c116] at H
                exact absurd (H.trans (congrArg some HTrue_.out)) (laws_FnLyndon.j3_no _ _)
             ·replace c99 := Bool.eq_false_iff.mpr c99
              subst c99
              rw [if_neg (show ¬ (false = true) by decide)] at H
              exact absurd (H.trans (congrArg some HTrue_.out)) (laws_FnLyndon.j3_no _ _)
           case rest => as_aux_lemma =>
            clear HC93
            try clear c1; try clear p2; try clear c5; try clear c6; try clear p6; try clear c7; try clear c8; try clear c9; try clear p9; try clear q9; try clear hx9; try clear c10; try clear c11; try clear c51; try clear c53; try clear c53b0; try clear c54; try clear c55; try clear c57; try clear c58; try clear c58b0; try clear c60; try clear c61; try clear p64; try clear c79; try clear c83; try clear c84; try clear c84b0; try clear c84b1; try clear c88; try clear c89; try clear c90; try clear c91; try clear p91; try clear q91; try clear hx91; try clear c92; try clear p92; try clear q92; try clear hx92; try clear c97; try clear c97b0; try clear c97b1; try clear c97b2; try clear c99; try clear c100; try clear c102; try clear c102b0; try clear c102b1; try clear c105; try clear c105b0; try clear c105b1; try clear c116; try clear c116b0; try clear c116b1; try clear hx917_0; try clear hx921_0; try clear p2; try clear p6; try clear p64; try clear p9; try clear p917; try clear p921; try clear q9; try clear q917; try clear q921
            obtain ⟨kq, x161_92, rfl, HA, HJ92, HB⟩ := hcut
            cases kq with
            | zero => exact absurd HA.out (by simp [laws_FnLyndon.j3])
            | succ kj92 =>
             have H := HA.out
             clear HA
             simp only [laws_FnLyndon.j3] at H
             by_cases c125 : x161_92 = true
             ·subst c125
              rw [if_pos rfl] at H
              exact absurd ((Option.some.inj H).trans HTrue_.out) (by decide)
             ·replace c125 := Bool.eq_false_iff.mpr c125
              subst c125
              rw [if_neg (show ¬ (false = true) by decide)] at H
              go_upto_region 22 with (first | ((with_reducible refine gate_callee (f := 95) rfl ?_); refine goesL_ (some 163) rfl rfl Try.func95 (by kernel_rfl) rfl #[.slice A0 l0.length c0] rfl G.ar ?_; (with_reducible refine (spec_DrawStandardSplit.any _ _ l0 _ ?side1 ?side2 ?side3 HLCok_.out HRTok_.out).mono ?_); (case side3 => exact HBIG_.out); (case side1 => exact G.kC (Kd.C_below HR0.out HB.out)); (case side2 => exact HC0.out); rintro e w143 ⟨t948, v949, hw_, rfl, ho0, hb⟩; have A126 := Aside0.mk hw_; clear hw_; refine ⟨_, rfl, ?_⟩; have n0_ := Aside0.mk (Kd.R_lower ho0 (below_size G.bel)); have n1_ := Aside0.mk (below_step G.bel hb); clear HB; have HO950 := n0_; have HB := n1_; clear n0_ n1_; (try clear hb); (try clear hb2); (try clear hk); (try clear hi); (try clear ho0)))
              obtain ⟨kj92, H⟩ := G.draw_out H t948 A126.out
              replace H : ((impl_StandardSplit.f kj92 t948).bind fun bt951 => ((spec_StandardSplit.f kj92 t948).bind fun bt958 => (if (bt951.2.2 == bt958.2.2) = true then ((laws_sameInts.f kj92 bt951.1 bt958.1).bind fun t965 => (if t965 = true then ((laws_sameInts.f kj92 bt951.2.1 bt958.2.1).bind fun t966 => (if t966 = true then ((spec_IsLyndon.f kj92 t948).bind fun t967 => (if t967 = true then (if (bt951.2.2 == (decide ((t948.length : Int) > 1))) = true then (if bt951.2.2 = true then ((impl_IsLyndon.f kj92 bt958.1).bind fun t968 => (if t968 = true then ((impl_IsLyndon.f kj92 bt958.2.1).bind fun t969 => (if t969 = true then ((spec_CompareWords.f kj92 bt958.1 bt958.2.1).bind fun t970 => (some (decide (t970 < 0)))) else (some false))) else (some false))) else (some true)) else (some false)) else (if (bt951.2.2 == false) = true then (if bt951.2.2 = true then ((impl_IsLyndon.f kj92 bt958.1).bind fun t971 => (if t971 = true then ((impl_IsLyndon.f kj92 bt958.2.1).bind fun t972 => (if t972 = true then ((spec_CompareWords.f kj92 bt958.1 bt958.2.1).bind fun t973 => (some (decide (t973 < 0)))) else (some false))) else (some false))) else (some true)) else (some false)))) else (some false))) else (some false))) else (some false)))) = some r := H
              obtain ⟨⟨t951, t952, t953⟩, A127, H⟩ := G.bx H
              replace H : ((spec_StandardSplit.f kj92 t948).bind fun bt958 => (if (t953 == bt958.2.2) = true then ((laws_sameInts.f kj92 t951 bt958.1).bind fun t965 => (if t965 = true then ((laws_sameInts.f kj92 t952 bt958.2.1).bind fun t966 => (if t966 = true then ((spec_IsLyndon.f kj92 t948).bind fun t967 => (if t967 = true then (if (t953 == (decide ((t948.length : Int) > 1))) = true then (if t953 = true then ((impl_IsLyndon.f kj92 bt958.1).bind fun t968 => (if t968 = true then ((impl_IsLyndon.f kj92 bt958.2.1).bind fun t969 => (if t969 = true then ((spec_CompareWords.f kj92 bt958.1 bt958.2.1).bind fun t970 => (some (decide (t970 < 0)))) else (some false))) else (some false))) else (some true)) else (some false)) else (if (t953 == false) = true then (if t953 = true then ((impl_IsLyndon.f kj92 bt958.1).bind fun t971 => (if t971 = true then ((impl_IsLyndon.f kj92 bt958.2.1).bind fun t972 => (if t972 = true then ((spec_CompareWords.f kj92 bt958.1 bt958.2.1).bind fun t973 => (some (decide (t973 < 0)))) else (some false))) else (some false))) else (some true)) else (some false)))) else (some false))) else (some false))) else (some false))) = some r := H
              obtain ⟨⟨t958, t959, t960⟩, A128, H⟩ := G.bx H
              replace H : (if (t953 == t960) = true then ((laws_sameInts.f kj92 t951 t958).bind fun t965 => (if t965 = true then ((laws_sameInts.f kj92 t952 t959).bind fun t966 => (if t966 = true then ((spec_IsLyndon.f kj92 t948).bind fun t967 => (if t967 = true then (if (t953 == (decide ((t948.length : Int) > 1))) = true then (if t953 = true then ((impl_IsLyndon.f kj92 t958).bind fun t968 => (if t968 = true then ((impl_IsLyndon.f kj92 t959).bind fun t969 => (if t969 = true then ((spec_CompareWords.f kj92 t958 t959).bind fun t970 => (some (decide (t970 < 0)))) else (some false))) else (some false))) else (some true)) else (some false)) else (if (t953 == false) = true then (if t953 = true then ((impl_IsLyndon.f kj92 t958).bind fun t971 => (if t971 = true then ((impl_IsLyndon.f kj92 t959).bind fun t972 => (if t972 = true then ((spec_CompareWords.f kj92 t958 t959).bind fun t973 => (some (decide (t973 < 0)))) else (some false))) else (some false))) else (some true)) else (some false)))) else (some false))) else (some false))) else (some false)) = some r := H
              by_cases c129 : (t953 == t960) = true
              ·rw [if_pos c129] at H
               have c129b0 : (t953 == t960) = true := c129
               have et_ : t953 = t960 := by simpa using c129
               subst et_
               (try (have c129b1 : decide (t953 = t953) = true := by simpa using c129))
               (try (have c129b2 : (t953 == t953) = true := by simpa using c129))
               clear c129
               obtain ⟨t965, A130, H⟩ := G.bx H
               by_cases c131 : t965 = true
               ·subst c131
                rw [if_pos rfl] at H
                obtain ⟨t966, A132, H⟩ := G.bx H
                by_cases c133 : t966 = true
                ·subst c133
                 rw [if_pos rfl] at H
                 obtain ⟨t967, A134, H⟩ := G.bx H
                 by_cases c135 : t967 = true
                 ·subst c135
                  rw [if_pos rfl] at H
                  by_cases c136 : (t953 == (decide ((t948.length : Int) > 1))) = true
                  ·rw [if_pos c136] at H
                   have c136b0 : (t953 == (decide ((t948.length : Int) > 1))) = true := c136
                   (try (have c136b1 : decide (t953 = (decide ((t948.length : Int) > 1))) = true := by simpa using c136))
                   (try (have c136b2 : (t953 == (decide ((t948.length : Int) > 1))) = true := by simpa using c136))
                   clear c136
                   by_cases c137 : t953 = true
                   ·subst c137
                    rw [if_pos rfl] at H
                    obtain ⟨t968, A138, H⟩ := G.bx H
                    by_cases c139 : t968 = true
                    ·subst c139
                     rw [if_pos rfl] at H
                     obtain ⟨t969, A140, H⟩ := G.bx H
                     by_cases c141 : t969 = true
                     ·subst c141
                      rw [if_pos rfl] at H
                      obtain ⟨t970, A142, H⟩ := G.bx H
                      obtain rfl := Option.some.inj H
                      obtain ⟨Ao144, co144, eo144⟩ := Kd.R_slice HO950.out
                      subst eo144
                      go_wp2_with (first | ((with_reducible refine gate_callee (f := 96) rfl ?_); refine goesL_ (some 166) rfl rfl Try.func96 (by kernel_rfl) rfl #[.slice Ao144 t948.length co144] rfl G.ar ?_; (with_reducible refine (impl_StandardSplit.calls kj92 _ _ t948 t951 t952 true _ ?side1 ?side2 A127.out).mono ?_); (case side1 => repeat (first | exact (Kd.R_reads' HO950.out).2.2 | (with_reducible refine Kd.C_alloc ?_ _) | (with_reducible refine Kd.C_drewN ?_ _) | (with_reducible refine Kd.C_drew ?_))); (case side2 => exact (Kd.R_reads' HO950.out).2.1); rintro e w145 ⟨v954, v956, rfl, ho0, ho1, hb⟩; refine ⟨_, rfl, ?_⟩; have n0_ := Aside0.mk (Kd.R_mono (Kd.R_told (Kd.R_told (Kd.R_old (G.kR HO950.out) hb) (Kd.R_base ho0)) (Kd.R_base ho1)) (fun _ h_ => h_.1)); have n1_ := Aside0.mk (Kd.R_lower (Kd.R_new' ho0 (Kd.R_lt (G.kR HO950.out))) (below_size G.bel)); have n2_ := Aside0.mk (Kd.R_lower (Kd.R_new' ho1 (Kd.R_lt (G.kR HO950.out))) (below_size G.bel)); have n3_ := Aside0.mk (below_step G.bel hb); clear HO950; clear HB; have HO950 := n0_; have HO955 := n1_; have HO957 := n2_; have HB := n3_; clear n0_ n1_ n2_ n3_; (try clear hb); (try clear hb2); (try clear hk); (try clear hi); (try clear ho0); (try clear ho1)) | ((with_reducible refine gate_callee (f := 97) rfl ?_); refine goesL_ (some 172) rfl rfl Try.func97 (by kernel_rfl) rfl #[.slice Ao144 t948.length co144] rfl G.ar ?_; (with_reducible refine (spec_StandardSplit.calls kj92 _ _ t948 t958 t959 true _ ?side1 ?side2 A128.out).mono ?_); (case side1 => repeat (first | exact (Kd.R_reads' HO950.out).2.2 | (with_reducible refine Kd.C_alloc ?_ _) | (with_reducible refine Kd.C_drewN ?_ _) | (with_reducible refine Kd.C_drew ?_))); (case side2 => exact (Kd.R_reads' HO950.out).2.1); rintro e w146 ⟨v961, v963, rfl, ho0, ho1, hb⟩; refine ⟨_, rfl, ?_⟩; have n0_ := Aside0.mk (Kd.R_mono (Kd.R_told (Kd.R_told (Kd.R_old (G.kR HO950.out) hb) (Kd.R_base ho0)) (Kd.R_base ho1)) (fun _ h_ => h_.1)); have n1_ := Aside0.mk (Kd.R_mono (Kd.R_told (Kd.R_told (Kd.R_old (G.kR HO955.out) hb) (Kd.R_base ho0)) (Kd.R_base ho1)) (fun _ h_ => h_.1)); have n2_ := Aside0.mk (Kd.R_mono (Kd.R_told (Kd.R_told (Kd.R_old (G.kR HO957.out) hb) (Kd.R_base ho0)) (Kd.R_base ho1)) (fun _ h_ => h_.1)); have n3_ := Aside0.mk (Kd.R_lower (Kd.R_new' (Kd.R_new' (Kd.R_new' ho0 (Kd.R_lt (G.kR HO950.out))) (Kd.R_lt (G.kR HO955.out))) (Kd.R_lt (G.kR HO957.out))) (below_size G.bel)); have n4_ := Aside0.mk (Kd.R_lower (Kd.R_new' (Kd.R_new' (Kd.R_new' ho1 (Kd.R_lt (G.kR HO950.out))) (Kd.R_lt (G.kR HO955.out))) (Kd.R_lt (G.kR HO957.out))) (below_size G.bel)); have n5_ := Aside0.mk (below_step G.bel hb); clear HO950; clear HO955; clear HO957; clear HB; have HO950 := n0_; have HO955 := n1_; have HO957 := n2_; have HO962 := n3_; have HO964 := n4_; have HB := n5_; clear n0_ n1_ n2_ n3_ n4_ n5_; (try clear hb); (try clear hb2); (try clear hk); (try clear hi); (try clear ho0); (try clear ho1); obtain ⟨Ao147, co147, eo147⟩ := Kd.R_slice HO955.out; subst eo147; obtain ⟨Ao148, co148, eo148⟩ := Kd.R_slice HO962.out; subst eo148) | (go_at_call 51; (with_reducible refine (laws_sameInts.calls kj92 _ _ t951 _ _ t958 true _ ?side1 ?side2 ?side3 ?side4 A130.out).mono ?_); (case side1 => repeat (first | exact (Kd.R_reads' HO955.out).2.2 | (with_reducible refine Kd.C_alloc ?_ _) | (with_reducible refine Kd.C_drewN ?_ _) | (with_reducible refine Kd.C_drew ?_))); (case side2 => exact (Kd.R_reads' HO955.out).2.1); (case side3 => repeat (first | exact (Kd.R_reads' HO962.out).2.2 | (with_reducible refine Kd.C_alloc ?_ _) | (with_reducible refine Kd.C_drewN ?_ _) | (with_reducible refine Kd.C_drew ?_))); (case side4 => exact (Kd.R_reads' HO962.out).2.1); rintro e w' ⟨rfl, ⟨nd, rfl⟩⟩; obtain ⟨Ao149, co149, eo149⟩ := Kd.R_slice HO957.out; subst eo149; obtain ⟨Ao150, co150, eo150⟩ := Kd.R_slice HO964.out; subst eo150) | (go_at_call 51; (with_reducible refine (laws_sameInts.calls kj92 _ _ t952 _ _ t959 true _ ?side1 ?side2 ?side3 ?side4 A132.out).mono ?_); (case side1 => repeat (first | exact (Kd.R_reads' HO957.out).2.2 | (with_reducible refine Kd.C_alloc ?_ _) | (with_reducible refine Kd.C_drewN ?_ _) | (with_reducible refine Kd.C_drew ?_))); (case side2 => exact (Kd.R_reads' HO957.out).2.1); (case side3 => repeat (first | exact (Kd.R_reads' HO964.out).2.2 | (with_reducible refine Kd.C_alloc ?_ _) | (with_reducible refine Kd.C_drewN ?_ _) | (with_reducible refine Kd.C_drew ?_))); (case side4 => exact (Kd.R_reads' HO964.out).2.1); rintro e w' ⟨rfl, ⟨nd, rfl⟩⟩) | (go_at_call 85; (with_reducible refine (spec_IsLyndon.calls kj92 _ _ t948 true _ ?side1 ?side2 A134.out).mono ?_); (case side1 => repeat (first | exact (Kd.R_reads' HO950.out).2.2 | (with_reducible refine Kd.C_alloc ?_ _) | (with_reducible refine Kd.C_drewN ?_ _) | (with_reducible refine Kd.C_drew ?_))); (case side2 => exact (Kd.R_reads' HO950.out).2.1); rintro e w' ⟨rfl, ⟨nd, rfl⟩⟩) | (go_at_call 84; (with_reducible refine (impl_IsLyndon.calls kj92 _ _ t958 true _ ?side1 ?side2 A138.out).mono ?_); (case side1 => repeat (first | exact (Kd.R_reads' HO962.out).2.2 | (with_reducible refine Kd.C_alloc ?_ _) | (with_reducible refine Kd.C_drewN ?_ _) | (with_reducible refine Kd.C_drew ?_))); (case side2 => exact (Kd.R_reads' HO962.out).2.1); rintro e w151 ⟨rfl, hb⟩; have n0_ := Aside0.mk (Kd.R_below (G.kR HO950.out) hb); have n1_ := Aside0.mk (Kd.R_below (G.kR HO955.out) hb); have n2_ := Aside0.mk (Kd.R_below (G.kR HO957.out) hb); have n3_ := Aside0.mk (Kd.R_below (G.kR HO962.out) hb); have n4_ := Aside0.mk (Kd.R_below (G.kR HO964.out) hb); have n5_ := Aside0.mk (below_step G.bel hb); clear HO950; clear HO955; clear HO957; clear HO962; clear HO964; clear HB; have HO950 := n0_; have HO955 := n1_; have HO957 := n2_; have HO962 := n3_; have HO964 := n4_; have HB := n5_; clear n0_ n1_ n2_ n3_ n4_ n5_; (try clear hb); (try clear hb2); (try clear hk); (try clear hi)) | (go_at_call 84; (with_reducible refine (impl_IsLyndon.calls kj92 _ _ t959 true _ ?side1 ?side2 A140.out).mono ?_); (case side1 => repeat (first | exact (Kd.R_reads' HO964.out).2.2 | (with_reducible refine Kd.C_alloc ?_ _) | (with_reducible refine Kd.C_drewN ?_ _) | (with_reducible refine Kd.C_drew ?_))); (case side2 => exact (Kd.R_reads' HO964.out).2.1); rintro e w152 ⟨rfl, hb⟩; have n0_ := Aside0.mk (Kd.R_below (G.kR HO950.out) hb); have n1_ := Aside0.mk (Kd.R_below (G.kR HO955.out) hb); have n2_ := Aside0.mk (Kd.R_below (G.kR HO957.out) hb); have n3_ := Aside0.mk (Kd.R_below (G.kR HO962.out) hb); have n4_ := Aside0.mk (Kd.R_below (G.kR HO964.out) hb); have n5_ := Aside0.mk (below_step G.bel hb); clear HO950; clear HO955; clear HO957; clear HO962; clear HO964; clear HB; have HO950 := n0_; have HO955 := n1_; have HO957 := n2_; have HO962 := n3_; have HO964 := n4_; have HB := n5_; clear n0_ n1_ n2_ n3_ n4_ n5_; (try clear hb); (try clear hb2); (try clear hk); (try clear hi)) | (go_at_call 79; (with_reducible refine (spec_CompareWords.calls kj92 _ _ t958 _ _ t959 t970 _ ?side1 ?side2 ?side3 ?side4 A142.out).mono ?_); (case side1 => repeat (first | exact (Kd.R_reads' HO962.out).2.2 | (with_reducible refine Kd.C_alloc ?_ _) | (with_reducible refine Kd.C_drewN ?_ _) | (with_reducible refine Kd.C_drew ?_))); (case side2 => exact (Kd.R_reads' HO962.out).2.1); (case side3 => repeat (first | exact (Kd.R_reads' HO964.out).2.2 | (with_reducible refine Kd.C_alloc ?_ _) | (with_reducible refine Kd.C_drewN ?_ _) | (with_reducible refine Kd.C_drew ?_))); (case side4 => exact (Kd.R_reads' HO964.out).2.1); rintro e w' ⟨rfl, ⟨nd, rfl⟩⟩))
                      go_ret
                      exact ⟨G.er, G.bel⟩
                     ·replace c141 := Bool.eq_false_iff.mpr c141
                      subst c141
                      rw [if_neg (show ¬ (false = true) by decide)] at H
                      exact absurd ((Option.some.inj H).trans HTrue_.out) (by decide)
                    ·replace c139 := Bool.eq_false_iff.mpr c139
                     subst c139
                     rw [if_neg (show ¬ (false = true) by decide)] at H
                     exact absurd ((Option.some.inj H).trans HTrue_.out) (by decide)
                   ·replace c137 := Bool.eq_false_iff.mpr c137
                    subst c137
                    (try (have c136b5 : decide ((1 : Int) < (t948.length : Int)) = false := by simpa using c136b0))
                    (try (have c136b6 : decide (1 < t948.length) = false := by simpa using c136b0))
                    rw [if_neg (show ¬ (false = true) by decide)] at H
                    obtain rfl := Option.some.inj H
                    obtain ⟨Ao173, co173, eo173⟩ := Kd.R_slice HO950.out
                    subst eo173
                    go_wp2_with (first | ((with_reducible refine gate_callee (f := 96) rfl ?_); refine goesL_ (some 166) rfl rfl Try.func96 (by kernel_rfl) rfl #[.slice Ao173 t948.length co173] rfl G.ar ?_; (with_reducible refine (impl_StandardSplit.calls kj92 _ _ t948 t951 t952 false _ ?side1 ?side2 A127.out).mono ?_); (case side1 => repeat (first | exact (Kd.R_reads' HO950.out).2.2 | (with_reducible refine Kd.C_alloc ?_ _) | (with_reducible refine Kd.C_drewN ?_ _) | (with_reducible refine Kd.C_drew ?_))); (case side2 => exact (Kd.R_reads' HO950.out).2.1); rintro e w174 ⟨v954, v956, rfl, ho0, ho1, hb⟩; refine ⟨_, rfl, ?_⟩; have n0_ := Aside0.mk (Kd.R_mono (Kd.R_told (Kd.R_told (Kd.R_old (G.kR HO950.out) hb) (Kd.R_base ho0)) (Kd.R_base ho1)) (fun _ h_ => h_.1)); have n1_ := Aside0.mk (Kd.R_lower (Kd.R_new' ho0 (Kd.R_lt (G.kR HO950.out))) (below_size G.bel)); have n2_ := Aside0.mk (Kd.R_lower (Kd.R_new' ho1 (Kd.R_lt (G.kR HO950.out))) (below_size G.bel)); have n3_ := Aside0.mk (below_step G.bel hb); clear HO950; clear HB; have HO950 := n0_; have HO955 := n1_; have HO957 := n2_; have HB := n3_; clear n0_ n1_ n2_ n3_; (try clear hb); (try clear hb2); (try clear hk); (try clear hi); (try clear ho0); (try clear ho1)) | ((with_reducible refine gate_callee (f := 97) rfl ?_); refine goesL_ (some 172) rfl rfl Try.func97 (by kernel_rfl) rfl #[.slice Ao173 t948.length co173] rfl G.ar ?_; (with_reducible refine (spec_StandardSplit.calls kj92 _ _ t948 t958 t959 false _ ?side1 ?side2 A128.out).mono ?_); (case side1 => repeat (first | exact (Kd.R_reads' HO950.out).2.2 | (with_reducible refine Kd.C_alloc ?_ _) | (with_reducible refine Kd.C_drewN ?_ _) | (with_reducible refine Kd.C_drew ?_))); (case side2 => exact (Kd.R_reads' HO950.out).2.1); rintro e w175 ⟨v961, v963, rfl, ho0, ho1, hb⟩; refine ⟨_, rfl, ?_⟩; have n0_ := Aside0.mk (Kd.R_mono (Kd.R_told (Kd.R_told (Kd.R_old (G.kR HO950.out) hb) (Kd.R_base ho0)) (Kd.R_base ho1)) (fun _ h_ => h_.1)); have n1_ := Aside0.mk (Kd.R_mono (Kd.R_told (Kd.R_told (Kd.R_old (G.kR HO955.out) hb) (Kd.R_base ho0)) (Kd.R_base ho1)) (fun _ h_ => h_.1)); have n2_ := Aside0.mk (Kd.R_mono (Kd.R_told (Kd.R_told (Kd.R_old (G.kR HO957.out) hb) (Kd.R_base ho0)) (Kd.R_base ho1)) (fun _ h_ => h_.1)); have n3_ := Aside0.mk (Kd.R_lower (Kd.R_new' (Kd.R_new' (Kd.R_new' ho0 (Kd.R_lt (G.kR HO950.out))) (Kd.R_lt (G.kR HO955.out))) (Kd.R_lt (G.kR HO957.out))) (below_size G.bel)); have n4_ := Aside0.mk (Kd.R_lower (Kd.R_new' (Kd.R_new' (Kd.R_new' ho1 (Kd.R_lt (G.kR HO950.out))) (Kd.R_lt (G.kR HO955.out))) (Kd.R_lt (G.kR HO957.out))) (below_size G.bel)); have n5_ := Aside0.mk (below_step G.bel hb); clear HO950; clear HO955; clear HO957; clear HB; have HO950 := n0_; have HO955 := n1_; have HO957 := n2_; have HO962 := n3_; have HO964 := n4_; have HB := n5_; clear n0_ n1_ n2_ n3_ n4_ n5_; (try clear hb); (try clear hb2); (try clear hk); (try clear hi); (try clear ho0); (try clear ho1); obtain ⟨Ao176, co176, eo176⟩ := Kd.R_slice HO955.out; subst eo176; obtain ⟨Ao177, co177, eo177⟩ := Kd.R_slice HO962.out; subst eo177) | (go_at_call 51; (with_reducible refine (laws_sameInts.calls kj92 _ _ t951 _ _ t958 true _ ?side1 ?side2 ?side3 ?side4 A130.out).mono ?_); (case side1 => repeat (first | exact (Kd.R_reads' HO955.out).2.2 | (with_reducible refine Kd.C_alloc ?_ _) | (with_reducible refine Kd.C_drewN ?_ _) | (with_reducible refine Kd.C_drew ?_))); (case side2 => exact (Kd.R_reads' HO955.out).2.1); (case side3 => repeat (first | exact (Kd.R_reads' HO962.out).2.2 | (with_reducible refine Kd.C_alloc ?_ _) | (with_reducible refine Kd.C_drewN ?_ _) | (with_reducible refine Kd.C_drew ?_))); (case side4 => exact (Kd.R_reads' HO962.out).2.1); rintro e w' ⟨rfl, ⟨nd, rfl⟩⟩; obtain ⟨Ao178, co178, eo178⟩ := Kd.R_slice HO957.out; subst eo178; obtain ⟨Ao179, co179, eo179⟩ := Kd.R_slice HO964.out; subst eo179) | (go_at_call 51; (with_reducible refine (laws_sameInts.calls kj92 _ _ t952 _ _ t959 true _ ?side1 ?side2 ?side3 ?side4 A132.out).mono ?_); (case side1 => repeat (first | exact (Kd.R_reads' HO957.out).2.2 | (with_reducible refine Kd.C_alloc ?_ _) | (with_reducible refine Kd.C_drewN ?_ _) | (with_reducible refine Kd.C_drew ?_))); (case side2 => exact (Kd.R_reads' HO957.out).2.1); (case side3 => repeat (first | exact (Kd.R_reads' HO964.out).2.2 | (with_reducible refine Kd.C_alloc ?_ _) | (with_reducible refine Kd.C_drewN ?_ _) | (with_reducible refine Kd.C_drew ?_))); (case side4 => exact (Kd.R_reads' HO964.out).2.1); rintro e w' ⟨rfl, ⟨nd, rfl⟩⟩) | (go_at_call 85; (with_reducible refine (spec_IsLyndon.calls kj92 _ _ t948 true _ ?side1 ?side2 A134.out).mono ?_); (case side1 => repeat (first | exact (Kd.R_reads' HO950.out).2.2 | (with_reducible refine Kd.C_alloc ?_ _) | (with_reducible refine Kd.C_drewN ?_ _) | (with_reducible refine Kd.C_drew ?_))); (case side2 => exact (Kd.R_reads' HO950.out).2.1); rintro e w' ⟨rfl, ⟨nd, rfl⟩⟩))
                    go_ret
                    exact ⟨G.er, G.bel⟩
                  ·rw [if_neg c136] at H
                   have c136b0 : (t953 == (decide ((t948.length : Int) > 1))) = false := by simpa using c136
                   (try (have c136b1 : decide (t953 = (decide ((t948.length : Int) > 1))) = false := by simpa using c136))
                   (try (have c136b2 : (t953 == (decide ((t948.length : Int) > 1))) = false := by simpa using c136))
                   (try (have c136b3 : ¬ (t953 = (decide ((t948.length : Int) > 1))) := by simpa using c136))
                   clear c136
                   exact absurd ((Option.some.inj H).trans HTrue_.out) (by decide)
                 ·replace c135 := Bool.eq_false_iff.mpr c135
                  subst c135
                  rw [if_neg (show ¬ (false = true) by decide)] at H
                  by_cases c188 : (t953 == false) = true
                  ·rw [if_pos c188] at H
                   have c188b0 : (t953 == false) = true := c188
                   (try (have c188b1 : decide (t953 = false) = true := by simpa using c188))
                   (try (have c188b2 : (t953 == false) = true := by simpa using c188))
                   clear c188
                   by_cases c189 : t953 = true
                   ·subst c189
                    exact absurd c188b0 (by decide)
                   ·replace c189 := Bool.eq_false_iff.mpr c189
                    subst c189
                    rw [if_neg (show ¬ (false = true) by decide)] at H
                    obtain rfl := Option.some.inj H
                    obtain ⟨Ao225, co225, eo225⟩ := Kd.R_slice HO950.out
                    subst eo225
                    go_wp2_with (first | ((with_reducible refine gate_callee (f := 96) rfl ?_); refine goesL_ (some 166) rfl rfl Try.func96 (by kernel_rfl) rfl #[.slice Ao225 t948.length co225] rfl G.ar ?_; (with_reducible refine (impl_StandardSplit.calls kj92 _ _ t948 t951 t952 false _ ?side1 ?side2 A127.out).mono ?_); (case side1 => repeat (first | exact (Kd.R_reads' HO950.out).2.2 | (with_reducible refine Kd.C_alloc ?_ _) | (with_reducible refine Kd.C_drewN ?_ _) | (with_reducible refine Kd.C_drew ?_))); (case side2 => exact (Kd.R_reads' HO950.out).2.1); rintro e w226 ⟨v954, v956, rfl, ho0, ho1, hb⟩; refine ⟨_, rfl, ?_⟩; have n0_ := Aside0.mk (Kd.R_mono (Kd.R_told (Kd.R_told (Kd.R_old (G.kR HO950.out) hb) (Kd.R_base ho0)) (Kd.R_base ho1)) (fun _ h_ => h_.1)); have n1_ := Aside0.mk (Kd.R_lower (Kd.R_new' ho0 (Kd.R_lt (G.kR HO950.out))) (below_size G.bel)); have n2_ := Aside0.mk (Kd.R_lower (Kd.R_new' ho1 (Kd.R_lt (G.kR HO950.out))) (below_size G.bel)); have n3_ := Aside0.mk (below_step G.bel hb); clear HO950; clear HB; have HO950 := n0_; have HO955 := n1_; have HO957 := n2_; have HB := n3_; clear n0_ n1_ n2_ n3_; (try clear hb); (try clear hb2); (try clear hk); (try clear hi); (try clear ho0); (try clear ho1)) | ((with_reducible refine gate_callee (f := 97) rfl ?_); refine goesL_ (some 172) rfl rfl Try.func97 (by kernel_rfl) rfl #[.slice Ao225 t948.length co225] rfl G.ar ?_; (with_reducible refine (spec_StandardSplit.calls kj92 _ _ t948 t958 t959 false _ ?side1 ?side2 A128.out).mono ?_); (case side1 => repeat (first | exact (Kd.R_reads' HO950.out).2.2 | (with_reducible refine Kd.C_alloc ?_ _) | (with_reducible refine Kd.C_drewN ?_ _) | (with_reducible refine Kd.C_drew ?_))); (case side2 => exact (Kd.R_reads' HO950.out).2.1); rintro e w227 ⟨v961, v963, rfl, ho0, ho1, hb⟩; refine ⟨_, rfl, ?_⟩; have n0_ := Aside0.mk (Kd.R_mono (Kd.R_told (Kd.R_told (Kd.R_old (G.kR HO950.out) hb) (Kd.R_base ho0)) (Kd.R_base ho1)) (fun _ h_ => h_.1)); have n1_ := Aside0.mk (Kd.R_mono (Kd.R_told (Kd.R_told (Kd.R_old (G.kR HO955.out) hb) (Kd.R_base ho0)) (Kd.R_base ho1)) (fun _ h_ => h_.1)); have n2_ := Aside0.mk (Kd.R_mono (Kd.R_told (Kd.R_told (Kd.R_old (G.kR HO957.out) hb) (Kd.R_base ho0)) (Kd.R_base ho1)) (fun _ h_ => h_.1)); have n3_ := Aside0.mk (Kd.R_lower (Kd.R_new' (Kd.R_new' (Kd.R_new' ho0 (Kd.R_lt (G.kR HO950.out))) (Kd.R_lt (G.kR HO955.out))) (Kd.R_lt (G.kR HO957.out))) (below_size G.bel)); have n4_ := Aside0.mk (Kd.R_lower (Kd.R_new' (Kd.R_new' (Kd.R_new' ho1 (Kd.R_lt (G.kR HO950.out))) (Kd.R_lt (G.kR HO955.out))) (Kd.R_lt (G.kR HO957.out))) (below_size G.bel)); have n5_ := Aside0.mk (below_step G.bel hb); clear HO950; clear HO955; clear HO957; clear HB; have HO950 := n0_; have HO955 := n1_; have HO957 := n2_; have HO962 := n3_; have HO964 := n4_; have HB := n5_; clear n0_ n1_ n2_ n3_ n4_ n5_; (try clear hb); (try clear hb2); (try clear hk); (try clear hi); (try clear ho0); (try clear ho1); obtain ⟨Ao228, co228, eo228⟩ := Kd.R_slice HO955.out; subst eo228; obtain ⟨Ao229, co229, eo229⟩ := Kd.R_slice HO962.out; subst eo229) | (go_at_call 51; (with_reducible refine (laws_sameInts.calls kj92 _ _ t951 _ _ t958 true _ ?side1 ?side2 ?side3 ?side4 A130.out).mono ?_); (case side1 => repeat (first | exact (Kd.R_reads' HO955.out).2.2 | (with_reducible refine Kd.C_alloc ?_ _) | (with_reducible refine Kd.C_drewN ?_ _) | (with_reducible refine Kd.C_drew ?_))); (case side2 => exact (Kd.R_reads' HO955.out).2.1); (case side3 => repeat (first | exact (Kd.R_reads' HO962.out).2.2 | (with_reducible refine Kd.C_alloc ?_ _) | (with_reducible refine Kd.C_drewN ?_ _) | (with_reducible refine Kd.C_drew ?_))); (case side4 => exact (Kd.R_reads' HO962.out).2.1); rintro e w' ⟨rfl, ⟨nd, rfl⟩⟩; obtain ⟨Ao230, co230, eo230⟩ := Kd.R_slice HO957.out; subst eo230; obtain ⟨Ao231, co231, eo231⟩ := Kd.R_slice HO964.out; subst eo231) | (go_at_call 51; (with_reducible refine (laws_sameInts.calls kj92 _ _ t952 _ _ t959 true _ ?side1 ?side2 ?side3 ?side4 A132.out).mono ?_); (case side1 => repeat (first | exact (Kd.R_reads' HO957.out).2.2 | (with_reducible refine Kd.C_alloc ?_ _) | (with_reducible refine Kd.C_drewN ?_ _) | (with_reducible refine Kd.C_drew ?_))); (case side2 => exact (Kd.R_reads' HO957.out).2.1); (case side3 => repeat (first | exact (Kd.R_reads' HO964.out).2.2 | (with_reducible refine Kd.C_alloc ?_ _) | (with_reducible refine Kd.C_drewN ?_ _) | (with_reducible refine Kd.C_drew ?_))); (case side4 => exact (Kd.R_reads' HO964.out).2.1); rintro e w' ⟨rfl, ⟨nd, rfl⟩⟩) | (go_at_call 85; (with_reducible refine (spec_IsLyndon.calls kj92 _ _ t948 false _ ?side1 ?side2 A134.out).mono ?_); (case side1 => repeat (first | exact (Kd.R_reads' HO950.out).2.2 | (with_reducible refine Kd.C_alloc ?_ _) | (with_reducible refine Kd.C_drewN ?_ _) | (with_reducible refine Kd.C_drew ?_))); (case side2 => exact (Kd.R_reads' HO950.out).2.1); rintro e w' ⟨rfl, ⟨nd, rfl⟩⟩))
                    go_ret
                    exact ⟨G.er, G.bel⟩
                  ·rw [if_neg c188] at H
                   have c188b0 : (t953 == false) = false := by simpa using c188
                   (try (have c188b1 : decide (t953 = false) = false := by simpa using c188))
                   (try (have c188b2 : (t953 == false) = false := by simpa using c188))
                   (try (have c188b3 : ¬ (t953 = false) := by simpa using c188))
                   clear c188
                   exact absurd ((Option.some.inj H).trans HTrue_.out) (by decide)
                ·replace c133 := Bool.eq_false_iff.mpr c133
                 subst c133
                 rw [if_neg (show ¬ (false = true) by decide)] at H
                 exact absurd ((Option.some.inj H).trans HTrue_.out) (by decide)
               ·replace c131 := Bool.eq_false_iff.mpr c131
                subst c131
                rw [if_neg (show ¬ (false = true) by decide)] at H
                exact absurd ((Option.some.inj H).trans HTrue_.out) (by decide)
              ·rw [if_neg c129] at H
               have c129b0 : (t953 == t960) = false := by simpa using c129
               (try (have c129b1 : decide (t953 = t960) = false := by simpa using c129))
               (try (have c129b2 : (t953 == t960) = false := by simpa using c129))
               (try (have c129b3 : ¬ (t953 = t960) := by simpa using c129))
               clear c129
               exact absurd ((Option.some.inj H).trans HTrue_.out) (by decide)
/-- THE ONE PURE STATEMENT of laws_FnLyndon: yours. -/
def laws_FnLyndon.Pure : Prop := (LCok ∧ RTok) ∧ ∀ (l0 : List Int), l0.length ≤ maxLen → l0.length * 1 ≤ 140737488351232 → (∀ x ∈ l0, (Lit.int .u8 x).wf = true) → ∃ k, laws_FnLyndon.f k l0 = some true
theorem laws_FnLyndon.walk (P : laws_FnLyndon.Pure) (a0 : Option Addr) (len0 cap0 : Nat) (z0 : List Int) (w : World) (w0 : (a0 = none ∧ len0 = 0 ∧ cap0 = 0 ∧ z0 = []) ∨ ∃ x, a0 = some x ∧ len0 ≤ cap0 ∧ cap0 ≤ maxLen ∧ z0.length = cap0 ∧ (∀ i, i < z0.length → w.cell? (x.add i) = some (.int .u8 (z0.getD i 0))) ∧ ∀ n ∈ z0, (Lit.int .u8 n).wf = true) (y0 : len0 * 1 ≤ 140737488351232) :
  Calls Try.prog 13 #[.slice a0 len0 cap0] w fun e w' => e = .returned (.bool true) ∧ Below w.heap.size w w' := by
 obtain ⟨l0, rfl, hr0, hm0, hw0, hc0⟩ := ReadsInt.ofRowC w0
 obtain ⟨k, h⟩ := P.2 l0 hm0 y0 hw0
 refine (laws_FnLyndon.calls P.1.1 P.1.2 k _ _ l0 true w (Kd.C_of_reads (d := (0 : Int)) (h1 := fun _ => rfl) hr0) hc0 h).mono ?_
 rintro e w' ⟨rfl, hd⟩
 exact ⟨rfl, hd⟩

end Go.Proofs.Ytolikggioekalab.PFnLyndon
