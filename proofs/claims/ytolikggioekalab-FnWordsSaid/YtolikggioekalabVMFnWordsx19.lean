/- The Go functions that the law FnWords reaches (part 19): each as a Lean function, and that its code comes to these answers. No condition beyond those written. -/
import Derived.Test.YtolikggioekalabVGSlim
import Derived.Test.YtolikggioekalabVGPick
import Derived.Test.YtolikggioekalabVMFnWordsx15
import Derived.Test.YtolikggioekalabVMFnWordsx12
import Derived.Test.YtolikggioekalabVMFnWordsx11
import Derived.Test.YtolikggioekalabVMFnWordsx10
import Derived.Test.YtolikggioekalabVMFnWordsx9
import Derived.Test.YtolikggioekalabVMFnWordsx3
import Derived.Test.YtolikggioekalabVMFnWordsx0
import Derived.Test.YtolikggioekalabVMFnWordsx1
import Derived.Test.YtolikggioekalabVMFnWordsx2
import Derived.Test.YtolikggioekalabVMFnWordsx4
import Derived.Test.YtolikggioekalabVMFnWordsx5
import Derived.Test.YtolikggioekalabVMFnWordsx6
import Derived.Test.YtolikggioekalabVMFnWordsx7
import Derived.Test.YtolikggioekalabVMFnWordsx8
import Derived.Test.YtolikggioekalabVMFnWordsx13
import Derived.Test.YtolikggioekalabVMFnWordsx14
import Derived.Test.YtolikggioekalabVMFnWordsx16
import Derived.Test.YtolikggioekalabVMFnWordsx17
import Derived.Test.YtolikggioekalabVMFnWordsx18
namespace Go.Proofs.Ytolikggioekalab.PFnWords
open Go.RowKit Go.Proofs.YtolikggioekalabW.PrintWords Go.Proofs.YtolikggioekalabW.PrintLast Go.Proofs.YtolikggioekalabW.PrintMore
attribute [local go_sem] max2_int min2_int max_two min_two max_three min_three max_four min_four   -- for this text's walks alone
set_option linter.unusedVariables false
set_option linter.unusedSimpArgs false
set_option linter.unnecessarySimpa false

/-! ### laws_FnWords: function 12 -/
mutual
noncomputable def laws_FnWords.j0 : Nat → List Int → Bool → Option (Bool)
 | 0, _, _ => none
 | k + 1, x0, x74 => if x74 = true then (some false) else (G.draw spec_DrawFactorsOf.Ok fun k bt964 => ((impl_FactorsOf.f k bt964.1 bt964.2).bind fun bt968 => ((spec_FactorsOf.f k bt964.1 bt964.2).bind fun bt972 => (if (bt968.2 != bt972.2) = true then (laws_FnWords.j1 k x0 bt964.1 bt968.2 bt972.1 true) else ((laws_sameWords.f k bt968.1 bt972.1).bind fun t976 => (if t976 = true then ((impl_CountFactors.f k bt964.1 bt964.2).bind fun t977 => ((spec_CountFactors.f k bt964.1 bt964.2).bind fun t978 => (if t977 = t978 then ((impl_ComplexityOf.f k bt964.1 bt964.2).bind fun t979 => ((spec_ComplexityOf.f k bt964.1 bt964.2).bind fun t982 => ((laws_sameInts.f k t979 t982).bind fun t985 => (if t985 = true then ((impl_RightSpecial.f k bt964.1 bt964.2).bind fun t986 => ((spec_RightSpecial.f k bt964.1 bt964.2).bind fun t989 => ((laws_sameWords.f k t986 t989).bind fun t992 => (laws_FnWords.j1 k x0 bt964.1 bt968.2 bt972.1 (!t992))))) else (laws_FnWords.j1 k x0 bt964.1 bt968.2 bt972.1 true))))) else (laws_FnWords.j1 k x0 bt964.1 bt968.2 bt972.1 true)))) else (laws_FnWords.j1 k x0 bt964.1 bt968.2 bt972.1 true)))))))
noncomputable def laws_FnWords.j1 : Nat → List Int → List Int → Bool → List (List Int) → Bool → Option (Bool)
 | 0, _, _, _, _, _ => none
 | k + 1, x0, x12, x15, x16, x129 => if x129 = true then (some false) else (laws_FnWords.l0 k x0 x12 x15 x16 0)
noncomputable def laws_FnWords.l0 : Nat → List Int → List Int → Bool → List (List Int) → Int → Option (Bool)
 | 0, _, _, _, _, _ => none
 | k + 1, x0, x12, x15, x16, x18 => if x18 < (x16.length : Int) then (laws_FnWords.j3 k x0 x12 x15 x16 x18 x15) else (laws_FnWords.j3 k x0 x12 x15 x16 x18 false)
noncomputable def laws_FnWords.j3 : Nat → List Int → List Int → Bool → List (List Int) → Int → Bool → Option (Bool)
 | 0, _, _, _, _, _, _ => none
 | k + 1, x0, x12, x15, x16, x18, x136 => if x136 = true then (if 0 ≤ x18 then (if x18 < (x16.length : Int) then ((impl_IsFactor.f k x12 (rd_L1 x16 x18)).bind fun t994 => (if t994 = true then (if x18 > 0 then (if 0 ≤ (wrap64 (x18 - 1)) then (if (wrap64 (x18 - 1)) < (x16.length : Int) then ((impl_CompareWords.f k (rd_L1 x16 (wrap64 (x18 - 1))) (rd_L1 x16 x18)).bind fun t997 => (if t997 ≥ 0 then (some false) else (laws_FnWords.l0 k x0 x12 x15 x16 (wrap64 (x18 + 1))))) else (none)) else (none)) else (laws_FnWords.l0 k x0 x12 x15 x16 (wrap64 (x18 + 1)))) else (some false))) else (none)) else (none)) else (G.draw spec_DrawReturnWords.Ok fun k bt998 => ((impl_ReturnWords.f k bt998.1 bt998.2).bind fun t1004 => ((spec_ReturnWords.f k bt998.1 bt998.2).bind fun t1007 => ((laws_sameWords.f k t1004 t1007).bind fun t1010 => (if t1010 = true then ((impl_OccurrencesOf.f k bt998.1 bt998.2).bind fun t1011 => ((spec_OccurrencesOf.f k bt998.1 bt998.2).bind fun t1014 => ((laws_sameInts.f k t1011 t1014).bind fun t1017 => (laws_FnWords.j4 k x0 bt998.1 bt998.2 t1004 (!t1017))))) else (laws_FnWords.j4 k x0 bt998.1 bt998.2 t1004 true))))))
noncomputable def laws_FnWords.j4 : Nat → List Int → List Int → List Int → List (List Int) → Bool → Option (Bool)
 | 0, _, _, _, _, _ => none
 | k + 1, x0, x19, x20, x21, x186 => if x186 = true then (some false) else (laws_FnWords.l1 k x0 x19 x20 x21 0)
noncomputable def laws_FnWords.l1 : Nat → List Int → List Int → List Int → List (List Int) → Int → Option (Bool)
 | 0, _, _, _, _, _ => none
 | k + 1, x0, x19, x20, x21, x22 => if x22 < (x21.length : Int) then ((some (([] : List Int) : List Int)).bind fun y1018 => (if 0 ≤ x22 then (if y1018.length + (rd_L1 x21 x22).length < 17592186044416 then ((some (y1018 ++ (rd_L1 x21 x22) : List Int)).bind fun y1022 => (if y1022.length + x20.length < 17592186044416 then ((some (y1022 ++ x20 : List Int)).bind fun y1025 => ((impl_IsFactor.f k x19 y1025).bind fun t1028 => (if t1028 = true then ((impl_OccurrencesOf.f k y1025 x20).bind fun t1029 => (if (t1029.length : Int) = 2 then (laws_FnWords.l1 k x0 x19 x20 x21 (wrap64 (x22 + 1))) else (some false))) else (some false)))) else (none))) else (none)) else (none))) else (G.draw spec_DrawCompareWords.Ok fun k bt1032 => (G.draw spec_DrawIsWord.Ok fun k bt1038 => ((impl_CompareWords.f k bt1032.1 bt1032.2).bind fun t1042 => ((spec_CompareWords.f k bt1032.1 bt1032.2).bind fun t1043 => (if t1042 = t1043 then ((impl_CompareWords.f k bt1032.1 bt1032.2).bind fun t1044 => ((impl_CompareWords.f k bt1032.2 bt1032.1).bind fun t1045 => (if t1044 = (wrap64 (-t1045)) then ((impl_IsWord.f k bt1038.1 bt1038.2).bind fun t1046 => ((spec_IsWord.f k bt1038.1 bt1038.2).bind fun t1047 => (some (t1046 == t1047)))) else (some false)))) else (some false))))))
end
noncomputable def laws_FnWords.f (k : Nat) (l0 : List Int) : Option (Bool) := (laws_big.f l0).bind fun t943 => (if t943 = true then (some true) else (G.draw spec_DrawFormatWord.Ok fun k t944 => ((impl_FormatWord.f k t944).bind fun t947 => ((impl_ParseWord.f k t947).bind fun bt948 => (G.draw spec_DrawParseWord.Ok fun k t952 => ((impl_ParseWord.f k t952).bind fun bt953 => ((spec_ParseWord.f k t952).bind fun bt957 => ((spec_FormatWord.f k t944).bind fun t961 => (if t947.toList = t961.toList then ((spec_IsWord.f k t944 16).bind fun t962 => (if (bt948.2 != t962) = true then (laws_FnWords.j0 k l0 true) else (if bt948.2 = true then ((laws_sameInts.f k bt948.1 t944).bind fun t963 => (if t963 = true then (laws_FnWords.j0 k l0 (bt953.2 != bt957.2)) else (laws_FnWords.j0 k l0 true))) else (laws_FnWords.j0 k l0 (bt953.2 != bt957.2))))) else (laws_FnWords.j0 k l0 true))))))))))
def laws_FnWords.T19 : Bool × List (List Nat × List Nat) := (true, [([], []), ([], []), ([], []), ([1, 2], [1, 2]), ([3], [3]), ([0, 4], [0, 4]), ([5], [5]), ([6, 5], [6]), ([7], [7]), ([8, 7], [7, 8]), ([9, 7, 7], [7, 9]), ([10], [10]), ([10], [10]), ([12, 10], [10, 12]), ([11, 13, 10], [10, 11, 13]), ([14, 10], [10, 14]), ([10], [10]), ([10], [10]), ([16, 17, 10], [10, 16, 17]), ([18, 10], [10, 18]), ([15, 19, 10, 10], [10, 15, 19]), ([20, 10], [10, 20]), ([10, 21, 7], [7, 10, 21]), ([7, 22], [7, 22])])
def laws_FnWords.B19 : List Nat := [0, 0, 0, 6, 14, 31, 63, 127, 255, 511, 1023, 2047, 2047, 6143, 16383, 32767, 2047, 2047, 198655, 460799, 1048575, 2097151, 4194303, 8388607]
theorem laws_FnWords.tab19 : rtab .any (opsOf Try.f12 19) = laws_FnWords.T19 := by kernel_rfl
theorem laws_FnWords.bits19 : waitsOk laws_FnWords.T19.2 laws_FnWords.B19 = true := by kernel_rfl
theorem laws_FnWords.j0_no : ∀ k a0, laws_FnWords.j0 k a0 true ≠ some true := by
 intro k _
 cases k <;> simp [laws_FnWords.j0]
theorem laws_FnWords.j1_no : ∀ k a0 a1 a2 a3, laws_FnWords.j1 k a0 a1 a2 a3 true ≠ some true := by
 intro k _ _ _ _
 cases k <;> simp [laws_FnWords.j1]
theorem laws_FnWords.j4_no : ∀ k a0 a1 a2 a3, laws_FnWords.j4 k a0 a1 a2 a3 true ≠ some true := by
 intro k _ _ _ _
 cases k <;> simp [laws_FnWords.j4]
set_option maxHeartbeats 8000000 in
set_option maxRecDepth 100000 in
theorem laws_FnWords.calls (hFWok : FWok) (k : Nat) (A0 : Option Addr) (c0 : Nat) (l0 : List Int) (r : Bool) (w : World) (hr0 : Kd.C (Kd.int .u8) w A0 l0.length l0) (hc0 : l0.length ≤ c0) (h : laws_FnWords.f k l0 = some r) (hT : r = true := by rfl) :
  Calls Try.prog 12 #[.slice A0 l0.length c0] w fun e w' => e = .returned (.bool r) ∧ Below w.heap.size w w' := by
 have HFWok_ := Aside0.mk hFWok
 clear hFWok
 have HTrue_ := Aside0.mk hT
 clear hT
 have HR0 := Aside0.mk hr0
 have HC0 := Aside0.mk hc0
 clear hr0 hc0
 have HB := Aside0.mk (Below.refl w.heap.size w)
 have H : ((laws_big.f l0).bind fun t943 => (if t943 = true then (some true) else (G.draw spec_DrawFormatWord.Ok fun k t944 => ((impl_FormatWord.f k t944).bind fun t947 => ((impl_ParseWord.f k t947).bind fun bt948 => (G.draw spec_DrawParseWord.Ok fun k t952 => ((impl_ParseWord.f k t952).bind fun bt953 => ((spec_ParseWord.f k t952).bind fun bt957 => ((spec_FormatWord.f k t944).bind fun t961 => (if t947.toList = t961.toList then ((spec_IsWord.f k t944 16).bind fun t962 => (if (bt948.2 != t962) = true then (laws_FnWords.j0 k l0 true) else (if bt948.2 = true then ((laws_sameInts.f k bt948.1 t944).bind fun t963 => (if t963 = true then (laws_FnWords.j0 k l0 (bt953.2 != bt957.2)) else (laws_FnWords.j0 k l0 true))) else (laws_FnWords.j0 k l0 (bt953.2 != bt957.2))))) else (laws_FnWords.j0 k l0 true))))))))))) = some r := h
 clear h
 obtain ⟨t943, A2, H⟩ := G.bx H
 by_cases c3 : t943 = true
 ·subst c3
  rw [if_pos rfl] at H
  obtain rfl := Option.some.inj H
  go_enter Try.func12, Try.ntmps12
  go_wp2_with (first | ((with_reducible refine gate_callee (f := 41) rfl ?_); refine goesL_ (some 29) rfl rfl Try.func41 (by kernel_rfl) rfl #[.slice A0 l0.length c0] rfl G.ar ?_; (with_reducible refine (laws_big.calls _ _ l0 true _ ?side1 ?side2 A2.out).mono ?_); (case side1 => exact G.kC HR0.out); (case side2 => exact HC0.out); rintro e w' ⟨rfl, ⟨nd, rfl⟩⟩; refine ⟨_, rfl, ?_⟩))
  go_ret
  exact ⟨G.er, G.bel⟩
 ·replace c3 := Bool.eq_false_iff.mpr c3
  subst c3
  rw [if_neg (show ¬ (false = true) by decide)] at H
  have HBIG_ := Aside0.mk (big_le A2.out)
  go_enter Try.func12, Try.ntmps12
  go_upto_region 4 with (first | ((with_reducible refine gate_callee (f := 41) rfl ?_); refine goesL_ (some 29) rfl rfl Try.func41 (by kernel_rfl) rfl #[.slice A0 l0.length c0] rfl G.ar ?_; (with_reducible refine (laws_big.calls _ _ l0 false _ ?side1 ?side2 A2.out).mono ?_); (case side1 => exact G.kC HR0.out); (case side2 => exact HC0.out); rintro e w' ⟨rfl, ⟨nd, rfl⟩⟩; refine ⟨_, rfl, ?_⟩) | ((with_reducible refine gate_callee (f := 61) rfl ?_); refine goesL_ (some 31) rfl rfl Try.func61 (by kernel_rfl) rfl #[.slice A0 l0.length c0] rfl G.ar ?_; (with_reducible refine (spec_DrawFormatWord.any _ _ l0 _ ?side1 ?side2 ?side3).mono ?_); (case side3 => exact HBIG_.out); (case side1 => exact G.kC HR0.out); (case side2 => exact HC0.out); rintro e w11 ⟨t944, v945, hw_, rfl, ho0, hb⟩; have A4 := Aside0.mk hw_; clear hw_; refine ⟨_, rfl, ?_⟩; have n0_ := Aside0.mk (Kd.R_lower ho0 (below_size G.bel)); have n1_ := Aside0.mk (below_step G.bel hb); clear HB; have HO946 := n0_; have HB := n1_; clear n0_ n1_; (try clear hb); (try clear hb2); (try clear hk); (try clear hi); (try clear ho0)))
  obtain ⟨k, H⟩ := G.draw_out H t944 A4.out
  replace H : ((impl_FormatWord.f k t944).bind fun t947 => ((impl_ParseWord.f k t947).bind fun bt948 => (G.draw spec_DrawParseWord.Ok fun k t952 => ((impl_ParseWord.f k t952).bind fun bt953 => ((spec_ParseWord.f k t952).bind fun bt957 => ((spec_FormatWord.f k t944).bind fun t961 => (if t947.toList = t961.toList then ((spec_IsWord.f k t944 16).bind fun t962 => (if (bt948.2 != t962) = true then (laws_FnWords.j0 k l0 true) else (if bt948.2 = true then ((laws_sameInts.f k bt948.1 t944).bind fun t963 => (if t963 = true then (laws_FnWords.j0 k l0 (bt953.2 != bt957.2)) else (laws_FnWords.j0 k l0 true))) else (laws_FnWords.j0 k l0 (bt953.2 != bt957.2))))) else (laws_FnWords.j0 k l0 true)))))))) = some r := H
  obtain ⟨t947, A5, H⟩ := G.bx H
  obtain ⟨⟨t948, t949⟩, A6, H⟩ := G.bx H
  replace H : (G.draw spec_DrawParseWord.Ok fun k t952 => ((impl_ParseWord.f k t952).bind fun bt953 => ((spec_ParseWord.f k t952).bind fun bt957 => ((spec_FormatWord.f k t944).bind fun t961 => (if t947.toList = t961.toList then ((spec_IsWord.f k t944 16).bind fun t962 => (if (t949 != t962) = true then (laws_FnWords.j0 k l0 true) else (if t949 = true then ((laws_sameInts.f k t948 t944).bind fun t963 => (if t963 = true then (laws_FnWords.j0 k l0 (bt953.2 != bt957.2)) else (laws_FnWords.j0 k l0 true))) else (laws_FnWords.j0 k l0 (bt953.2 != bt957.2))))) else (laws_FnWords.j0 k l0 true)))))) = some r := H
  obtain ⟨Ao12, co12, eo12⟩ := Kd.R_slice HO946.out
  (first | subst eo12 | cases eo12)
  go_upto_region 7 with (first | ((with_reducible refine gate_callee (f := 62) rfl ?_); refine goesL_ (some 33) rfl rfl Try.func62 (by kernel_rfl) rfl #[.slice Ao12 t944.length co12] rfl G.ar ?_; (with_reducible refine (impl_FormatWord.calls k _ _ t944 t947 _ ?side1 ?side2 A5.out).mono ?_); (case side1 => repeat (first | exact (Kd.R_reads' HO946.out).2.2 | (with_reducible refine Kd.C_alloc ?_ _) | (with_reducible refine Kd.C_drewN ?_ _) | (with_reducible refine Kd.C_drew ?_))); (case side2 => exact (Kd.R_reads' HO946.out).2.1); rintro e w13 ⟨rfl, hb⟩; refine ⟨_, rfl, ?_⟩; have n0_ := Aside0.mk (Kd.R_below (G.kR HO946.out) hb); have n1_ := Aside0.mk (below_step G.bel hb); clear HO946; clear HB; have HO946 := n0_; have HB := n1_; clear n0_ n1_; (try clear hb); (try clear hb2); (try clear hk); (try clear hi)) | ((with_reducible refine gate_callee (f := 63) rfl ?_); refine goesL_ (some 36) rfl rfl Try.func63 (by kernel_rfl) rfl #[.string t947] rfl G.ar ?_; (with_reducible refine (impl_ParseWord.calls k t947 t948 t949 _ A6.out).mono ?_); rintro e w14 ⟨v950, rfl, ho0, hb⟩; refine ⟨_, rfl, ?_⟩; have n0_ := Aside0.mk (Kd.R_elder' (G.kR HO946.out) (Kd.R_base ho0) hb); have n1_ := Aside0.mk (Kd.R_lower (Kd.R_new' ho0 (Kd.R_lt (G.kR HO946.out))) (below_size G.bel)); have n2_ := Aside0.mk (below_step G.bel hb); clear HO946; clear HB; have HO946 := n0_; have HO951 := n1_; have HB := n2_; clear n0_ n1_ n2_; (try clear hb); (try clear hb2); (try clear hk); (try clear hi); (try clear ho0)) | ((with_reducible refine gate_callee (f := 64) rfl ?_); refine goesL_ (some 40) rfl rfl Try.func64 (by kernel_rfl) rfl #[.slice A0 l0.length c0] rfl G.ar ?_; (with_reducible refine (spec_DrawParseWord.any _ _ l0 _ ?side1 ?side2 ?side3 HFWok_.out).mono ?_); (case side3 => exact HBIG_.out); (case side1 => exact G.kC (Kd.C_below HR0.out HB.out)); (case side2 => exact HC0.out); rintro e w15 ⟨t952, hw_, rfl, hb⟩; have A7 := Aside0.mk hw_; clear hw_; refine ⟨_, rfl, ?_⟩; have n0_ := Aside0.mk (Kd.R_below (G.kR HO946.out) hb); have n1_ := Aside0.mk (Kd.R_below (G.kR HO951.out) hb); have n2_ := Aside0.mk (below_step G.bel hb); clear HO946; clear HO951; clear HB; have HO946 := n0_; have HO951 := n1_; have HB := n2_; clear n0_ n1_ n2_; (try clear hb); (try clear hb2); (try clear hk); (try clear hi)))
  obtain ⟨k, H⟩ := G.draw_out H t952 A7.out
  replace H : ((impl_ParseWord.f k t952).bind fun bt953 => ((spec_ParseWord.f k t952).bind fun bt957 => ((spec_FormatWord.f k t944).bind fun t961 => (if t947.toList = t961.toList then ((spec_IsWord.f k t944 16).bind fun t962 => (if (t949 != t962) = true then (laws_FnWords.j0 k l0 true) else (if t949 = true then ((laws_sameInts.f k t948 t944).bind fun t963 => (if t963 = true then (laws_FnWords.j0 k l0 (bt953.2 != bt957.2)) else (laws_FnWords.j0 k l0 true))) else (laws_FnWords.j0 k l0 (bt953.2 != bt957.2))))) else (laws_FnWords.j0 k l0 true))))) = some r := H
  obtain ⟨⟨t953, t954⟩, A8, H⟩ := G.bx H
  replace H : ((spec_ParseWord.f k t952).bind fun bt957 => ((spec_FormatWord.f k t944).bind fun t961 => (if t947.toList = t961.toList then ((spec_IsWord.f k t944 16).bind fun t962 => (if (t949 != t962) = true then (laws_FnWords.j0 k l0 true) else (if t949 = true then ((laws_sameInts.f k t948 t944).bind fun t963 => (if t963 = true then (laws_FnWords.j0 k l0 (t954 != bt957.2)) else (laws_FnWords.j0 k l0 true))) else (laws_FnWords.j0 k l0 (t954 != bt957.2))))) else (laws_FnWords.j0 k l0 true)))) = some r := H
  obtain ⟨⟨t957, t958⟩, A9, H⟩ := G.bx H
  replace H : ((spec_FormatWord.f k t944).bind fun t961 => (if t947.toList = t961.toList then ((spec_IsWord.f k t944 16).bind fun t962 => (if (t949 != t962) = true then (laws_FnWords.j0 k l0 true) else (if t949 = true then ((laws_sameInts.f k t948 t944).bind fun t963 => (if t963 = true then (laws_FnWords.j0 k l0 (t954 != t958)) else (laws_FnWords.j0 k l0 true))) else (laws_FnWords.j0 k l0 (t954 != t958))))) else (laws_FnWords.j0 k l0 true))) = some r := H
  have HC10 := Aside0.mk H
  clear H
  go_upto_region 9 with (first | ((with_reducible refine gate_callee (f := 63) rfl ?_); refine goesL_ (some 43) rfl rfl Try.func63 (by kernel_rfl) rfl #[.string t952] rfl G.ar ?_; (with_reducible refine (impl_ParseWord.calls k t952 t953 t954 _ A8.out).mono ?_); rintro e w16 ⟨v955, rfl, ho0, hb⟩; refine ⟨_, rfl, ?_⟩; have n0_ := Aside0.mk (Kd.R_elder' (G.kR HO946.out) (Kd.R_base ho0) hb); have n1_ := Aside0.mk (Kd.R_elder' (G.kR HO951.out) (Kd.R_base ho0) hb); have n2_ := Aside0.mk (Kd.R_lower (Kd.R_new' (Kd.R_new' ho0 (Kd.R_lt (G.kR HO946.out))) (Kd.R_lt (G.kR HO951.out))) (below_size G.bel)); have n3_ := Aside0.mk (below_step G.bel hb); clear HO946; clear HO951; clear HB; have HO946 := n0_; have HO951 := n1_; have HO956 := n2_; have HB := n3_; clear n0_ n1_ n2_ n3_; (try clear hb); (try clear hb2); (try clear hk); (try clear hi); (try clear ho0)) | ((with_reducible refine gate_callee (f := 65) rfl ?_); refine goesL_ (some 48) rfl rfl Try.func65 (by kernel_rfl) rfl #[.string t952] rfl G.ar ?_; (with_reducible refine (spec_ParseWord.calls k t952 t957 t958 _ A9.out).mono ?_); rintro e w17 ⟨v959, rfl, ho0, hb⟩; refine ⟨_, rfl, ?_⟩; have n0_ := Aside0.mk (Kd.R_elder' (G.kR HO946.out) (Kd.R_base ho0) hb); have n1_ := Aside0.mk (Kd.R_elder' (G.kR HO951.out) (Kd.R_base ho0) hb); have n2_ := Aside0.mk (Kd.R_elder' (G.kR HO956.out) (Kd.R_base ho0) hb); have n3_ := Aside0.mk (Kd.R_lower (Kd.R_new' (Kd.R_new' (Kd.R_new' ho0 (Kd.R_lt (G.kR HO946.out))) (Kd.R_lt (G.kR HO951.out))) (Kd.R_lt (G.kR HO956.out))) (below_size G.bel)); have n4_ := Aside0.mk (below_step G.bel hb); clear HO946; clear HO951; clear HO956; clear HB; have HO946 := n0_; have HO951 := n1_; have HO956 := n2_; have HO960 := n3_; have HB := n4_; clear n0_ n1_ n2_ n3_ n4_; (try clear hb); (try clear hb2); (try clear hk); (try clear hi); (try clear ho0)))
  (try simp only [Act.put, List.setIfInBounds_toArray, List.set_cons_zero, List.set_cons_succ])
  go_cut [74] (fun v74 wc => ∃ (kq : Nat) (x74_9 : Bool), v74 = .bool x74_9 ∧ Aside0 (laws_FnWords.j0 kq l0 x74_9 = some r) ∧ Aside0 (kq ≤ k) ∧ Aside0 (Below w.heap.size w wc))
  case first => as_aux_lemma =>
   have H := HC10.out
   clear HC10
   obtain ⟨t961, A18, H⟩ := G.bx H
   by_cases c19 : t947.toList = t961.toList
   ·rw [if_pos c19] at H
    have c19b0 : (t947.toList == t961.toList) = true := beq_iff_eq.mpr c19
    have c19b1 : (t947.toList != t961.toList) = false := bne_eq_false_iff_eq.mpr c19
    clear c19
    (first | rw [c19b0] | (simp only [i64_w, i32_w]; rw [c19b0]) | skip)
    obtain ⟨t962, A20, H⟩ := G.bx H
    by_cases c21 : (t949 != t962) = true
    ·rw [if_pos c21] at H
     exact absurd (H.trans (congrArg some HTrue_.out)) (laws_FnWords.j0_no _ _)
    ·rw [if_neg c21] at H
     have c21b0 : (t949 != t962) = false := by simpa using c21
     (try (have c21b1 : decide (t949 = t962) = true := by simpa using c21))
     (try (have c21b2 : (t949 == t962) = true := by simpa using c21))
     clear c21
     by_cases c22 : t949 = true
     ·subst c22
      rw [if_pos rfl] at H
      obtain ⟨t963, A23, H⟩ := G.bx H
      by_cases c24 : t963 = true
      ·subst c24
       rw [if_pos rfl] at H
       have H' := Aside0.mk H
       clear H
       go_wp2_with (first | ((with_reducible refine gate_callee (f := 66) rfl ?_); refine goesL_ (some 53) rfl rfl Try.func66 (by kernel_rfl) rfl #[.slice Ao12 t944.length co12] rfl G.ar ?_; (with_reducible refine (spec_FormatWord.calls k _ _ t944 t961 _ ?side1 ?side2 A18.out).mono ?_); (case side1 => repeat (first | exact (Kd.R_reads' HO946.out).2.2 | (with_reducible refine Kd.C_alloc ?_ _) | (with_reducible refine Kd.C_drewN ?_ _) | (with_reducible refine Kd.C_drew ?_))); (case side2 => exact (Kd.R_reads' HO946.out).2.1); rintro e w' ⟨rfl, ⟨nd, rfl⟩⟩; refine ⟨_, rfl, ?_⟩) | (go_at_call 67; (with_reducible refine (spec_IsWord.calls k _ _ t944 16 t962 _ ?side1 ?side2 A20.out).mono ?_); (case side1 => repeat (first | exact (Kd.R_reads' HO946.out).2.2 | (with_reducible refine Kd.C_alloc ?_ _) | (with_reducible refine Kd.C_drewN ?_ _) | (with_reducible refine Kd.C_drew ?_))); (case side2 => exact (Kd.R_reads' HO946.out).2.1); rintro e w' ⟨rfl, ⟨nd, rfl⟩⟩; obtain ⟨Ao25, co25, eo25⟩ := Kd.R_slice HO951.out; subst eo25) | (go_at_call 51; (with_reducible refine (laws_sameInts.calls k _ _ t948 _ _ t944 true _ ?side1 ?side2 ?side3 ?side4 A23.out).mono ?_); (case side1 => repeat (first | exact (Kd.R_reads' HO951.out).2.2 | (with_reducible refine Kd.C_alloc ?_ _) | (with_reducible refine Kd.C_drewN ?_ _) | (with_reducible refine Kd.C_drew ?_))); (case side2 => exact (Kd.R_reads' HO951.out).2.1); (case side3 => repeat (first | exact (Kd.R_reads' HO946.out).2.2 | (with_reducible refine Kd.C_alloc ?_ _) | (with_reducible refine Kd.C_drewN ?_ _) | (with_reducible refine Kd.C_drew ?_))); (case side4 => exact (Kd.R_reads' HO946.out).2.1); rintro e w' ⟨rfl, ⟨nd, rfl⟩⟩))
       go_meet
       case rel => exact ⟨_, ((t954 != t958)), G.tr, H', ⟨by first | omega | exact Nat.le_refl _⟩, ⟨G.bel⟩⟩
      ·replace c24 := Bool.eq_false_iff.mpr c24
       subst c24
       rw [if_neg (show ¬ (false = true) by decide)] at H
       exact absurd (H.trans (congrArg some HTrue_.out)) (laws_FnWords.j0_no _ _)
     ·replace c22 := Bool.eq_false_iff.mpr c22
      subst c22
      rw [if_neg (show ¬ (false = true) by decide)] at H
      have H' := Aside0.mk H
      clear H
      go_wp2_with (first | ((with_reducible refine gate_callee (f := 66) rfl ?_); refine goesL_ (some 53) rfl rfl Try.func66 (by kernel_rfl) rfl #[.slice Ao12 t944.length co12] rfl G.ar ?_; (with_reducible refine (spec_FormatWord.calls k _ _ t944 t961 _ ?side1 ?side2 A18.out).mono ?_); (case side1 => repeat (first | exact (Kd.R_reads' HO946.out).2.2 | (with_reducible refine Kd.C_alloc ?_ _) | (with_reducible refine Kd.C_drewN ?_ _) | (with_reducible refine Kd.C_drew ?_))); (case side2 => exact (Kd.R_reads' HO946.out).2.1); rintro e w' ⟨rfl, ⟨nd, rfl⟩⟩; refine ⟨_, rfl, ?_⟩) | (go_at_call 67; (with_reducible refine (spec_IsWord.calls k _ _ t944 16 t962 _ ?side1 ?side2 A20.out).mono ?_); (case side1 => repeat (first | exact (Kd.R_reads' HO946.out).2.2 | (with_reducible refine Kd.C_alloc ?_ _) | (with_reducible refine Kd.C_drewN ?_ _) | (with_reducible refine Kd.C_drew ?_))); (case side2 => exact (Kd.R_reads' HO946.out).2.1); rintro e w' ⟨rfl, ⟨nd, rfl⟩⟩))
      go_meet
      case rel => exact ⟨_, ((t954 != t958)), G.tr, H', ⟨by first | omega | exact Nat.le_refl _⟩, ⟨G.bel⟩⟩
   ·rw [if_neg c19] at H
    exact absurd (H.trans (congrArg some HTrue_.out)) (laws_FnWords.j0_no _ _)
  case rest => as_aux_lemma =>
   clear HC10
   try clear c1; try clear c2; try clear p2; try clear c3; try clear c4; try clear c6; try clear c12; try clear c19; try clear c19b0; try clear c19b1; try clear c21; try clear c21b0; try clear c21b1; try clear c21b2; try clear c22; try clear c24
   obtain ⟨kq, x74_9, rfl, HA, HJ9, HB⟩ := hcut
   cases kq with
   | zero => exact absurd HA.out (by simp [laws_FnWords.j0])
   | succ kj9 =>
    have H := HA.out
    clear HA
    simp only [laws_FnWords.j0] at H
    by_cases c27 : x74_9 = true
    ·subst c27
     rw [if_pos rfl] at H
     exact absurd ((Option.some.inj H).trans HTrue_.out) (by decide)
    ·replace c27 := Bool.eq_false_iff.mpr c27
     subst c27
     rw [if_neg (show ¬ (false = true) by decide)] at H
     go_upto_region 12 with (first | ((with_reducible refine gate_callee (f := 68) rfl ?_); refine goesL_ (some 77) rfl rfl Try.func68 (by kernel_rfl) rfl #[.slice A0 l0.length c0] rfl G.ar ?_; (with_reducible refine (spec_DrawFactorsOf.any _ _ l0 _ ?side1 ?side2 ?side3).mono ?_); (case side3 => exact HBIG_.out); (case side1 => exact G.kC (Kd.C_below HR0.out HB.out)); (case side2 => exact HC0.out); rintro e w32 ⟨t964, t965, v966, hw_, rfl, ho0, hb⟩; have A28 := Aside0.mk hw_; clear hw_; refine ⟨_, rfl, ?_⟩; have n0_ := Aside0.mk (Kd.R_lower ho0 (below_size G.bel)); have n1_ := Aside0.mk (below_step G.bel hb); clear HB; have HO967 := n0_; have HB := n1_; clear n0_ n1_; (try clear hb); (try clear hb2); (try clear hk); (try clear hi); (try clear ho0)))
     obtain ⟨kj9, H⟩ := G.draw_out H (t964, t965) A28.out
     replace H : ((impl_FactorsOf.f kj9 t964 t965).bind fun bt968 => ((spec_FactorsOf.f kj9 t964 t965).bind fun bt972 => (if (bt968.2 != bt972.2) = true then (laws_FnWords.j1 kj9 l0 t964 bt968.2 bt972.1 true) else ((laws_sameWords.f kj9 bt968.1 bt972.1).bind fun t976 => (if t976 = true then ((impl_CountFactors.f kj9 t964 t965).bind fun t977 => ((spec_CountFactors.f kj9 t964 t965).bind fun t978 => (if t977 = t978 then ((impl_ComplexityOf.f kj9 t964 t965).bind fun t979 => ((spec_ComplexityOf.f kj9 t964 t965).bind fun t982 => ((laws_sameInts.f kj9 t979 t982).bind fun t985 => (if t985 = true then ((impl_RightSpecial.f kj9 t964 t965).bind fun t986 => ((spec_RightSpecial.f kj9 t964 t965).bind fun t989 => ((laws_sameWords.f kj9 t986 t989).bind fun t992 => (laws_FnWords.j1 kj9 l0 t964 bt968.2 bt972.1 (!t992))))) else (laws_FnWords.j1 kj9 l0 t964 bt968.2 bt972.1 true))))) else (laws_FnWords.j1 kj9 l0 t964 bt968.2 bt972.1 true)))) else (laws_FnWords.j1 kj9 l0 t964 bt968.2 bt972.1 true)))))) = some r := H
     obtain ⟨⟨t968, t969⟩, A29, H⟩ := G.bx H
     replace H : ((spec_FactorsOf.f kj9 t964 t965).bind fun bt972 => (if (t969 != bt972.2) = true then (laws_FnWords.j1 kj9 l0 t964 t969 bt972.1 true) else ((laws_sameWords.f kj9 t968 bt972.1).bind fun t976 => (if t976 = true then ((impl_CountFactors.f kj9 t964 t965).bind fun t977 => ((spec_CountFactors.f kj9 t964 t965).bind fun t978 => (if t977 = t978 then ((impl_ComplexityOf.f kj9 t964 t965).bind fun t979 => ((spec_ComplexityOf.f kj9 t964 t965).bind fun t982 => ((laws_sameInts.f kj9 t979 t982).bind fun t985 => (if t985 = true then ((impl_RightSpecial.f kj9 t964 t965).bind fun t986 => ((spec_RightSpecial.f kj9 t964 t965).bind fun t989 => ((laws_sameWords.f kj9 t986 t989).bind fun t992 => (laws_FnWords.j1 kj9 l0 t964 t969 bt972.1 (!t992))))) else (laws_FnWords.j1 kj9 l0 t964 t969 bt972.1 true))))) else (laws_FnWords.j1 kj9 l0 t964 t969 bt972.1 true)))) else (laws_FnWords.j1 kj9 l0 t964 t969 bt972.1 true))))) = some r := H
     obtain ⟨⟨t972, t975⟩, A30, H⟩ := G.bx H
     replace H : (if (t969 != t975) = true then (laws_FnWords.j1 kj9 l0 t964 t969 t972 true) else ((laws_sameWords.f kj9 t968 t972).bind fun t976 => (if t976 = true then ((impl_CountFactors.f kj9 t964 t965).bind fun t977 => ((spec_CountFactors.f kj9 t964 t965).bind fun t978 => (if t977 = t978 then ((impl_ComplexityOf.f kj9 t964 t965).bind fun t979 => ((spec_ComplexityOf.f kj9 t964 t965).bind fun t982 => ((laws_sameInts.f kj9 t979 t982).bind fun t985 => (if t985 = true then ((impl_RightSpecial.f kj9 t964 t965).bind fun t986 => ((spec_RightSpecial.f kj9 t964 t965).bind fun t989 => ((laws_sameWords.f kj9 t986 t989).bind fun t992 => (laws_FnWords.j1 kj9 l0 t964 t969 t972 (!t992))))) else (laws_FnWords.j1 kj9 l0 t964 t969 t972 true))))) else (laws_FnWords.j1 kj9 l0 t964 t969 t972 true)))) else (laws_FnWords.j1 kj9 l0 t964 t969 t972 true)))) = some r := H
     have HC31 := Aside0.mk H
     clear H
     obtain ⟨Ao33, co33, eo33⟩ := Kd.R_slice HO967.out
     (first | subst eo33 | cases eo33)
     go_upto_region 14 with (first | ((with_reducible refine gate_callee (f := 31) rfl ?_); refine goesL_ (some 83) rfl rfl Try.func31 (by kernel_rfl) rfl #[.slice Ao33 t964.length co33, .int .i64 t965] rfl G.ar ?_; (with_reducible refine (impl_FactorsOf.calls kj9 _ _ t964 t965 t968 t969 _ ?side1 ?side2 A29.out).mono ?_); (case side1 => repeat (first | exact (Kd.R_reads' HO967.out).2.2 | (with_reducible refine Kd.C_alloc ?_ _) | (with_reducible refine Kd.C_drewN ?_ _) | (with_reducible refine Kd.C_drew ?_))); (case side2 => exact (Kd.R_reads' HO967.out).2.1); rintro e w34 ⟨v970, rfl, ho0, hb⟩; refine ⟨_, rfl, ?_⟩; have n0_ := Aside0.mk (Kd.R_below (G.kR HO967.out) hb); have n1_ := Aside0.mk (Kd.N_lower (Kd.N_mono (ok' := fun k_ => some k_ ≠ (.slice Ao33 t964.length co33 : Value).ownBlock) (Kd.S_N (Kd.S_bound ho0)) (fun k_ hk_ => (Kd.fresh' (Kd.R_lt (G.kR HO967.out)) k_ hk_.2.1))) (below_size G.bel)); have n2_ := Aside0.mk (below_step G.bel hb); clear HO967; clear HB; have HO967 := n0_; have HO971 := n1_; have HB := n2_; clear n0_ n1_ n2_; (try clear hb); (try clear hb2); (try clear hk); (try clear hi); (try clear ho0)) | ((with_reducible refine gate_callee (f := 30) rfl ?_); refine goesL_ (some 89) rfl rfl Try.func30 (by kernel_rfl) rfl #[.slice Ao33 t964.length co33, .int .i64 t965] rfl G.ar ?_; (with_reducible refine (spec_FactorsOf.calls kj9 _ _ t964 t965 t972 t975 _ ?side1 ?side2 A30.out).mono ?_); (case side1 => repeat (first | exact (Kd.R_reads' HO967.out).2.2 | (with_reducible refine Kd.C_alloc ?_ _) | (with_reducible refine Kd.C_drewN ?_ _) | (with_reducible refine Kd.C_drew ?_))); (case side2 => exact (Kd.R_reads' HO967.out).2.1); rintro e w35 ⟨v973, rfl, ho0, hb⟩; refine ⟨_, rfl, ?_⟩; have n0_ := Aside0.mk (Kd.R_below (G.kR HO967.out) hb); have n1_ := Aside0.mk (Kd.N_elder' (G.kN HO971.out) (Kd.N_base ho0) hb); have n2_ := Aside0.mk (Kd.N_lower (Kd.N_mono (ok' := fun k_ => some k_ ≠ (.slice Ao33 t964.length co33 : Value).ownBlock ∧ some k_ ≠ (v970 : Value).ownBlock) ho0 (fun k_ hk_ => ⟨(Kd.fresh' (Kd.R_lt (G.kR HO967.out)) k_ hk_), (Kd.fresh' (Kd.N_lt (G.kN HO971.out)) k_ hk_)⟩)) (below_size G.bel)); have n3_ := Aside0.mk (below_step G.bel hb); clear HO967; clear HO971; clear HB; have HO967 := n0_; have HO971 := n1_; have HO974 := n2_; have HB := n3_; clear n0_ n1_ n2_ n3_; (try clear hb); (try clear hb2); (try clear hk); (try clear hi); (try clear ho0)))
     (try simp only [Act.put, List.setIfInBounds_toArray, List.set_cons_zero, List.set_cons_succ])
     go_cut [129] (fun v129 wc => ∃ (kq : Nat) (x129_30 : Bool), v129 = .bool x129_30 ∧ Aside0 (laws_FnWords.j1 kq l0 t964 t969 t972 x129_30 = some r) ∧ Aside0 (kq ≤ kj9) ∧ Aside0 (Kd.R (Kd.int .i64) 3 wc w.heap.size (fun _ => True) (.slice Ao33 t964.length co33) t964) ∧ Aside0 (Kd.N (Kd.slice 3 (Kd.int .i64)) 22 wc w.heap.size (fun k_ => some k_ ≠ ((.slice Ao33 t964.length co33) : Value).ownBlock) v973 t972) ∧ Aside0 (Below w.heap.size w wc))
     case first => as_aux_lemma =>
      have H := HC31.out
      clear HC31
      by_cases c36 : (t969 != t975) = true
      ·rw [if_pos c36] at H
       exact absurd (H.trans (congrArg some HTrue_.out)) (laws_FnWords.j1_no _ _ _ _ _)
      ·rw [if_neg c36] at H
       have c36b0 : (t969 != t975) = false := by simpa using c36
       (try (have c36b1 : decide (t969 = t975) = true := by simpa using c36))
       (try (have c36b2 : (t969 == t975) = true := by simpa using c36))
       clear c36
       (first | rw [c36b0] | (simp only [i64_w, i32_w]; rw [c36b0]) | skip)
       obtain ⟨t976, A37, H⟩ := G.bx H
       by_cases c38 : t976 = true
       ·subst c38
        rw [if_pos rfl] at H
        obtain ⟨t977, A39, H⟩ := G.bx H
        obtain ⟨t978, A40, H⟩ := G.bx H
        by_cases c41 : t977 = t978
        ·rw [if_pos c41] at H
         have c41b0 : (t977 == t978) = true := beq_iff_eq.mpr c41
         have c41b1 : (t977 != t978) = false := bne_eq_false_iff_eq.mpr c41
         clear c41
         obtain ⟨t979, A42, H⟩ := G.bx H
         obtain ⟨t982, A43, H⟩ := G.bx H
         obtain ⟨t985, A44, H⟩ := G.bx H
         by_cases c45 : t985 = true
         ·subst c45
          rw [if_pos rfl] at H
          obtain ⟨t986, A46, H⟩ := G.bx H
          obtain ⟨t989, A47, H⟩ := G.bx H
          obtain ⟨t992, A48, H⟩ := G.bx H
          have H' := Aside0.mk H
          clear H
          obtain ⟨Ao49, co49, eo49⟩ := Kd.N_slice HO971.out
          subst eo49
          obtain ⟨Ao50, co50, eo50⟩ := Kd.N_slice HO974.out
          subst eo50
          go_wp2_with (first | (go_at_call 69; (with_reducible refine (laws_sameWords.calls kj9 _ _ t968 _ _ t972 true _ ?side1 ?side2 ?side3 ?side4 A37.out).mono ?_); (case side1 => repeat (first | exact (Kd.N_reads' HO971.out).2.2 | (with_reducible refine Kd.C_alloc ?_ _) | (with_reducible refine Kd.C_drewN ?_ _) | (with_reducible refine Kd.C_drew ?_))); (case side2 => exact (Kd.N_reads' HO971.out).2.1); (case side3 => repeat (first | exact (Kd.N_reads' HO974.out).2.2 | (with_reducible refine Kd.C_alloc ?_ _) | (with_reducible refine Kd.C_drewN ?_ _) | (with_reducible refine Kd.C_drew ?_))); (case side4 => exact (Kd.N_reads' HO974.out).2.1); rintro e w' ⟨rfl, ⟨nd, rfl⟩⟩) | (go_at_call 70; (with_reducible refine (impl_CountFactors.calls kj9 _ _ t964 t965 t977 _ ?side1 ?side2 A39.out).mono ?_); (case side1 => repeat (first | exact (Kd.R_reads' HO967.out).2.2 | (with_reducible refine Kd.C_alloc ?_ _) | (with_reducible refine Kd.C_drewN ?_ _) | (with_reducible refine Kd.C_drew ?_))); (case side2 => exact (Kd.R_reads' HO967.out).2.1); rintro e w51 ⟨rfl, hb⟩; have n0_ := Aside0.mk (Kd.R_below (G.kR HO967.out) hb); have n1_ := Aside0.mk (Kd.N_below (G.kN HO971.out) hb); have n2_ := Aside0.mk (Kd.N_below (G.kN HO974.out) hb); have n3_ := Aside0.mk (below_step G.bel hb); clear HO967; clear HO971; clear HO974; clear HB; have HO967 := n0_; have HO971 := n1_; have HO974 := n2_; have HB := n3_; clear n0_ n1_ n2_ n3_; (try clear hb); (try clear hb2); (try clear hk); (try clear hi)) | (go_at_call 71; (with_reducible refine (spec_CountFactors.calls kj9 _ _ t964 t965 t978 _ ?side1 ?side2 A40.out).mono ?_); (case side1 => repeat (first | exact (Kd.R_reads' HO967.out).2.2 | (with_reducible refine Kd.C_alloc ?_ _) | (with_reducible refine Kd.C_drewN ?_ _) | (with_reducible refine Kd.C_drew ?_))); (case side2 => exact (Kd.R_reads' HO967.out).2.1); rintro e w52 ⟨rfl, hb⟩; have n0_ := Aside0.mk (Kd.R_below (G.kR HO967.out) hb); have n1_ := Aside0.mk (Kd.N_below (G.kN HO971.out) hb); have n2_ := Aside0.mk (Kd.N_below (G.kN HO974.out) hb); have n3_ := Aside0.mk (below_step G.bel hb); clear HO967; clear HO971; clear HO974; clear HB; have HO967 := n0_; have HO971 := n1_; have HO974 := n2_; have HB := n3_; clear n0_ n1_ n2_ n3_; (try clear hb); (try clear hb2); (try clear hk); (try clear hi)) | (go_at_call 23; (with_reducible refine (impl_ComplexityOf.calls kj9 _ _ t964 t965 t979 _ ?side1 ?side2 A42.out).mono ?_); (case side1 => repeat (first | exact (Kd.R_reads' HO967.out).2.2 | (with_reducible refine Kd.C_alloc ?_ _) | (with_reducible refine Kd.C_drewN ?_ _) | (with_reducible refine Kd.C_drew ?_))); (case side2 => exact (Kd.R_reads' HO967.out).2.1); rintro e w53 ⟨v980, rfl, ho0, hb⟩; have n0_ := Aside0.mk (Kd.R_elder' (G.kR HO967.out) (Kd.R_base ho0) hb); have n1_ := Aside0.mk (Kd.N_elder' (G.kN HO971.out) (Kd.R_base ho0) hb); have n2_ := Aside0.mk (Kd.N_elder' (G.kN HO974.out) (Kd.R_base ho0) hb); have n3_ := Aside0.mk (Kd.R_lower (Kd.R_new' ho0 (Kd.R_lt (G.kR HO967.out))) (below_size G.bel)); have n4_ := Aside0.mk (below_step G.bel hb); clear HO967; clear HO971; clear HO974; clear HB; have HO967 := n0_; have HO971 := n1_; have HO974 := n2_; have HO981 := n3_; have HB := n4_; clear n0_ n1_ n2_ n3_ n4_; (try clear hb); (try clear hb2); (try clear hk); (try clear hi); (try clear ho0)) | (go_at_call 22; (with_reducible refine (spec_ComplexityOf.calls kj9 _ _ t964 t965 t982 _ ?side1 ?side2 A43.out).mono ?_); (case side1 => repeat (first | exact (Kd.R_reads' HO967.out).2.2 | (with_reducible refine Kd.C_alloc ?_ _) | (with_reducible refine Kd.C_drewN ?_ _) | (with_reducible refine Kd.C_drew ?_))); (case side2 => exact (Kd.R_reads' HO967.out).2.1); rintro e w54 ⟨v983, rfl, ho0, hb⟩; have n0_ := Aside0.mk (Kd.R_elder' (G.kR HO967.out) (Kd.R_base ho0) hb); have n1_ := Aside0.mk (Kd.N_elder' (G.kN HO971.out) (Kd.R_base ho0) hb); have n2_ := Aside0.mk (Kd.N_elder' (G.kN HO974.out) (Kd.R_base ho0) hb); have n3_ := Aside0.mk (Kd.R_elder' (G.kR HO981.out) (Kd.R_base ho0) hb); have n4_ := Aside0.mk (Kd.R_lower (Kd.R_new' (Kd.R_new' ho0 (Kd.R_lt (G.kR HO967.out))) (Kd.R_lt (G.kR HO981.out))) (below_size G.bel)); have n5_ := Aside0.mk (below_step G.bel hb); clear HO967; clear HO971; clear HO974; clear HO981; clear HB; have HO967 := n0_; have HO971 := n1_; have HO974 := n2_; have HO981 := n3_; have HO984 := n4_; have HB := n5_; clear n0_ n1_ n2_ n3_ n4_ n5_; (try clear hb); (try clear hb2); (try clear hk); (try clear hi); (try clear ho0); obtain ⟨Ao55, co55, eo55⟩ := Kd.R_slice HO981.out; subst eo55; obtain ⟨Ao56, co56, eo56⟩ := Kd.R_slice HO984.out; subst eo56) | (go_at_call 51; (with_reducible refine (laws_sameInts.calls kj9 _ _ t979 _ _ t982 true _ ?side1 ?side2 ?side3 ?side4 A44.out).mono ?_); (case side1 => repeat (first | exact (Kd.R_reads' HO981.out).2.2 | (with_reducible refine Kd.C_alloc ?_ _) | (with_reducible refine Kd.C_drewN ?_ _) | (with_reducible refine Kd.C_drew ?_))); (case side2 => exact (Kd.R_reads' HO981.out).2.1); (case side3 => repeat (first | exact (Kd.R_reads' HO984.out).2.2 | (with_reducible refine Kd.C_alloc ?_ _) | (with_reducible refine Kd.C_drewN ?_ _) | (with_reducible refine Kd.C_drew ?_))); (case side4 => exact (Kd.R_reads' HO984.out).2.1); rintro e w' ⟨rfl, ⟨nd, rfl⟩⟩) | (go_at_call 37; (with_reducible refine (impl_RightSpecial.calls kj9 _ _ t964 t965 t986 _ ?side1 ?side2 A46.out).mono ?_); (case side1 => repeat (first | exact (Kd.R_reads' HO967.out).2.2 | (with_reducible refine Kd.C_alloc ?_ _) | (with_reducible refine Kd.C_drewN ?_ _) | (with_reducible refine Kd.C_drew ?_))); (case side2 => exact (Kd.R_reads' HO967.out).2.1); rintro e w57 ⟨v987, rfl, ho0, hb⟩; have n0_ := Aside0.mk (Kd.R_below (G.kR HO967.out) hb); have n1_ := Aside0.mk (Kd.N_elder' (G.kN HO971.out) (Kd.S_base ho0) hb); have n2_ := Aside0.mk (Kd.N_elder' (G.kN HO974.out) (Kd.S_base ho0) hb); have n3_ := Aside0.mk (Kd.R_below (G.kR HO981.out) hb); have n4_ := Aside0.mk (Kd.R_below (G.kR HO984.out) hb); have n5_ := Aside0.mk (Kd.N_lower (Kd.N_mono (ok' := fun k_ => some k_ ≠ (.slice Ao33 t964.length co33 : Value).ownBlock ∧ some k_ ≠ (.slice Ao49 t968.length co49 : Value).ownBlock ∧ some k_ ≠ (.slice Ao50 t972.length co50 : Value).ownBlock ∧ some k_ ≠ (.slice Ao55 t979.length co55 : Value).ownBlock ∧ some k_ ≠ (.slice Ao56 t982.length co56 : Value).ownBlock) (Kd.S_N (Kd.S_bound ho0)) (fun k_ hk_ => ⟨(Kd.fresh' (Kd.R_lt (G.kR HO967.out)) k_ hk_.2.1), (Kd.fresh' (Kd.N_lt (G.kN HO971.out)) k_ hk_.2.1), (Kd.fresh' (Kd.N_lt (G.kN HO974.out)) k_ hk_.2.1), (Kd.fresh' (Kd.R_lt (G.kR HO981.out)) k_ hk_.2.1), (Kd.fresh' (Kd.R_lt (G.kR HO984.out)) k_ hk_.2.1)⟩)) (below_size G.bel)); have n6_ := Aside0.mk (below_step G.bel hb); clear HO967; clear HO971; clear HO974; clear HO981; clear HO984; clear HB; have HO967 := n0_; have HO971 := n1_; have HO974 := n2_; have HO981 := n3_; have HO984 := n4_; have HO988 := n5_; have HB := n6_; clear n0_ n1_ n2_ n3_ n4_ n5_ n6_; (try clear hb); (try clear hb2); (try clear hk); (try clear hi); (try clear ho0)) | (go_at_call 36; (with_reducible refine (spec_RightSpecial.calls kj9 _ _ t964 t965 t989 _ ?side1 ?side2 A47.out).mono ?_); (case side1 => repeat (first | exact (Kd.R_reads' HO967.out).2.2 | (with_reducible refine Kd.C_alloc ?_ _) | (with_reducible refine Kd.C_drewN ?_ _) | (with_reducible refine Kd.C_drew ?_))); (case side2 => exact (Kd.R_reads' HO967.out).2.1); rintro e w58 ⟨v990, rfl, ho0, hb⟩; have n0_ := Aside0.mk (Kd.R_below (G.kR HO967.out) hb); have n1_ := Aside0.mk (Kd.N_elder' (G.kN HO971.out) (Kd.N_base ho0) hb); have n2_ := Aside0.mk (Kd.N_elder' (G.kN HO974.out) (Kd.N_base ho0) hb); have n3_ := Aside0.mk (Kd.R_below (G.kR HO981.out) hb); have n4_ := Aside0.mk (Kd.R_below (G.kR HO984.out) hb); have n5_ := Aside0.mk (Kd.N_elder' (G.kN HO988.out) (Kd.N_base ho0) hb); have n6_ := Aside0.mk (Kd.N_lower (Kd.N_mono (ok' := fun k_ => some k_ ≠ (.slice Ao33 t964.length co33 : Value).ownBlock ∧ some k_ ≠ (.slice Ao49 t968.length co49 : Value).ownBlock ∧ some k_ ≠ (.slice Ao50 t972.length co50 : Value).ownBlock ∧ some k_ ≠ (.slice Ao55 t979.length co55 : Value).ownBlock ∧ some k_ ≠ (.slice Ao56 t982.length co56 : Value).ownBlock ∧ some k_ ≠ (v987 : Value).ownBlock) ho0 (fun k_ hk_ => ⟨(Kd.fresh' (Kd.R_lt (G.kR HO967.out)) k_ hk_), (Kd.fresh' (Kd.N_lt (G.kN HO971.out)) k_ hk_), (Kd.fresh' (Kd.N_lt (G.kN HO974.out)) k_ hk_), (Kd.fresh' (Kd.R_lt (G.kR HO981.out)) k_ hk_), (Kd.fresh' (Kd.R_lt (G.kR HO984.out)) k_ hk_), (Kd.fresh' (Kd.N_lt (G.kN HO988.out)) k_ hk_)⟩)) (below_size G.bel)); have n7_ := Aside0.mk (below_step G.bel hb); clear HO967; clear HO971; clear HO974; clear HO981; clear HO984; clear HO988; clear HB; have HO967 := n0_; have HO971 := n1_; have HO974 := n2_; have HO981 := n3_; have HO984 := n4_; have HO988 := n5_; have HO991 := n6_; have HB := n7_; clear n0_ n1_ n2_ n3_ n4_ n5_ n6_ n7_; (try clear hb); (try clear hb2); (try clear hk); (try clear hi); (try clear ho0); obtain ⟨Ao59, co59, eo59⟩ := Kd.N_slice HO988.out; subst eo59; obtain ⟨Ao60, co60, eo60⟩ := Kd.N_slice HO991.out; subst eo60) | (go_at_call 69; (with_reducible refine (laws_sameWords.calls kj9 _ _ t986 _ _ t989 t992 _ ?side1 ?side2 ?side3 ?side4 A48.out).mono ?_); (case side1 => repeat (first | exact (Kd.N_reads' HO988.out).2.2 | (with_reducible refine Kd.C_alloc ?_ _) | (with_reducible refine Kd.C_drewN ?_ _) | (with_reducible refine Kd.C_drew ?_))); (case side2 => exact (Kd.N_reads' HO988.out).2.1); (case side3 => repeat (first | exact (Kd.N_reads' HO991.out).2.2 | (with_reducible refine Kd.C_alloc ?_ _) | (with_reducible refine Kd.C_drewN ?_ _) | (with_reducible refine Kd.C_drew ?_))); (case side4 => exact (Kd.N_reads' HO991.out).2.1); rintro e w' ⟨rfl, ⟨nd, rfl⟩⟩))
          go_meet
          case rel => exact ⟨_, (!t992), G.tr, H', ⟨by have := HJ9.out; first | omega | exact Nat.le_refl _⟩, ⟨by (with_reducible repeat (first | apply Kd.R_alloc | apply Kd.R_drewN | apply Kd.R_drew)); exact Kd.R_mono HO967.out (fun _ hk => trivial)⟩, ⟨by (with_reducible repeat (first | apply Kd.N_alloc | apply Kd.N_drewN | apply Kd.N_drew)); exact Kd.N_mono HO974.out (fun _ hk => hk.1.1.1.1.1)⟩, ⟨G.bel⟩⟩
         ·replace c45 := Bool.eq_false_iff.mpr c45
          subst c45
          rw [if_neg (show ¬ (false = true) by decide)] at H
          exact absurd (H.trans (congrArg some HTrue_.out)) (laws_FnWords.j1_no _ _ _ _ _)
        ·rw [if_neg c41] at H
         exact absurd (H.trans (congrArg some HTrue_.out)) (laws_FnWords.j1_no _ _ _ _ _)
       ·replace c38 := Bool.eq_false_iff.mpr c38
        subst c38
        rw [if_neg (show ¬ (false = true) by decide)] at H
        exact absurd (H.trans (congrArg some HTrue_.out)) (laws_FnWords.j1_no _ _ _ _ _)
     case rest => as_aux_lemma =>
      clear HC31
      try clear c1; try clear c2; try clear p2; try clear c3; try clear c4; try clear c6; try clear c12; try clear c19; try clear c19b0; try clear c19b1; try clear c21; try clear c21b0; try clear c21b1; try clear c21b2; try clear c22; try clear c24; try clear c27; try clear c30; try clear c31; try clear c36; try clear c36b0; try clear c36b1; try clear c36b2; try clear c38; try clear c41; try clear c41b0; try clear c41b1; try clear c45; try clear c61; try clear c62; try clear c63; try clear c64; try clear c65; try clear c66; try clear c68; try clear p2
      obtain ⟨kq, x129_30, rfl, HA, HJ30, HO_12, HO_16, HB⟩ := hcut
      cases kq with
      | zero => exact absurd HA.out (by simp [laws_FnWords.j1])
      | succ kj30 =>
       have H := HA.out
       clear HA
       simp only [laws_FnWords.j1] at H
       by_cases c75 : x129_30 = true
       ·subst c75
        rw [if_pos rfl] at H
        exact absurd ((Option.some.inj H).trans HTrue_.out) (by decide)
       ·replace c75 := Bool.eq_false_iff.mpr c75
        subst c75
        rw [if_neg (show ¬ (false = true) by decide)] at H
        have H' := Aside0.mk H
        clear H
        go_wp2
        go_loopg [18] kj30 (fun kq v18 w' => ∃ (x18_3 : Int), v18 = .int .i64 x18_3 ∧ Aside0 (laws_FnWords.l0 kq l0 t964 t969 t972 x18_3 = some r) ∧ Aside0 (kq ≤ kj30) ∧ Aside0 (Kd.R (Kd.int .i64) 3 w' w.heap.size (fun _ => True) (.slice Ao33 t964.length co33) t964) ∧ Aside0 (Kd.N (Kd.slice 3 (Kd.int .i64)) 22 w' w.heap.size (fun k_ => some k_ ≠ ((.slice Ao33 t964.length co33) : Value).ownBlock) v973 t972) ∧ Aside0 (Below w.heap.size w w'))
        case atStart => exact ⟨(0), G.tr, H', ⟨Nat.le_refl _⟩, ⟨G.kR HO_12.out⟩, ⟨G.kN HO_16.out⟩, ⟨G.bel⟩⟩
        case round => as_aux_lemma =>
         clear H'
         try clear c1; try clear c2; try clear p2; try clear c3; try clear c4; try clear c6; try clear c7; try clear c12; try clear c19; try clear c19b0; try clear c19b1; try clear c21; try clear c21b0; try clear c21b1; try clear c21b2; try clear c22; try clear c24; try clear c27; try clear c30; try clear c31; try clear c36; try clear c36b0; try clear c36b1; try clear c36b2; try clear c38; try clear c41; try clear c41b0; try clear c41b1; try clear c45; try clear c61; try clear c62; try clear c63; try clear c64; try clear c65; try clear c66; try clear c68; try clear c75; try clear p2
         obtain ⟨x18_3, rfl, HA, HK3, HO_12, HO_16, HB⟩ := hrel
         cases gk with
         | zero => exact absurd HA.out (by simp [laws_FnWords.l0])
         | succ k3 =>
          have H := HA.out
          clear HA
          simp only [laws_FnWords.l0] at H
          have HC76 := Aside0.mk H
          clear H
          go_upto_region 17 with (fail)
          go_cut [136] (fun v136 wc => ∃ (kq : Nat) (x136_75 : Bool), v136 = .bool x136_75 ∧ Aside0 (laws_FnWords.j3 kq l0 t964 t969 t972 x18_3 x136_75 = some r) ∧ Aside0 (kq ≤ k3) ∧ Aside0 (Kd.R (Kd.int .i64) 3 wc w.heap.size (fun _ => True) (.slice Ao33 t964.length co33) t964) ∧ Aside0 (Kd.N (Kd.slice 3 (Kd.int .i64)) 22 wc w.heap.size (fun k_ => some k_ ≠ ((.slice Ao33 t964.length co33) : Value).ownBlock) v973 t972) ∧ Aside0 (Below w.heap.size w wc))
          case first => as_aux_lemma =>
           have H := HC76.out
           clear HC76
           by_cases c77 : x18_3 < (t972.length : Int)
           ·rw [if_pos c77] at H
            have c77b0 : decide (x18_3 < (t972.length : Int)) = true := decide_eq_true c77
            clear c77
            (first | rw [c77b0] | (simp only [i64_w, i32_w]; rw [c77b0]) | skip)
            have H' := Aside0.mk H
            clear H
            obtain ⟨Ao78, co78, eo78⟩ := Kd.N_slice HO_16.out
            subst eo78
            go_wp2
            go_meet
            case rel => exact ⟨_, (t969), G.tr, H', ⟨by have := HJ9.out; have := HJ30.out; have := HK3.out; first | omega | exact Nat.le_refl _⟩, ⟨G.kR HO_12.out⟩, ⟨G.kN HO_16.out⟩, ⟨G.bel⟩⟩
           ·rw [if_neg c77] at H
            have c77b0 : decide (x18_3 < (t972.length : Int)) = false := decide_eq_false c77
            clear c77
            (first | rw [c77b0] | (simp only [i64_w, i32_w]; rw [c77b0]) | skip)
            have H' := Aside0.mk H
            clear H
            obtain ⟨Ao79, co79, eo79⟩ := Kd.N_slice HO_16.out
            subst eo79
            go_wp2
            go_meet
            case rel => exact ⟨_, (false), G.tr, H', ⟨by have := HJ9.out; have := HJ30.out; have := HK3.out; first | omega | exact Nat.le_refl _⟩, ⟨G.kR HO_12.out⟩, ⟨G.kN HO_16.out⟩, ⟨G.bel⟩⟩
          case rest => as_aux_lemma =>
           clear HC76
           try clear c1; try clear c2; try clear p2; try clear c3; try clear c4; try clear c6; try clear c7; try clear c12; try clear c19; try clear c19b0; try clear c19b1; try clear c21; try clear c21b0; try clear c21b1; try clear c21b2; try clear c22; try clear c24; try clear c27; try clear c30; try clear c31; try clear c36; try clear c36b0; try clear c36b1; try clear c36b2; try clear c38; try clear c41; try clear c41b0; try clear c41b1; try clear c45; try clear c61; try clear c62; try clear c63; try clear c64; try clear c65; try clear c66; try clear c68; try clear c75; try clear c77; try clear c77b0; try clear p2
           obtain ⟨kq, x136_75, rfl, HA, HJ75, HO_12, HO_16, HB⟩ := hcut
           cases kq with
           | zero => exact absurd HA.out (by simp [laws_FnWords.j3])
           | succ kj75 =>
            have H := HA.out
            clear HA
            simp only [laws_FnWords.j3] at H
            by_cases c80 : x136_75 = true
            ·subst c80
             rw [if_pos rfl] at H
             by_cases c81 : 0 ≤ x18_3
             ·rw [if_pos c81] at H
              have c81b0 : decide (0 ≤ x18_3) = true := decide_eq_true c81
              clear c81
              by_cases c82 : x18_3 < (t972.length : Int)
              ·rw [if_pos c82] at H
               have c82b0 : decide (x18_3 < (t972.length : Int)) = true := decide_eq_true c82
               clear c82
               obtain ⟨t994, A83, H⟩ := G.bx H
               by_cases c84 : t994 = true
               ·subst c84
                rw [if_pos rfl] at H
                by_cases c85 : x18_3 > 0
                ·rw [if_pos c85] at H
                 have c85b0 : decide (0 < x18_3) = true := decide_eq_true c85
                 clear c85
                 obtain ⟨ji86, hji86⟩ : ∃ j_ : Int, (wrap64 (x18_3 - 1)) = j_ := ⟨_, rfl⟩
                 replace H : (if 0 ≤ (ji86) then (if (ji86) < (t972.length : Int) then ((impl_CompareWords.f kj75 (rd_L1 t972 (ji86)) (rd_L1 t972 x18_3)).bind fun t997 => (if t997 ≥ 0 then (some false) else (laws_FnWords.l0 kj75 l0 t964 t969 t972 (wrap64 (x18_3 + 1))))) else (none)) else (none)) = some r := by first | (rw [hji86] at H; exact H) | (simp only [hji86] at H ⊢; exact H)
                 (try rw [hji86] at A83)
                 have hji86w : (IntKind.i64.wrap (x18_3 - 1)) = ji86 := (i64_w _).trans hji86
                 by_cases c87 : 0 ≤ (ji86)
                 ·rw [if_pos c87] at H
                  have c87b0 : decide (0 ≤ (ji86)) = true := decide_eq_true c87
                  clear c87
                  by_cases c88 : (ji86) < (t972.length : Int)
                  ·rw [if_pos c88] at H
                   have c88b0 : decide ((ji86) < (t972.length : Int)) = true := decide_eq_true c88
                   clear c88
                   obtain ⟨t997, A89, H⟩ := G.bx H
                   by_cases c90 : t997 ≥ 0
                   ·rw [if_pos c90] at H
                    have c90b0 : decide (0 ≤ t997) = true := decide_eq_true c90
                    clear c90
                    exact absurd ((Option.some.inj H).trans HTrue_.out) (by decide)
                   ·rw [if_neg c90] at H
                    have c90b0 : decide (0 ≤ t997) = false := decide_eq_false c90
                    clear c90
                    have H' := Aside0.mk H
                    clear H
                    try go_wp2
                    have n0_ := Aside0.mk (Kd.R_drew HO_12.out)
                    have n1_ := Aside0.mk (Kd.N_drew HO_16.out)
                    have n2_ := Aside0.mk (below_drew1 HB.out)
                    clear HO_12
                    clear HO_16
                    clear HB
                    have HO_12 := n0_
                    have HO_16 := n1_
                    have HB := n2_
                    clear n0_ n1_ n2_
                    obtain ⟨Ao95, co95, eo95⟩ := Kd.N_slice HO_16.out
                    (first | subst eo95 | (injection eo95 with f1_ f2_ f3_; have f4_ := f1_.symm; have f5_ := f3_.symm; clear f1_ f2_ f3_; subst f4_; subst f5_))
                    have p993 : 0 ≤ (x18_3 : Int) := G.odt
                    have q993 : x18_3 < (t972.length : Int) := G.odt
                    obtain ⟨ad993, A993_0, c993_0, e993, hx993_0, hl993_0, hi993_0⟩ := at_L1 (Kd.N_reads' HO_16.out).2.2 x18_3 p993 q993
                    cases e993
                    obtain ⟨ce993, hce993, hMe993, hcc993⟩ := Kd.N_get HO_16.out [] x18_3 p993 (by first | exact q993 | exact G.odt | (have e_ := (Kd.N_reads' HO_16.out).1; omega))
                    obtain ⟨ua993_0, uc993_0, rfl, ul993_0, ge993_0⟩ := Kd.FK_slice_open hMe993
                    have hv993_0 := hcc993 0 _ rfl
                    rw [Nat.add_zero, show ((Kd.slice 3 (Kd.int .i64))).sz = 1 from rfl, Nat.mul_one] at hv993_0
                    replace hv993_0 := Option.some.inj (hv993_0.symm.trans hx993_0)
                    injection hv993_0 with hva_ hvn_ hvc_
                    rw [hva_] at ge993_0
                    rw [hvc_] at ul993_0
                    have HL993_0 := Aside0.mk (show Kd.V (Kd.int .i64) 3 _ w.heap.size _ _ (rd_L1 t972 x18_3) from Kd.V_mk ul993_0 ge993_0)
                    clear hva_ hvn_ hvc_ ge993_0 ul993_0
                    clear hcc993 hce993
                    have HR993_0 := Aside0.mk hi993_0
                    have HC993_0 := Aside0.mk hl993_0
                    clear hi993_0 hl993_0
                    replace p993 := eq_true p993
                    replace q993 := eq_true q993
                    have p995 : 0 ≤ ((ji86) : Int) := G.odt
                    have q995 : (ji86) < (t972.length : Int) := G.odt
                    obtain ⟨ad995, A995_0, c995_0, e995, hx995_0, hl995_0, hi995_0⟩ := at_L1 (Kd.N_reads' HO_16.out).2.2 (ji86) p995 q995
                    obtain rfl : ad993 = ad995 := (by injection e995)
                    obtain ⟨ce995, hce995, hMe995, hcc995⟩ := Kd.N_get HO_16.out [] (ji86) p995 (by first | exact q995 | exact G.odt | (have e_ := (Kd.N_reads' HO_16.out).1; omega))
                    obtain ⟨ua995_0, uc995_0, rfl, ul995_0, ge995_0⟩ := Kd.FK_slice_open hMe995
                    have hv995_0 := hcc995 0 _ rfl
                    rw [Nat.add_zero, show ((Kd.slice 3 (Kd.int .i64))).sz = 1 from rfl, Nat.mul_one] at hv995_0
                    replace hv995_0 := Option.some.inj (hv995_0.symm.trans hx995_0)
                    injection hv995_0 with hva_ hvn_ hvc_
                    rw [hva_] at ge995_0
                    rw [hvc_] at ul995_0
                    have HL995_0 := Aside0.mk (show Kd.V (Kd.int .i64) 3 _ w.heap.size _ _ (rd_L1 t972 (ji86)) from Kd.V_mk ul995_0 ge995_0)
                    clear hva_ hvn_ hvc_ ge995_0 ul995_0
                    clear hcc995 hce995
                    have HR995_0 := Aside0.mk hi995_0
                    have HC995_0 := Aside0.mk hl995_0
                    clear hi995_0 hl995_0
                    replace p995 := eq_true p995
                    replace q995 := eq_true q995
                    have p996 : 0 ≤ (x18_3 : Int) := G.odt
                    have q996 : x18_3 < (t972.length : Int) := G.odt
                    obtain ⟨ad996, A996_0, c996_0, e996, hx996_0, hl996_0, hi996_0⟩ := at_L1 (Kd.N_reads' HO_16.out).2.2 x18_3 p996 q996
                    obtain rfl : ad993 = ad996 := (by injection e996)
                    obtain ⟨ce996, hce996, hMe996, hcc996⟩ := Kd.N_get HO_16.out [] x18_3 p996 (by first | exact q996 | exact G.odt | (have e_ := (Kd.N_reads' HO_16.out).1; omega))
                    obtain ⟨ua996_0, uc996_0, rfl, ul996_0, ge996_0⟩ := Kd.FK_slice_open hMe996
                    have hv996_0 := hcc996 0 _ rfl
                    rw [Nat.add_zero, show ((Kd.slice 3 (Kd.int .i64))).sz = 1 from rfl, Nat.mul_one] at hv996_0
                    replace hv996_0 := Option.some.inj (hv996_0.symm.trans hx996_0)
                    injection hv996_0 with hva_ hvn_ hvc_
                    rw [hva_] at ge996_0
                    rw [hvc_] at ul996_0
                    have HL996_0 := Aside0.mk (show Kd.V (Kd.int .i64) 3 _ w.heap.size _ _ (rd_L1 t972 x18_3) from Kd.V_mk ul996_0 ge996_0)
                    clear hva_ hvn_ hvc_ ge996_0 ul996_0
                    clear hcc996 hce996
                    have HR996_0 := Aside0.mk hi996_0
                    have HC996_0 := Aside0.mk hl996_0
                    have ea_ := Option.some.inj (hx993_0.symm.trans hx996_0)
                    injection ea_ with ea_ en_ ec_
                    subst ea_
                    subst ec_
                    clear en_
                    clear hi996_0 hl996_0
                    replace p996 := eq_true p996
                    replace q996 := eq_true q996
                    refine start_ (n := 24) (S := fun w' => w'.cell? (ad993.add (x18_3).toNat) = some (.slice A993_0 (rd_L1 t972 x18_3).length c993_0) ∧ w'.cell? (ad993.add ((ji86)).toNat) = some (.slice A995_0 (rd_L1 t972 (ji86)).length c995_0) ∧ w'.cell? (ad993.add (x18_3).toNat) = some (.slice A993_0 (rd_L1 t972 x18_3).length c993_0)) (ds := []) #[false, false, false, false, false, false, false, false, false, false, false, false, false, false, false, false, false, false, false, false, false, false, false, false] (by kernel_rfl) rfl rfl ⟨hx993_0, hx995_0, hx996_0⟩ (fun hHeld => ?_); refine with_tabW laws_FnWords.tab19 laws_FnWords.bits19 (fun HT_ HW_ => ?_)
                    generalize wc.drew = w94 at HO_12 HO_16 HB HL993_0 HL995_0 HL996_0 HR993_0 HR995_0 HR996_0 hx993_0 hx995_0 hx996_0 hHeld ⊢
                    refine pure_ (i := 0) (N := some 139) (v := ?_) (a' := ?_) #[true, false, false, false, false, false, false, false, false, false, false, false, false, false, false, false, false, false, false, false, false, false, false, false] rfl rfl (any_of HT_.out (by kernel_rfl)) (fun _ _ _ h => h) (Or.inl ⟨by rfl, ?_⟩) ?_ ?_
                    rotate_left; (·intro w'; go_simp; with_reducible rfl); rotate_left; (·simp only [Act.put, List.setIfInBounds_toArray, List.set_cons_zero, List.set_cons_succ, i64_w, i32_w]; rfl)
                    refine pure_ (i := 1) (N := some 140) (v := ?_) (a' := ?_) #[true, true, false, false, false, false, false, false, false, false, false, false, false, false, false, false, false, false, false, false, false, false, false, false] rfl rfl (any_of HT_.out (by kernel_rfl)) (fun _ _ _ h => h) (Or.inl ⟨by rfl, ?_⟩) ?_ ?_
                    rotate_left; (·intro w'; go_simp; with_reducible rfl); rotate_left; (·simp only [Act.put, List.setIfInBounds_toArray, List.set_cons_zero, List.set_cons_succ, i64_w, i32_w]; rfl)
                    refine pure_ (i := 2) (N := some 141) (v := ?_) (a' := ?_) #[true, true, true, false, false, false, false, false, false, false, false, false, false, false, false, false, false, false, false, false, false, false, false, false] rfl rfl (any_of HT_.out (by kernel_rfl)) (fun _ _ _ h => h) (Or.inl ⟨by rfl, ?_⟩) ?_ ?_
                    rotate_left; (·intro w'; go_simp; with_reducible rfl); rotate_left; (·simp only [Act.put, List.setIfInBounds_toArray, List.set_cons_zero, List.set_cons_succ, i64_w, i32_w]; rfl)
                    refine pure_ (i := 3) (N := some 142) (v := ?_) (a' := ?_) #[true, true, true, true, false, false, false, false, false, false, false, false, false, false, false, false, false, false, false, false, false, false, false, false] rfl rfl (any_of HT_.out (by kernel_rfl)) (fun _ _ _ h => h) (Or.inl ⟨by rfl, ?_⟩) ?_ ?_
                    rotate_left; (·intro w'; go_simp; with_reducible rfl); rotate_left; (·simp only [Act.put, List.setIfInBounds_toArray, List.set_cons_zero, List.set_cons_succ, i64_w, i32_w]; rfl)
                    refine take_ (i := 4) (N := some 143) (v := ?_) (a' := ?_) #[true, true, true, true, true, false, false, false, false, false, false, false, false, false, false, false, false, false, false, false, false, false, false, false] rfl rfl (take_ofW HT_.out HW_.out (by kernel_rfl)) (fun _ _ _ h => h) (Or.inl ⟨by rfl, ?_⟩) hHeld ?_ ?_
                    rotate_left; (·rintro w' ⟨s0, s1, s2⟩; go_simp; with_reducible rfl); rotate_left; (·simp only [Act.put, List.setIfInBounds_toArray, List.set_cons_zero, List.set_cons_succ, i64_w, i32_w]; rfl)
                    refine one_ (i := 5) (N := some 144) #[true, true, true, true, true, true, false, false, false, false, false, false, false, false, false, false, false, false, false, false, false, false, false, false] rfl rfl (one_of HT_.out (by kernel_rfl)) (by decide) (fun K hK => ?_)
                    refine goes_ Try.func72 (by kernel_rfl) rfl #[.slice Ao33 t964.length co33, .slice A993_0 (rd_L1 t972 x18_3).length c993_0] (by rfl) rfl rfl G.ar ?_
                    with_reducible refine (impl_IsFactor.calls kj75 _ _ t964 _ _ (rd_L1 t972 x18_3) true _ ?side1 ?side2 ?side3 ?side4 A83.out).mono ?_
                    (case side1 => repeat (first | exact (Kd.R_reads' HO_12.out).2.2 | (with_reducible refine Kd.C_alloc ?_ _) | (with_reducible refine Kd.C_drewN ?_ _) | (with_reducible refine Kd.C_drew ?_)))
                    (case side2 => exact (Kd.R_reads' HO_12.out).2.1)
                    (case side3 => repeat (first | exact (by repeat (first | (with_reducible exact HR993_0.out) | (with_reducible refine Kd.C_alloc ?_ _) | (with_reducible refine Kd.C_drewN ?_ _) | (with_reducible refine Kd.C_drew ?_) | exact HR993_0.out)) | (with_reducible refine Kd.C_alloc ?_ _) | (with_reducible refine Kd.C_drewN ?_ _) | (with_reducible refine Kd.C_drew ?_)))
                    (case side4 => exact HC993_0.out)
                    rintro e w96 ⟨rfl, hb⟩
                    have HS0_ := (hb.cell (World.block_lt_of_cell? _ _ (hHeld.1))).trans (hHeld.1)
                    have HS1_ := (hb.cell (World.block_lt_of_cell? _ _ (hHeld.2.1))).trans (hHeld.2.1)
                    have HS2_ := (hb.cell (World.block_lt_of_cell? _ _ (hHeld.2.2))).trans (hHeld.2.2)
                    refine ⟨_, rfl, ?_⟩
                    have n0_ := Aside0.mk (Kd.R_below (G.kR HO_12.out) hb)
                    have n1_ := Aside0.mk (Kd.N_below (G.kN HO_16.out) hb)
                    have n2_ := Aside0.mk (Kd.V_below (G.kV HL993_0.out) hb)
                    have n3_ := Aside0.mk (Kd.C_below (by repeat (first | (with_reducible exact HR993_0.out) | (with_reducible refine Kd.C_alloc ?_ _) | (with_reducible refine Kd.C_drewN ?_ _) | (with_reducible refine Kd.C_drew ?_) | exact HR993_0.out)) hb)
                    have n4_ := Aside0.mk (below_step G.bel hb)
                    have m995_ := Aside0.mk (Kd.C_below (by repeat (first | (with_reducible exact HR995_0.out) | (with_reducible refine Kd.C_alloc ?_ _) | (with_reducible refine Kd.C_drewN ?_ _) | (with_reducible refine Kd.C_drew ?_) | exact HR995_0.out)) hb)
                    clear HR995_0
                    have HR995_0 := m995_
                    clear m995_
                    have m996_ := Aside0.mk (Kd.C_below (by repeat (first | (with_reducible exact HR996_0.out) | (with_reducible refine Kd.C_alloc ?_ _) | (with_reducible refine Kd.C_drewN ?_ _) | (with_reducible refine Kd.C_drew ?_) | exact HR996_0.out)) hb)
                    clear HR996_0
                    have HR996_0 := m996_
                    clear m996_
                    clear HO_12
                    clear HO_16
                    clear HL993_0
                    clear HR993_0
                    clear HB
                    have HO_12 := n0_
                    have HO_16 := n1_
                    have HL993_0 := n2_
                    have HR993_0 := n3_
                    have HB := n4_
                    clear n0_ n1_ n2_ n3_ n4_
                    (try clear hb)
                    (try clear hb2)
                    (try clear hk)
                    (try clear hi)
                    refine hK.out _ _ ⟨HS0_, HS1_, HS2_⟩ (fun hHeld => ?_)
                    clear hK K
                    refine norm_ (a' := ?_) ?_ ?_
                    rotate_left
                    ·show Act.put _ (some 144) _ = _
                     simp only [Act.put, List.setIfInBounds_toArray, List.set_cons_zero, List.set_cons_succ, i64_w, i32_w]
                     rfl
                    refine pure_ (i := 6) (N := some 145) (v := ?_) (a' := ?_) #[true, true, true, true, true, true, true, false, false, false, false, false, false, false, false, false, false, false, false, false, false, false, false, false] rfl rfl (any_of HT_.out (by kernel_rfl)) (fun _ _ _ h => h) (Or.inl ⟨by rfl, ?_⟩) ?_ ?_
                    rotate_left; (·intro w'; go_simp; with_reducible rfl); rotate_left; (·simp only [Act.put, List.setIfInBounds_toArray, List.set_cons_zero, List.set_cons_succ, i64_w, i32_w]; rfl)
                    refine pure_ (i := 7) (N := some 146) (v := ?_) (a' := ?_) #[true, true, true, true, true, true, true, true, false, false, false, false, false, false, false, false, false, false, false, false, false, false, false, false] rfl rfl (any_of HT_.out (by kernel_rfl)) (fun _ _ _ h => h) (Or.inl ⟨by rfl, ?_⟩) ?_ ?_
                    rotate_left; (·intro w'; go_simp; with_reducible rfl); rotate_left; (·simp only [Act.put, List.setIfInBounds_toArray, List.set_cons_zero, List.set_cons_succ, i64_w, i32_w]; rfl)
                    refine pure_ (i := 8) (N := some 147) (v := ?_) (a' := ?_) #[true, true, true, true, true, true, true, true, true, false, false, false, false, false, false, false, false, false, false, false, false, false, false, false] rfl rfl (any_of HT_.out (by kernel_rfl)) (fun _ _ _ h => h) (Or.inl ⟨by rfl, ?_⟩) ?_ ?_
                    rotate_left; (·intro w'; go_simp; with_reducible rfl); rotate_left; (·simp only [Act.put, List.setIfInBounds_toArray, List.set_cons_zero, List.set_cons_succ, i64_w, i32_w]; rfl)
                    refine pure_ (i := 9) (N := some 148) (v := ?_) (a' := ?_) #[true, true, true, true, true, true, true, true, true, true, false, false, false, false, false, false, false, false, false, false, false, false, false, false] rfl rfl (any_of HT_.out (by kernel_rfl)) (fun _ _ _ h => h) (Or.inl ⟨by rfl, ?_⟩) ?_ ?_
                    rotate_left; (·intro w'; go_simp; with_reducible rfl); rotate_left; (·simp only [Act.put, List.setIfInBounds_toArray, List.set_cons_zero, List.set_cons_succ, i64_w, i32_w]; rfl)
                    refine pure_ (i := 10) (N := some 149) (v := ?_) (a' := ?_) #[true, true, true, true, true, true, true, true, true, true, true, false, false, false, false, false, false, false, false, false, false, false, false, false] rfl rfl (any_of HT_.out (by kernel_rfl)) (fun _ _ _ h => h) (Or.inl ⟨by rfl, ?_⟩) ?_ ?_
                    rotate_left; (·intro w'; go_simp; with_reducible rfl); rotate_left; (·simp only [Act.put, List.setIfInBounds_toArray, List.set_cons_zero, List.set_cons_succ, i64_w, i32_w]; rfl)
                    refine pure_ (i := 11) (N := some 150) (v := ?_) (a' := ?_) #[true, true, true, true, true, true, true, true, true, true, true, true, false, false, false, false, false, false, false, false, false, false, false, false] rfl rfl (any_of HT_.out (by kernel_rfl)) (fun _ _ _ h => h) (Or.inl ⟨by rfl, ?_⟩) ?_ ?_
                    rotate_left; (·intro w'; go_simp; with_reducible rfl); rotate_left; (·simp only [Act.put, List.setIfInBounds_toArray, List.set_cons_zero, List.set_cons_succ, i64_w, i32_w]; rfl)
                    refine pure_ (i := 12) (N := some 151) (v := ?_) (a' := ?_) #[true, true, true, true, true, true, true, true, true, true, true, true, true, false, false, false, false, false, false, false, false, false, false, false] rfl rfl (any_of HT_.out (by kernel_rfl)) (fun _ _ _ h => h) (Or.inl ⟨by rfl, ?_⟩) ?_ ?_
                    rotate_left; (·intro w'; go_simp; with_reducible rfl); rotate_left; (·simp only [Act.put, List.setIfInBounds_toArray, List.set_cons_zero, List.set_cons_succ, i64_w, i32_w]; rfl)
                    refine pure_ (i := 13) (N := some 152) (v := ?_) (a' := ?_) #[true, true, true, true, true, true, true, true, true, true, true, true, true, true, false, false, false, false, false, false, false, false, false, false] rfl rfl (any_of HT_.out (by kernel_rfl)) (fun _ _ _ h => h) (Or.inl ⟨by rfl, ?_⟩) ?_ ?_
                    rotate_left; (·intro w'; go_simp; with_reducible rfl); rotate_left; (·simp only [Act.put, List.setIfInBounds_toArray, List.set_cons_zero, List.set_cons_succ, i64_w, i32_w]; rfl)
                    refine pure_ (i := 14) (N := some 153) (v := ?_) (a' := ?_) #[true, true, true, true, true, true, true, true, true, true, true, true, true, true, true, false, false, false, false, false, false, false, false, false] rfl rfl (any_of HT_.out (by kernel_rfl)) (fun _ _ _ h => h) (Or.inl ⟨by rfl, ?_⟩) ?_ ?_
                    rotate_left; (·intro w'; go_simp; with_reducible rfl); rotate_left; (·simp only [Act.put, List.setIfInBounds_toArray, List.set_cons_zero, List.set_cons_succ, i64_w, i32_w]; rfl)
                    refine pure_ (i := 16) (N := some 155) (v := ?_) (a' := ?_) #[true, true, true, true, true, true, true, true, true, true, true, true, true, true, true, false, true, false, false, false, false, false, false, false] rfl rfl (any_of HT_.out (by kernel_rfl)) (fun _ _ _ h => h) (Or.inl ⟨by rfl, ?_⟩) ?_ ?_
                    rotate_left; (·intro w'; go_simp; with_reducible rfl); rotate_left; (·simp only [Act.put, List.setIfInBounds_toArray, List.set_cons_zero, List.set_cons_succ, i64_w, i32_w]; rfl)
                    refine pure_ (i := 17) (N := some 156) (v := ?_) (a' := ?_) #[true, true, true, true, true, true, true, true, true, true, true, true, true, true, true, false, true, true, false, false, false, false, false, false] rfl rfl (any_of HT_.out (by kernel_rfl)) (fun _ _ _ h => h) (Or.inl ⟨by rfl, ?_⟩) ?_ ?_
                    rotate_left; (·intro w'; go_simp; with_reducible rfl); rotate_left; (·simp only [Act.put, List.setIfInBounds_toArray, List.set_cons_zero, List.set_cons_succ, i64_w, i32_w]; rfl)
                    refine pure_ (i := 18) (N := some 157) (v := ?_) (a' := ?_) #[true, true, true, true, true, true, true, true, true, true, true, true, true, true, true, false, true, true, true, false, false, false, false, false] rfl rfl (any_of HT_.out (by kernel_rfl)) (fun _ _ _ h => h) (Or.inl ⟨by rfl, ?_⟩) ?_ ?_
                    rotate_left; (·intro w'; go_simp; with_reducible rfl); rotate_left; (·simp only [Act.put, List.setIfInBounds_toArray, List.set_cons_zero, List.set_cons_succ, i64_w, i32_w]; rfl)
                    refine take_ (i := 15) (N := some 154) (v := ?_) (a' := ?_) #[true, true, true, true, true, true, true, true, true, true, true, true, true, true, true, true, true, true, true, false, false, false, false, false] rfl rfl (take_ofW HT_.out HW_.out (by kernel_rfl)) (fun _ _ _ h => h) (Or.inl ⟨by rfl, ?_⟩) hHeld ?_ ?_
                    rotate_left; (·rintro w' ⟨s0, s1, s2⟩; go_simp; with_reducible rfl); rotate_left; (·simp only [Act.put, List.setIfInBounds_toArray, List.set_cons_zero, List.set_cons_succ, i64_w, i32_w]; rfl)
                    refine take_ (i := 19) (N := some 158) (v := ?_) (a' := ?_) #[true, true, true, true, true, true, true, true, true, true, true, true, true, true, true, true, true, true, true, true, false, false, false, false] rfl rfl (take_ofW HT_.out HW_.out (by kernel_rfl)) (fun _ _ _ h => h) (Or.inl ⟨by rfl, ?_⟩) hHeld ?_ ?_
                    rotate_left; (·rintro w' ⟨s0, s1, s2⟩; go_simp; with_reducible rfl); rotate_left; (·simp only [Act.put, List.setIfInBounds_toArray, List.set_cons_zero, List.set_cons_succ, i64_w, i32_w]; rfl)
                    refine one_ (i := 20) (N := some 159) #[true, true, true, true, true, true, true, true, true, true, true, true, true, true, true, true, true, true, true, true, true, false, false, false] rfl rfl (one_of HT_.out (by kernel_rfl)) (by decide) (fun K hK => ?_)
                    refine goes_ Try.func73 (by kernel_rfl) rfl #[.slice A995_0 (rd_L1 t972 (ji86)).length c995_0, .slice A993_0 (rd_L1 t972 x18_3).length c993_0] (by rfl) rfl rfl (by (try simp only [List.map_toArray, List.map_cons, List.map_nil]); first | done | (simp only [hji86]; rfl) | rfl | (simp only [List.length_drop, List.length_take]; rfl)) ?_
                    with_reducible refine (impl_CompareWords.calls kj75 _ _ (rd_L1 t972 (ji86)) _ _ (rd_L1 t972 x18_3) t997 _ ?side1 ?side2 ?side3 ?side4 A89.out).mono ?_
                    (case side1 => repeat (first | exact (by repeat (first | (with_reducible exact HR995_0.out) | (with_reducible refine Kd.C_alloc ?_ _) | (with_reducible refine Kd.C_drewN ?_ _) | (with_reducible refine Kd.C_drew ?_) | exact HR995_0.out)) | (with_reducible refine Kd.C_alloc ?_ _) | (with_reducible refine Kd.C_drewN ?_ _) | (with_reducible refine Kd.C_drew ?_)))
                    (case side2 => exact HC995_0.out)
                    (case side3 => repeat (first | exact (by repeat (first | (with_reducible exact HR996_0.out) | (with_reducible refine Kd.C_alloc ?_ _) | (with_reducible refine Kd.C_drewN ?_ _) | (with_reducible refine Kd.C_drew ?_) | exact HR996_0.out)) | (with_reducible refine Kd.C_alloc ?_ _) | (with_reducible refine Kd.C_drewN ?_ _) | (with_reducible refine Kd.C_drew ?_)))
                    (case side4 => exact HC996_0.out)
                    rintro e w' ⟨rfl, ⟨nd, rfl⟩⟩
                    refine ⟨_, rfl, ?_⟩
                    refine hK.out _ _ ⟨hHeld.1, hHeld.2.1, hHeld.2.2⟩ (fun hHeld => ?_)
                    clear hK K
                    refine norm_ (a' := ?_) ?_ ?_
                    rotate_left
                    ·show Act.put _ (some 159) _ = _
                     simp only [Act.put, List.setIfInBounds_toArray, List.set_cons_zero, List.set_cons_succ, i64_w, i32_w]
                     rfl
                    refine pure_ (i := 21) (N := some 160) (v := ?_) (a' := ?_) #[true, true, true, true, true, true, true, true, true, true, true, true, true, true, true, true, true, true, true, true, true, true, false, false] rfl rfl (any_of HT_.out (by kernel_rfl)) (fun _ _ _ h => h) (Or.inl ⟨by rfl, ?_⟩) ?_ ?_
                    rotate_left; (·intro w'; go_simp; with_reducible rfl); rotate_left; (·simp only [Act.put, List.setIfInBounds_toArray, List.set_cons_zero, List.set_cons_succ, i64_w, i32_w]; rfl)
                    refine pure_ (i := 22) (N := some 161) (v := ?_) (a' := ?_) #[true, true, true, true, true, true, true, true, true, true, true, true, true, true, true, true, true, true, true, true, true, true, true, false] rfl rfl (any_of HT_.out (by kernel_rfl)) (fun _ _ _ h => h) (Or.inl ⟨by rfl, ?_⟩) ?_ ?_
                    rotate_left; (·intro w'; go_simp; with_reducible rfl); rotate_left; (·simp only [Act.put, List.setIfInBounds_toArray, List.set_cons_zero, List.set_cons_succ, i64_w, i32_w]; rfl)
                    refine pure_ (i := 23) (N := some 162) (v := ?_) (a' := ?_) #[true, true, true, true, true, true, true, true, true, true, true, true, true, true, true, true, true, true, true, true, true, true, true, true] rfl rfl (any_of HT_.out (by kernel_rfl)) (fun _ _ _ h => h) (Or.inl ⟨by rfl, ?_⟩) ?_ ?_
                    rotate_left; (·intro w'; go_simp; with_reducible rfl); rotate_left; (·simp only [Act.put, List.setIfInBounds_toArray, List.set_cons_zero, List.set_cons_succ, i64_w, i32_w]; rfl)
                    refine done_ (done_of HT_.out (by kernel_rfl)) ?_
                    try go_wp2
                    go_roundg kj75
                    case measure => have := HJ9.out; have := HJ30.out; have := HK3.out; have := HJ75.out; omega
                    case rel => exact ⟨(wrap64 (x18_3 + 1)), G.tr, H', ⟨by have := HJ9.out; have := HJ30.out; have := HK3.out; have := HJ75.out; omega⟩, ⟨G.kR HO_12.out⟩, ⟨G.kN HO_16.out⟩, ⟨G.bel⟩⟩
                  ·rw [if_neg c88] at H
                   exact absurd H (by simp)
                 ·rw [if_neg c87] at H
                  exact absurd H (by simp)
                ·rw [if_neg c85] at H
                 have c85b0 : decide (0 < x18_3) = false := decide_eq_false c85
                 clear c85
                 have H' := Aside0.mk H
                 clear H
                 try go_wp2
                 have n0_ := Aside0.mk (Kd.R_drew HO_12.out)
                 have n1_ := Aside0.mk (Kd.N_drew HO_16.out)
                 have n2_ := Aside0.mk (below_drew1 HB.out)
                 clear HO_12
                 clear HO_16
                 clear HB
                 have HO_12 := n0_
                 have HO_16 := n1_
                 have HB := n2_
                 clear n0_ n1_ n2_
                 obtain ⟨Ao98, co98, eo98⟩ := Kd.N_slice HO_16.out
                 (first | subst eo98 | (injection eo98 with f1_ f2_ f3_; have f4_ := f1_.symm; have f5_ := f3_.symm; clear f1_ f2_ f3_; subst f4_; subst f5_))
                 have p993 : 0 ≤ (x18_3 : Int) := G.odt
                 have q993 : x18_3 < (t972.length : Int) := G.odt
                 obtain ⟨ad993, A993_0, c993_0, e993, hx993_0, hl993_0, hi993_0⟩ := at_L1 (Kd.N_reads' HO_16.out).2.2 x18_3 p993 q993
                 cases e993
                 obtain ⟨ce993, hce993, hMe993, hcc993⟩ := Kd.N_get HO_16.out [] x18_3 p993 (by first | exact q993 | exact G.odt | (have e_ := (Kd.N_reads' HO_16.out).1; omega))
                 obtain ⟨ua993_0, uc993_0, rfl, ul993_0, ge993_0⟩ := Kd.FK_slice_open hMe993
                 have hv993_0 := hcc993 0 _ rfl
                 rw [Nat.add_zero, show ((Kd.slice 3 (Kd.int .i64))).sz = 1 from rfl, Nat.mul_one] at hv993_0
                 replace hv993_0 := Option.some.inj (hv993_0.symm.trans hx993_0)
                 injection hv993_0 with hva_ hvn_ hvc_
                 rw [hva_] at ge993_0
                 rw [hvc_] at ul993_0
                 have HL993_0 := Aside0.mk (show Kd.V (Kd.int .i64) 3 _ w.heap.size _ _ (rd_L1 t972 x18_3) from Kd.V_mk ul993_0 ge993_0)
                 clear hva_ hvn_ hvc_ ge993_0 ul993_0
                 clear hcc993 hce993
                 have HR993_0 := Aside0.mk hi993_0
                 have HC993_0 := Aside0.mk hl993_0
                 clear hi993_0 hl993_0
                 replace p993 := eq_true p993
                 replace q993 := eq_true q993
                 refine start_ (n := 24) (S := fun w' => w'.cell? (ad993.add (x18_3).toNat) = some (.slice A993_0 (rd_L1 t972 x18_3).length c993_0)) (ds := []) #[false, false, false, false, false, false, false, false, false, false, false, false, false, false, false, false, false, false, false, false, false, false, false, false] (by kernel_rfl) rfl rfl (hx993_0) (fun hHeld => ?_); refine with_tabW laws_FnWords.tab19 laws_FnWords.bits19 (fun HT_ HW_ => ?_)
                 generalize wc.drew = w97 at HO_12 HO_16 HB HL993_0 HR993_0 hx993_0 hHeld ⊢
                 refine pure_ (i := 0) (N := some 139) (v := ?_) (a' := ?_) #[true, false, false, false, false, false, false, false, false, false, false, false, false, false, false, false, false, false, false, false, false, false, false, false] rfl rfl (any_of HT_.out (by kernel_rfl)) (fun _ _ _ h => h) (Or.inl ⟨by rfl, ?_⟩) ?_ ?_
                 rotate_left; (·intro w'; go_simp; with_reducible rfl); rotate_left; (·simp only [Act.put, List.setIfInBounds_toArray, List.set_cons_zero, List.set_cons_succ, i64_w, i32_w]; rfl)
                 refine pure_ (i := 1) (N := some 140) (v := ?_) (a' := ?_) #[true, true, false, false, false, false, false, false, false, false, false, false, false, false, false, false, false, false, false, false, false, false, false, false] rfl rfl (any_of HT_.out (by kernel_rfl)) (fun _ _ _ h => h) (Or.inl ⟨by rfl, ?_⟩) ?_ ?_
                 rotate_left; (·intro w'; go_simp; with_reducible rfl); rotate_left; (·simp only [Act.put, List.setIfInBounds_toArray, List.set_cons_zero, List.set_cons_succ, i64_w, i32_w]; rfl)
                 refine pure_ (i := 2) (N := some 141) (v := ?_) (a' := ?_) #[true, true, true, false, false, false, false, false, false, false, false, false, false, false, false, false, false, false, false, false, false, false, false, false] rfl rfl (any_of HT_.out (by kernel_rfl)) (fun _ _ _ h => h) (Or.inl ⟨by rfl, ?_⟩) ?_ ?_
                 rotate_left; (·intro w'; go_simp; with_reducible rfl); rotate_left; (·simp only [Act.put, List.setIfInBounds_toArray, List.set_cons_zero, List.set_cons_succ, i64_w, i32_w]; rfl)
                 refine pure_ (i := 3) (N := some 142) (v := ?_) (a' := ?_) #[true, true, true, true, false, false, false, false, false, false, false, false, false, false, false, false, false, false, false, false, false, false, false, false] rfl rfl (any_of HT_.out (by kernel_rfl)) (fun _ _ _ h => h) (Or.inl ⟨by rfl, ?_⟩) ?_ ?_
                 rotate_left; (·intro w'; go_simp; with_reducible rfl); rotate_left; (·simp only [Act.put, List.setIfInBounds_toArray, List.set_cons_zero, List.set_cons_succ, i64_w, i32_w]; rfl)
                 refine take_ (i := 4) (N := some 143) (v := ?_) (a' := ?_) #[true, true, true, true, true, false, false, false, false, false, false, false, false, false, false, false, false, false, false, false, false, false, false, false] rfl rfl (take_ofW HT_.out HW_.out (by kernel_rfl)) (fun _ _ _ h => h) (Or.inl ⟨by rfl, ?_⟩) hHeld ?_ ?_
                 rotate_left; (·intro w' s0; go_simp; with_reducible rfl); rotate_left; (·simp only [Act.put, List.setIfInBounds_toArray, List.set_cons_zero, List.set_cons_succ, i64_w, i32_w]; rfl)
                 refine one_ (i := 5) (N := some 144) #[true, true, true, true, true, true, false, false, false, false, false, false, false, false, false, false, false, false, false, false, false, false, false, false] rfl rfl (one_of HT_.out (by kernel_rfl)) (by decide) (fun K hK => ?_)
                 refine goes_ Try.func72 (by kernel_rfl) rfl #[.slice Ao33 t964.length co33, .slice A993_0 (rd_L1 t972 x18_3).length c993_0] (by rfl) rfl rfl G.ar ?_
                 with_reducible refine (impl_IsFactor.calls kj75 _ _ t964 _ _ (rd_L1 t972 x18_3) true _ ?side1 ?side2 ?side3 ?side4 A83.out).mono ?_
                 (case side1 => repeat (first | exact (Kd.R_reads' HO_12.out).2.2 | (with_reducible refine Kd.C_alloc ?_ _) | (with_reducible refine Kd.C_drewN ?_ _) | (with_reducible refine Kd.C_drew ?_)))
                 (case side2 => exact (Kd.R_reads' HO_12.out).2.1)
                 (case side3 => repeat (first | exact (by repeat (first | (with_reducible exact HR993_0.out) | (with_reducible refine Kd.C_alloc ?_ _) | (with_reducible refine Kd.C_drewN ?_ _) | (with_reducible refine Kd.C_drew ?_) | exact HR993_0.out)) | (with_reducible refine Kd.C_alloc ?_ _) | (with_reducible refine Kd.C_drewN ?_ _) | (with_reducible refine Kd.C_drew ?_)))
                 (case side4 => exact HC993_0.out)
                 rintro e w99 ⟨rfl, hb⟩
                 have HS0_ := (hb.cell (World.block_lt_of_cell? _ _ (hHeld))).trans (hHeld)
                 refine ⟨_, rfl, ?_⟩
                 have n0_ := Aside0.mk (Kd.R_below (G.kR HO_12.out) hb)
                 have n1_ := Aside0.mk (Kd.N_below (G.kN HO_16.out) hb)
                 have n2_ := Aside0.mk (Kd.V_below (G.kV HL993_0.out) hb)
                 have n3_ := Aside0.mk (Kd.C_below (by repeat (first | (with_reducible exact HR993_0.out) | (with_reducible refine Kd.C_alloc ?_ _) | (with_reducible refine Kd.C_drewN ?_ _) | (with_reducible refine Kd.C_drew ?_) | exact HR993_0.out)) hb)
                 have n4_ := Aside0.mk (below_step G.bel hb)
                 clear HO_12
                 clear HO_16
                 clear HL993_0
                 clear HR993_0
                 clear HB
                 have HO_12 := n0_
                 have HO_16 := n1_
                 have HL993_0 := n2_
                 have HR993_0 := n3_
                 have HB := n4_
                 clear n0_ n1_ n2_ n3_ n4_
                 (try clear hb)
                 (try clear hb2)
                 (try clear hk)
                 (try clear hi)
                 refine hK.out _ _ (HS0_) (fun hHeld => ?_)
                 clear hK K
                 refine norm_ (a' := ?_) ?_ ?_
                 rotate_left
                 ·show Act.put _ (some 144) _ = _
                  simp only [Act.put, List.setIfInBounds_toArray, List.set_cons_zero, List.set_cons_succ, i64_w, i32_w]
                  rfl
                 refine pure_ (i := 6) (N := some 145) (v := ?_) (a' := ?_) #[true, true, true, true, true, true, true, false, false, false, false, false, false, false, false, false, false, false, false, false, false, false, false, false] rfl rfl (any_of HT_.out (by kernel_rfl)) (fun _ _ _ h => h) (Or.inl ⟨by rfl, ?_⟩) ?_ ?_
                 rotate_left; (·intro w'; go_simp; with_reducible rfl); rotate_left; (·simp only [Act.put, List.setIfInBounds_toArray, List.set_cons_zero, List.set_cons_succ, i64_w, i32_w]; rfl)
                 refine pure_ (i := 7) (N := some 146) (v := ?_) (a' := ?_) #[true, true, true, true, true, true, true, true, false, false, false, false, false, false, false, false, false, false, false, false, false, false, false, false] rfl rfl (any_of HT_.out (by kernel_rfl)) (fun _ _ _ h => h) (Or.inl ⟨by rfl, ?_⟩) ?_ ?_
                 rotate_left; (·intro w'; go_simp; with_reducible rfl); rotate_left; (·simp only [Act.put, List.setIfInBounds_toArray, List.set_cons_zero, List.set_cons_succ, i64_w, i32_w]; rfl)
                 refine pure_ (i := 8) (N := some 147) (v := ?_) (a' := ?_) #[true, true, true, true, true, true, true, true, true, false, false, false, false, false, false, false, false, false, false, false, false, false, false, false] rfl rfl (any_of HT_.out (by kernel_rfl)) (fun _ _ _ h => h) (Or.inl ⟨by rfl, ?_⟩) ?_ ?_
                 rotate_left; (·intro w'; go_simp; with_reducible rfl); rotate_left; (·simp only [Act.put, List.setIfInBounds_toArray, List.set_cons_zero, List.set_cons_succ, i64_w, i32_w]; rfl)
                 refine pure_ (i := 9) (N := some 148) (v := ?_) (a' := ?_) #[true, true, true, true, true, true, true, true, true, true, false, false, false, false, false, false, false, false, false, false, false, false, false, false] rfl rfl (any_of HT_.out (by kernel_rfl)) (fun _ _ _ h => h) (Or.inl ⟨by rfl, ?_⟩) ?_ ?_
                 rotate_left; (·intro w'; go_simp; with_reducible rfl); rotate_left; (·simp only [Act.put, List.setIfInBounds_toArray, List.set_cons_zero, List.set_cons_succ, i64_w, i32_w]; rfl)
                 refine pure_ (i := 10) (N := some 149) (v := ?_) (a' := ?_) #[true, true, true, true, true, true, true, true, true, true, true, false, false, false, false, false, false, false, false, false, false, false, false, false] rfl rfl (any_of HT_.out (by kernel_rfl)) (fun _ _ _ h => h) (Or.inl ⟨by rfl, ?_⟩) ?_ ?_
                 rotate_left; (·intro w'; go_simp; with_reducible rfl); rotate_left; (·simp only [Act.put, List.setIfInBounds_toArray, List.set_cons_zero, List.set_cons_succ, i64_w, i32_w]; rfl)
                 refine pure_ (i := 11) (N := some 150) (v := undef) (a' := ?_) #[true, true, true, true, true, true, true, true, true, true, true, true, false, false, false, false, false, false, false, false, false, false, false, false] rfl rfl (any_of HT_.out (by kernel_rfl)) (fun _ _ _ h => h) (Or.inr ⟨by rfl, rfl⟩) ?_ ?_
                 rotate_left
                 ·simp only [Act.put, List.setIfInBounds_toArray, List.set_cons_zero, List.set_cons_succ, i64_w, i32_w]
                  rfl
                 refine pure_ (i := 12) (N := some 151) (v := undef) (a' := ?_) #[true, true, true, true, true, true, true, true, true, true, true, true, true, false, false, false, false, false, false, false, false, false, false, false] rfl rfl (any_of HT_.out (by kernel_rfl)) (fun _ _ _ h => h) (Or.inr ⟨by rfl, rfl⟩) ?_ ?_
                 rotate_left
                 ·simp only [Act.put, List.setIfInBounds_toArray, List.set_cons_zero, List.set_cons_succ, i64_w, i32_w]
                  rfl
                 refine pure_ (i := 13) (N := some 152) (v := undef) (a' := ?_) #[true, true, true, true, true, true, true, true, true, true, true, true, true, true, false, false, false, false, false, false, false, false, false, false] rfl rfl (any_of HT_.out (by kernel_rfl)) (fun _ _ _ h => h) (Or.inr ⟨by rfl, rfl⟩) ?_ ?_
                 rotate_left
                 ·simp only [Act.put, List.setIfInBounds_toArray, List.set_cons_zero, List.set_cons_succ, i64_w, i32_w]
                  rfl
                 refine pure_ (i := 14) (N := some 153) (v := undef) (a' := ?_) #[true, true, true, true, true, true, true, true, true, true, true, true, true, true, true, false, false, false, false, false, false, false, false, false] rfl rfl (any_of HT_.out (by kernel_rfl)) (fun _ _ _ h => h) (Or.inr ⟨by rfl, rfl⟩) ?_ ?_
                 rotate_left
                 ·simp only [Act.put, List.setIfInBounds_toArray, List.set_cons_zero, List.set_cons_succ, i64_w, i32_w]
                  rfl
                 refine pure_ (i := 15) (N := some 154) (v := undef) (a' := ?_) #[true, true, true, true, true, true, true, true, true, true, true, true, true, true, true, true, false, false, false, false, false, false, false, false] rfl rfl (any_of HT_.out (by kernel_rfl)) (fun _ _ _ h => h) (Or.inr ⟨by rfl, rfl⟩) ?_ ?_
                 rotate_left
                 ·simp only [Act.put, List.setIfInBounds_toArray, List.set_cons_zero, List.set_cons_succ, i64_w, i32_w]
                  rfl
                 refine pure_ (i := 16) (N := some 155) (v := undef) (a' := ?_) #[true, true, true, true, true, true, true, true, true, true, true, true, true, true, true, true, true, false, false, false, false, false, false, false] rfl rfl (any_of HT_.out (by kernel_rfl)) (fun _ _ _ h => h) (Or.inr ⟨by rfl, rfl⟩) ?_ ?_
                 rotate_left
                 ·simp only [Act.put, List.setIfInBounds_toArray, List.set_cons_zero, List.set_cons_succ, i64_w, i32_w]
                  rfl
                 refine pure_ (i := 17) (N := some 156) (v := undef) (a' := ?_) #[true, true, true, true, true, true, true, true, true, true, true, true, true, true, true, true, true, true, false, false, false, false, false, false] rfl rfl (any_of HT_.out (by kernel_rfl)) (fun _ _ _ h => h) (Or.inr ⟨by rfl, rfl⟩) ?_ ?_
                 rotate_left
                 ·simp only [Act.put, List.setIfInBounds_toArray, List.set_cons_zero, List.set_cons_succ, i64_w, i32_w]
                  rfl
                 refine pure_ (i := 18) (N := some 157) (v := undef) (a' := ?_) #[true, true, true, true, true, true, true, true, true, true, true, true, true, true, true, true, true, true, true, false, false, false, false, false] rfl rfl (any_of HT_.out (by kernel_rfl)) (fun _ _ _ h => h) (Or.inr ⟨by rfl, rfl⟩) ?_ ?_
                 rotate_left
                 ·simp only [Act.put, List.setIfInBounds_toArray, List.set_cons_zero, List.set_cons_succ, i64_w, i32_w]
                  rfl
                 refine pure_ (i := 19) (N := some 158) (v := undef) (a' := ?_) #[true, true, true, true, true, true, true, true, true, true, true, true, true, true, true, true, true, true, true, true, false, false, false, false] rfl rfl (any_of HT_.out (by kernel_rfl)) (fun _ _ _ h => h) (Or.inr ⟨by rfl, rfl⟩) ?_ ?_
                 rotate_left
                 ·simp only [Act.put, List.setIfInBounds_toArray, List.set_cons_zero, List.set_cons_succ, i64_w, i32_w]
                  rfl
                 refine pure_ (i := 20) (N := some 159) (v := undef) (a' := ?_) #[true, true, true, true, true, true, true, true, true, true, true, true, true, true, true, true, true, true, true, true, true, false, false, false] rfl rfl (any_of HT_.out (by kernel_rfl)) (fun _ _ _ h => h) (Or.inr ⟨by rfl, rfl⟩) ?_ ?_
                 rotate_left
                 ·simp only [Act.put, List.setIfInBounds_toArray, List.set_cons_zero, List.set_cons_succ, i64_w, i32_w]
                  rfl
                 refine pure_ (i := 21) (N := some 160) (v := undef) (a' := ?_) #[true, true, true, true, true, true, true, true, true, true, true, true, true, true, true, true, true, true, true, true, true, true, false, false] rfl rfl (any_of HT_.out (by kernel_rfl)) (fun _ _ _ h => h) (Or.inr ⟨by rfl, rfl⟩) ?_ ?_
                 rotate_left
                 ·simp only [Act.put, List.setIfInBounds_toArray, List.set_cons_zero, List.set_cons_succ, i64_w, i32_w]
                  rfl
                 refine pure_ (i := 22) (N := some 161) (v := ?_) (a' := ?_) #[true, true, true, true, true, true, true, true, true, true, true, true, true, true, true, true, true, true, true, true, true, true, true, false] rfl rfl (any_of HT_.out (by kernel_rfl)) (fun _ _ _ h => h) (Or.inl ⟨by rfl, ?_⟩) ?_ ?_
                 rotate_left; (·intro w'; go_simp; with_reducible rfl); rotate_left; (·simp only [Act.put, List.setIfInBounds_toArray, List.set_cons_zero, List.set_cons_succ, i64_w, i32_w]; rfl)
                 refine pure_ (i := 23) (N := some 162) (v := ?_) (a' := ?_) #[true, true, true, true, true, true, true, true, true, true, true, true, true, true, true, true, true, true, true, true, true, true, true, true] rfl rfl (any_of HT_.out (by kernel_rfl)) (fun _ _ _ h => h) (Or.inl ⟨by rfl, ?_⟩) ?_ ?_
                 rotate_left; (·intro w'; go_simp; with_reducible rfl); rotate_left; (·simp only [Act.put, List.setIfInBounds_toArray, List.set_cons_zero, List.set_cons_succ, i64_w, i32_w]; rfl)
                 refine done_ (done_of HT_.out (by kernel_rfl)) ?_
                 try go_wp2
                 go_roundg kj75
                 case measure => have := HJ9.out; have := HJ30.out; have := HK3.out; have := HJ75.out; omega
                 case rel => exact ⟨(wrap64 (x18_3 + 1)), G.tr, H', ⟨by have := HJ9.out; have := HJ30.out; have := HK3.out; have := HJ75.out; omega⟩, ⟨G.kR HO_12.out⟩, ⟨G.kN HO_16.out⟩, ⟨G.bel⟩⟩
               ·replace c84 := Bool.eq_false_iff.mpr c84
                subst c84
                rw [if_neg (show ¬ (false = true) by decide)] at H
                exact absurd ((Option.some.inj H).trans HTrue_.out) (by decide)
              ·rw [if_neg c82] at H
               exact absurd H (by simp)
             ·rw [if_neg c81] at H
              exact absurd H (by simp)
            ·replace c80 := Bool.eq_false_iff.mpr c80
             subst c80
             rw [if_neg (show ¬ (false = true) by decide)] at H
             go_upto_region 22 with (first | ((with_reducible refine gate_callee (f := 74) rfl ?_); refine goesL_ (some 165) rfl rfl Try.func74 (by kernel_rfl) rfl #[.slice A0 l0.length c0] rfl G.ar ?_; (with_reducible refine (spec_DrawReturnWords.any _ _ l0 _ ?side1 ?side2 ?side3).mono ?_); (case side3 => exact HBIG_.out); (case side1 => exact G.kC (Kd.C_below HR0.out HB.out)); (case side2 => exact HC0.out); rintro e w106 ⟨t998, t999, v1000, v1002, hw_, rfl, ho0, ho1, hb⟩; have A103 := Aside0.mk hw_; clear hw_; refine ⟨_, rfl, ?_⟩; have n0_ := Aside0.mk (Kd.R_mono (Kd.R_told (Kd.R_told (Kd.R_old (G.kR HO_12.out) hb) (Kd.R_base ho0)) (Kd.R_base ho1)) (fun _ h_ => h_.1)); have n1_ := Aside0.mk (Kd.N_mono (Kd.N_told (Kd.N_told (Kd.N_old (G.kN HO_16.out) hb) (Kd.R_base ho0)) (Kd.R_base ho1)) (fun _ h_ => h_.1)); have n2_ := Aside0.mk (Kd.R_lower (Kd.R_new' ho0 (Kd.R_lt (G.kR HO_12.out))) (below_size G.bel)); have n3_ := Aside0.mk (Kd.R_lower (Kd.R_new' ho1 (Kd.R_lt (G.kR HO_12.out))) (below_size G.bel)); have n4_ := Aside0.mk (below_step G.bel hb); clear HO_12; clear HO_16; clear HB; have HO_12 := n0_; have HO_16 := n1_; have HO1001 := n2_; have HO1003 := n3_; have HB := n4_; clear n0_ n1_ n2_ n3_ n4_; (try clear hb); (try clear hb2); (try clear hk); (try clear hi); (try clear ho0); (try clear ho1)))
             obtain ⟨kj75, H⟩ := G.draw_out H (t998, t999) A103.out
             replace H : ((impl_ReturnWords.f kj75 t998 t999).bind fun t1004 => ((spec_ReturnWords.f kj75 t998 t999).bind fun t1007 => ((laws_sameWords.f kj75 t1004 t1007).bind fun t1010 => (if t1010 = true then ((impl_OccurrencesOf.f kj75 t998 t999).bind fun t1011 => ((spec_OccurrencesOf.f kj75 t998 t999).bind fun t1014 => ((laws_sameInts.f kj75 t1011 t1014).bind fun t1017 => (laws_FnWords.j4 kj75 l0 t998 t999 t1004 (!t1017))))) else (laws_FnWords.j4 kj75 l0 t998 t999 t1004 true))))) = some r := H
             obtain ⟨t1004, A104, H⟩ := G.bx H
             have HC105 := Aside0.mk H
             clear H
             obtain ⟨Ao107, co107, eo107⟩ := Kd.R_slice HO1001.out
             (first | subst eo107 | cases eo107)
             obtain ⟨Ao108, co108, eo108⟩ := Kd.R_slice HO1003.out
             (first | subst eo108 | cases eo108)
             go_upto_region 23 with (first | ((with_reducible refine gate_callee (f := 33) rfl ?_); refine goesL_ (some 170) rfl rfl Try.func33 (by kernel_rfl) rfl #[.slice Ao107 t998.length co107, .slice Ao108 t999.length co108] rfl G.ar ?_; (with_reducible refine (impl_ReturnWords.calls kj75 _ _ t998 _ _ t999 t1004 _ ?side1 ?side2 ?side3 ?side4 A104.out).mono ?_); (case side1 => repeat (first | exact (Kd.R_reads' HO1001.out).2.2 | (with_reducible refine Kd.C_alloc ?_ _) | (with_reducible refine Kd.C_drewN ?_ _) | (with_reducible refine Kd.C_drew ?_))); (case side2 => exact (Kd.R_reads' HO1001.out).2.1); (case side3 => repeat (first | exact (Kd.R_reads' HO1003.out).2.2 | (with_reducible refine Kd.C_alloc ?_ _) | (with_reducible refine Kd.C_drewN ?_ _) | (with_reducible refine Kd.C_drew ?_))); (case side4 => exact (Kd.R_reads' HO1003.out).2.1); rintro e w109 ⟨v1005, rfl, ho0, hb⟩; refine ⟨_, rfl, ?_⟩; have n0_ := Aside0.mk (Kd.R_below (G.kR HO_12.out) hb); have n1_ := Aside0.mk (Kd.N_elder' (G.kN HO_16.out) (Kd.S_base ho0) hb); have n2_ := Aside0.mk (Kd.R_below (G.kR HO1001.out) hb); have n3_ := Aside0.mk (Kd.R_below (G.kR HO1003.out) hb); have n4_ := Aside0.mk (Kd.N_lower (Kd.N_mono (ok' := fun k_ => some k_ ≠ (.slice Ao33 t964.length co33 : Value).ownBlock ∧ some k_ ≠ (v973 : Value).ownBlock ∧ some k_ ≠ (.slice Ao107 t998.length co107 : Value).ownBlock ∧ some k_ ≠ (.slice Ao108 t999.length co108 : Value).ownBlock) (Kd.S_N (Kd.S_bound ho0)) (fun k_ hk_ => ⟨(Kd.fresh' (Kd.R_lt (G.kR HO_12.out)) k_ hk_.2.1), (Kd.fresh' (Kd.N_lt (G.kN HO_16.out)) k_ hk_.2.1), (Kd.fresh' (Kd.R_lt (G.kR HO1001.out)) k_ hk_.2.1), (Kd.fresh' (Kd.R_lt (G.kR HO1003.out)) k_ hk_.2.1)⟩)) (below_size G.bel)); have n5_ := Aside0.mk (below_step G.bel hb); clear HO_12; clear HO_16; clear HO1001; clear HO1003; clear HB; have HO_12 := n0_; have HO_16 := n1_; have HO1001 := n2_; have HO1003 := n3_; have HO1006 := n4_; have HB := n5_; clear n0_ n1_ n2_ n3_ n4_ n5_; (try clear hb); (try clear hb2); (try clear hk); (try clear hi); (try clear ho0)))
             (try simp only [Act.put, List.setIfInBounds_toArray, List.set_cons_zero, List.set_cons_succ])
             go_cut [186] (fun v186 wc => ∃ (kq : Nat) (x186_104 : Bool), v186 = .bool x186_104 ∧ Aside0 (laws_FnWords.j4 kq l0 t998 t999 t1004 x186_104 = some r) ∧ Aside0 (kq ≤ kj75) ∧ Aside0 (Kd.R (Kd.int .i64) 3 wc w.heap.size (fun k_ => some k_ ≠ ((.slice Ao108 t999.length co108) : Value).ownBlock) (.slice Ao107 t998.length co107) t998) ∧ Aside0 (Kd.R (Kd.int .i64) 3 wc w.heap.size (fun k_ => some k_ ≠ ((.slice Ao107 t998.length co107) : Value).ownBlock) (.slice Ao108 t999.length co108) t999) ∧ Aside0 (Kd.N (Kd.slice 3 (Kd.int .i64)) 22 wc w.heap.size (fun k_ => some k_ ≠ ((.slice Ao107 t998.length co107) : Value).ownBlock ∧ some k_ ≠ ((.slice Ao108 t999.length co108) : Value).ownBlock) v1005 t1004) ∧ Aside0 (Below w.heap.size w wc))
             case first => as_aux_lemma =>
              have H := HC105.out
              clear HC105
              obtain ⟨t1007, A110, H⟩ := G.bx H
              obtain ⟨t1010, A111, H⟩ := G.bx H
              by_cases c112 : t1010 = true
              ·subst c112
               rw [if_pos rfl] at H
               obtain ⟨t1011, A113, H⟩ := G.bx H
               obtain ⟨t1014, A114, H⟩ := G.bx H
               obtain ⟨t1017, A115, H⟩ := G.bx H
               have H' := Aside0.mk H
               clear H
               go_wp2_with (first | ((with_reducible refine gate_callee (f := 32) rfl ?_); refine goesL_ (some 174) rfl rfl Try.func32 (by kernel_rfl) rfl #[.slice Ao107 t998.length co107, .slice Ao108 t999.length co108] rfl G.ar ?_; (with_reducible refine (spec_ReturnWords.calls kj75 _ _ t998 _ _ t999 t1007 _ ?side1 ?side2 ?side3 ?side4 A110.out).mono ?_); (case side1 => repeat (first | exact (Kd.R_reads' HO1001.out).2.2 | (with_reducible refine Kd.C_alloc ?_ _) | (with_reducible refine Kd.C_drewN ?_ _) | (with_reducible refine Kd.C_drew ?_))); (case side2 => exact (Kd.R_reads' HO1001.out).2.1); (case side3 => repeat (first | exact (Kd.R_reads' HO1003.out).2.2 | (with_reducible refine Kd.C_alloc ?_ _) | (with_reducible refine Kd.C_drewN ?_ _) | (with_reducible refine Kd.C_drew ?_))); (case side4 => exact (Kd.R_reads' HO1003.out).2.1); rintro e w116 ⟨v1008, rfl, ho0, hb⟩; refine ⟨_, rfl, ?_⟩; have n0_ := Aside0.mk (Kd.R_below (G.kR HO_12.out) hb); have n1_ := Aside0.mk (Kd.N_elder' (G.kN HO_16.out) (Kd.N_base ho0) hb); have n2_ := Aside0.mk (Kd.R_below (G.kR HO1001.out) hb); have n3_ := Aside0.mk (Kd.R_below (G.kR HO1003.out) hb); have n4_ := Aside0.mk (Kd.N_elder' (G.kN HO1006.out) (Kd.N_base ho0) hb); have n5_ := Aside0.mk (Kd.N_lower (Kd.N_mono (ok' := fun k_ => some k_ ≠ (.slice Ao33 t964.length co33 : Value).ownBlock ∧ some k_ ≠ (v973 : Value).ownBlock ∧ some k_ ≠ (.slice Ao107 t998.length co107 : Value).ownBlock ∧ some k_ ≠ (.slice Ao108 t999.length co108 : Value).ownBlock ∧ some k_ ≠ (v1005 : Value).ownBlock) ho0 (fun k_ hk_ => ⟨(Kd.fresh' (Kd.R_lt (G.kR HO_12.out)) k_ hk_), (Kd.fresh' (Kd.N_lt (G.kN HO_16.out)) k_ hk_), (Kd.fresh' (Kd.R_lt (G.kR HO1001.out)) k_ hk_), (Kd.fresh' (Kd.R_lt (G.kR HO1003.out)) k_ hk_), (Kd.fresh' (Kd.N_lt (G.kN HO1006.out)) k_ hk_)⟩)) (below_size G.bel)); have n6_ := Aside0.mk (below_step G.bel hb); clear HO_12; clear HO_16; clear HO1001; clear HO1003; clear HO1006; clear HB; have HO_12 := n0_; have HO_16 := n1_; have HO1001 := n2_; have HO1003 := n3_; have HO1006 := n4_; have HO1009 := n5_; have HB := n6_; clear n0_ n1_ n2_ n3_ n4_ n5_ n6_; (try clear hb); (try clear hb2); (try clear hk); (try clear hi); (try clear ho0); obtain ⟨Ao117, co117, eo117⟩ := Kd.N_slice HO1006.out; subst eo117; obtain ⟨Ao118, co118, eo118⟩ := Kd.N_slice HO1009.out; subst eo118) | ((with_reducible refine gate_callee (f := 69) rfl ?_); refine goesL_ (some 175) rfl rfl Try.func69 (by kernel_rfl) rfl #[.slice Ao117 t1004.length co117, .slice Ao118 t1007.length co118] rfl G.ar ?_; (with_reducible refine (laws_sameWords.calls kj75 _ _ t1004 _ _ t1007 true _ ?side1 ?side2 ?side3 ?side4 A111.out).mono ?_); (case side1 => repeat (first | exact (Kd.N_reads' HO1006.out).2.2 | (with_reducible refine Kd.C_alloc ?_ _) | (with_reducible refine Kd.C_drewN ?_ _) | (with_reducible refine Kd.C_drew ?_))); (case side2 => exact (Kd.N_reads' HO1006.out).2.1); (case side3 => repeat (first | exact (Kd.N_reads' HO1009.out).2.2 | (with_reducible refine Kd.C_alloc ?_ _) | (with_reducible refine Kd.C_drewN ?_ _) | (with_reducible refine Kd.C_drew ?_))); (case side4 => exact (Kd.N_reads' HO1009.out).2.1); rintro e w' ⟨rfl, ⟨nd, rfl⟩⟩; refine ⟨_, rfl, ?_⟩) | (go_at_call 75; (with_reducible refine (impl_OccurrencesOf.calls kj75 _ _ t998 _ _ t999 t1011 _ ?side1 ?side2 ?side3 ?side4 A113.out).mono ?_); (case side1 => repeat (first | exact (Kd.R_reads' HO1001.out).2.2 | (with_reducible refine Kd.C_alloc ?_ _) | (with_reducible refine Kd.C_drewN ?_ _) | (with_reducible refine Kd.C_drew ?_))); (case side2 => exact (Kd.R_reads' HO1001.out).2.1); (case side3 => repeat (first | exact (Kd.R_reads' HO1003.out).2.2 | (with_reducible refine Kd.C_alloc ?_ _) | (with_reducible refine Kd.C_drewN ?_ _) | (with_reducible refine Kd.C_drew ?_))); (case side4 => exact (Kd.R_reads' HO1003.out).2.1); rintro e w119 ⟨v1012, rfl, ho0, hb⟩; have n0_ := Aside0.mk (Kd.R_elder' (G.kR HO_12.out) (Kd.R_base ho0) hb); have n1_ := Aside0.mk (Kd.N_elder' (G.kN HO_16.out) (Kd.R_base ho0) hb); have n2_ := Aside0.mk (Kd.R_elder' (G.kR HO1001.out) (Kd.R_base ho0) hb); have n3_ := Aside0.mk (Kd.R_elder' (G.kR HO1003.out) (Kd.R_base ho0) hb); have n4_ := Aside0.mk (Kd.N_elder' (G.kN HO1006.out) (Kd.R_base ho0) hb); have n5_ := Aside0.mk (Kd.N_elder' (G.kN HO1009.out) (Kd.R_base ho0) hb); have n6_ := Aside0.mk (Kd.R_lower (Kd.R_new' (Kd.R_new' (Kd.R_new' ho0 (Kd.R_lt (G.kR HO_12.out))) (Kd.R_lt (G.kR HO1001.out))) (Kd.R_lt (G.kR HO1003.out))) (below_size G.bel)); have n7_ := Aside0.mk (below_step G.bel hb); clear HO_12; clear HO_16; clear HO1001; clear HO1003; clear HO1006; clear HO1009; clear HB; have HO_12 := n0_; have HO_16 := n1_; have HO1001 := n2_; have HO1003 := n3_; have HO1006 := n4_; have HO1009 := n5_; have HO1013 := n6_; have HB := n7_; clear n0_ n1_ n2_ n3_ n4_ n5_ n6_ n7_; (try clear hb); (try clear hb2); (try clear hk); (try clear hi); (try clear ho0)) | (go_at_call 76; (with_reducible refine (spec_OccurrencesOf.calls kj75 _ _ t998 _ _ t999 t1014 _ ?side1 ?side2 ?side3 ?side4 A114.out).mono ?_); (case side1 => repeat (first | exact (Kd.R_reads' HO1001.out).2.2 | (with_reducible refine Kd.C_alloc ?_ _) | (with_reducible refine Kd.C_drewN ?_ _) | (with_reducible refine Kd.C_drew ?_))); (case side2 => exact (Kd.R_reads' HO1001.out).2.1); (case side3 => repeat (first | exact (Kd.R_reads' HO1003.out).2.2 | (with_reducible refine Kd.C_alloc ?_ _) | (with_reducible refine Kd.C_drewN ?_ _) | (with_reducible refine Kd.C_drew ?_))); (case side4 => exact (Kd.R_reads' HO1003.out).2.1); rintro e w120 ⟨v1015, rfl, ho0, hb⟩; have n0_ := Aside0.mk (Kd.R_elder' (G.kR HO_12.out) (Kd.R_base ho0) hb); have n1_ := Aside0.mk (Kd.N_elder' (G.kN HO_16.out) (Kd.R_base ho0) hb); have n2_ := Aside0.mk (Kd.R_elder' (G.kR HO1001.out) (Kd.R_base ho0) hb); have n3_ := Aside0.mk (Kd.R_elder' (G.kR HO1003.out) (Kd.R_base ho0) hb); have n4_ := Aside0.mk (Kd.N_elder' (G.kN HO1006.out) (Kd.R_base ho0) hb); have n5_ := Aside0.mk (Kd.N_elder' (G.kN HO1009.out) (Kd.R_base ho0) hb); have n6_ := Aside0.mk (Kd.R_elder' (G.kR HO1013.out) (Kd.R_base ho0) hb); have n7_ := Aside0.mk (Kd.R_lower (Kd.R_new' (Kd.R_new' (Kd.R_new' (Kd.R_new' ho0 (Kd.R_lt (G.kR HO_12.out))) (Kd.R_lt (G.kR HO1001.out))) (Kd.R_lt (G.kR HO1003.out))) (Kd.R_lt (G.kR HO1013.out))) (below_size G.bel)); have n8_ := Aside0.mk (below_step G.bel hb); clear HO_12; clear HO_16; clear HO1001; clear HO1003; clear HO1006; clear HO1009; clear HO1013; clear HB; have HO_12 := n0_; have HO_16 := n1_; have HO1001 := n2_; have HO1003 := n3_; have HO1006 := n4_; have HO1009 := n5_; have HO1013 := n6_; have HO1016 := n7_; have HB := n8_; clear n0_ n1_ n2_ n3_ n4_ n5_ n6_ n7_ n8_; (try clear hb); (try clear hb2); (try clear hk); (try clear hi); (try clear ho0); obtain ⟨Ao121, co121, eo121⟩ := Kd.R_slice HO1013.out; subst eo121; obtain ⟨Ao122, co122, eo122⟩ := Kd.R_slice HO1016.out; subst eo122) | (go_at_call 51; (with_reducible refine (laws_sameInts.calls kj75 _ _ t1011 _ _ t1014 t1017 _ ?side1 ?side2 ?side3 ?side4 A115.out).mono ?_); (case side1 => repeat (first | exact (Kd.R_reads' HO1013.out).2.2 | (with_reducible refine Kd.C_alloc ?_ _) | (with_reducible refine Kd.C_drewN ?_ _) | (with_reducible refine Kd.C_drew ?_))); (case side2 => exact (Kd.R_reads' HO1013.out).2.1); (case side3 => repeat (first | exact (Kd.R_reads' HO1016.out).2.2 | (with_reducible refine Kd.C_alloc ?_ _) | (with_reducible refine Kd.C_drewN ?_ _) | (with_reducible refine Kd.C_drew ?_))); (case side4 => exact (Kd.R_reads' HO1016.out).2.1); rintro e w' ⟨rfl, ⟨nd, rfl⟩⟩))
               go_meet
               case rel => exact ⟨_, (!t1017), G.tr, H', ⟨by have := HJ9.out; have := HJ30.out; have := HK3.out; have := HJ75.out; first | omega | exact Nat.le_refl _⟩, ⟨by (with_reducible repeat (first | apply Kd.R_alloc | apply Kd.R_drewN | apply Kd.R_drew)); exact Kd.R_mono HO1001.out (fun _ hk => hk.1.1.1)⟩, ⟨by (with_reducible repeat (first | apply Kd.R_alloc | apply Kd.R_drewN | apply Kd.R_drew)); exact Kd.R_mono HO1003.out (fun _ hk => hk.1.1.1)⟩, ⟨by (with_reducible repeat (first | apply Kd.N_alloc | apply Kd.N_drewN | apply Kd.N_drew)); exact Kd.N_mono HO1006.out (fun _ hk => ⟨hk.1.1.1.2.2.1, hk.1.1.1.2.2.2⟩)⟩, ⟨G.bel⟩⟩
              ·replace c112 := Bool.eq_false_iff.mpr c112
               subst c112
               rw [if_neg (show ¬ (false = true) by decide)] at H
               exact absurd (H.trans (congrArg some HTrue_.out)) (laws_FnWords.j4_no _ _ _ _ _)
             case rest => as_aux_lemma =>
              clear HC105
              try clear c1; try clear p2; try clear c3; try clear c6; try clear p6; try clear c7; try clear c8; try clear c9; try clear p9; try clear q9; try clear hx9; try clear c11; try clear c32; try clear c33; try clear p64; try clear c69; try clear c72; try clear c73; try clear c74; try clear c80; try clear c81; try clear c82; try clear c84; try clear c85; try clear c85b0; try clear c87; try clear c88; try clear c99; try clear p99; try clear q99; try clear hx99; try clear c112; try clear hx993_0; try clear p993; try clear q993
              obtain ⟨kq, x186_104, rfl, HA, HJ104, HO_19, HO_20, HO_21, HB⟩ := hcut
              cases kq with
              | zero => exact absurd HA.out (by simp [laws_FnWords.j4])
              | succ kj104 =>
               have H := HA.out
               clear HA
               simp only [laws_FnWords.j4] at H
               by_cases c126 : x186_104 = true
               ·subst c126
                rw [if_pos rfl] at H
                exact absurd ((Option.some.inj H).trans HTrue_.out) (by decide)
               ·replace c126 := Bool.eq_false_iff.mpr c126
                subst c126
                rw [if_neg (show ¬ (false = true) by decide)] at H
                have H' := Aside0.mk H
                clear H
                go_wp2
                go_loopg [22] kj104 (fun kq v22 w' => ∃ (x22_6 : Int), v22 = .int .i64 x22_6 ∧ Aside0 (laws_FnWords.l1 kq l0 t998 t999 t1004 x22_6 = some r) ∧ Aside0 (kq ≤ kj104) ∧ Aside0 (Kd.R (Kd.int .i64) 3 w' w.heap.size (fun k_ => some k_ ≠ ((.slice Ao108 t999.length co108) : Value).ownBlock) (.slice Ao107 t998.length co107) t998) ∧ Aside0 (Kd.R (Kd.int .i64) 3 w' w.heap.size (fun k_ => some k_ ≠ ((.slice Ao107 t998.length co107) : Value).ownBlock) (.slice Ao108 t999.length co108) t999) ∧ Aside0 (Kd.N (Kd.slice 3 (Kd.int .i64)) 22 w' w.heap.size (fun k_ => some k_ ≠ ((.slice Ao107 t998.length co107) : Value).ownBlock ∧ some k_ ≠ ((.slice Ao108 t999.length co108) : Value).ownBlock) v1005 t1004) ∧ Aside0 (Below w.heap.size w w'))
                case atStart => exact ⟨(0), G.tr, H', ⟨Nat.le_refl _⟩, ⟨G.kR HO_19.out⟩, ⟨G.kR HO_20.out⟩, ⟨G.kN HO_21.out⟩, ⟨G.bel⟩⟩
                case round => as_aux_lemma =>
                 clear H'
                 try clear c1; try clear p2; try clear c3; try clear c6; try clear p6; try clear c7; try clear c8; try clear c9; try clear p9; try clear q9; try clear hx9; try clear c11; try clear c12; try clear c32; try clear c33; try clear p64; try clear c69; try clear c72; try clear c73; try clear c74; try clear c80; try clear c81; try clear c82; try clear c84; try clear c85; try clear c85b0; try clear c87; try clear c88; try clear c99; try clear p99; try clear q99; try clear hx99; try clear c112; try clear c126; try clear hx993_0; try clear p2; try clear p6; try clear p64; try clear p9; try clear p99; try clear p993; try clear q9; try clear q99; try clear q993
                 obtain ⟨x22_6, rfl, HA, HK6, HO_19, HO_20, HO_21, HB⟩ := hrel
                 cases gk with
                 | zero => exact absurd HA.out (by simp [laws_FnWords.l1])
                 | succ k6 =>
                  have H := HA.out
                  clear HA
                  simp only [laws_FnWords.l1] at H
                  by_cases c127 : x22_6 < (t1004.length : Int)
                  ·rw [if_pos c127] at H
                   have c127b0 : decide (x22_6 < (t1004.length : Int)) = true := decide_eq_true c127
                   clear c127
                   obtain ⟨y1018, hy1018⟩ : ∃ y_ : List Int, y_ = (([] : List Int)) := ⟨_, rfl⟩
                   replace H : (if 0 ≤ x22_6 then (if y1018.length + (rd_L1 t1004 x22_6).length < 17592186044416 then ((some (y1018 ++ (rd_L1 t1004 x22_6) : List Int)).bind fun y1022 => (if y1022.length + t999.length < 17592186044416 then ((some (y1022 ++ t999 : List Int)).bind fun y1025 => ((impl_IsFactor.f k6 t998 y1025).bind fun t1028 => (if t1028 = true then ((impl_OccurrencesOf.f k6 y1025 t999).bind fun t1029 => (if (t1029.length : Int) = 2 then (laws_FnWords.l1 k6 l0 t998 t999 t1004 (wrap64 (x22_6 + 1))) else (some false))) else (some false)))) else (none))) else (none)) else (none)) = some r := by first | (rw [hy1018]; with_reducible exact H) | (have H2_ := (Option.bind_some _ _).symm.trans H; rw [hy1018]; with_reducible exact H2_) | (have H2_ := (Option.bind_some _ _).symm.trans H; with_reducible exact H2_) | with_reducible exact H | (rw [hy1018]; exact H) | exact H
                   have Ny1018 := Aside0.mk hy1018
                   clear hy1018
                   by_cases c128 : 0 ≤ x22_6
                   ·rw [if_pos c128] at H
                    have c128b0 : decide (0 ≤ x22_6) = true := decide_eq_true c128
                    clear c128
                    by_cases c129 : y1018.length + (rd_L1 t1004 x22_6).length < 17592186044416
                    ·rw [if_pos c129] at H
                     have LMc129 := Aside0.mk c129
                     clear c129
                     obtain ⟨y1022, hy1022⟩ : ∃ y_ : List Int, y_ = (y1018 ++ (rd_L1 t1004 x22_6)) := ⟨_, rfl⟩
                     replace H : (if y1022.length + t999.length < 17592186044416 then ((some (y1022 ++ t999 : List Int)).bind fun y1025 => ((impl_IsFactor.f k6 t998 y1025).bind fun t1028 => (if t1028 = true then ((impl_OccurrencesOf.f k6 y1025 t999).bind fun t1029 => (if (t1029.length : Int) = 2 then (laws_FnWords.l1 k6 l0 t998 t999 t1004 (wrap64 (x22_6 + 1))) else (some false))) else (some false)))) else (none)) = some r := by first | (rw [hy1022]; with_reducible exact H) | (have H2_ := (Option.bind_some _ _).symm.trans H; rw [hy1022]; with_reducible exact H2_) | (have H2_ := (Option.bind_some _ _).symm.trans H; with_reducible exact H2_) | with_reducible exact H | (rw [hy1022]; exact H) | exact H
                     have Ny1022 := Aside0.mk hy1022
                     clear hy1022
                     by_cases c130 : y1022.length + t999.length < 17592186044416
                     ·rw [if_pos c130] at H
                      have LMc130 := Aside0.mk c130
                      clear c130
                      obtain ⟨y1025, hy1025⟩ : ∃ y_ : List Int, y_ = (y1022 ++ t999) := ⟨_, rfl⟩
                      replace H : ((impl_IsFactor.f k6 t998 y1025).bind fun t1028 => (if t1028 = true then ((impl_OccurrencesOf.f k6 y1025 t999).bind fun t1029 => (if (t1029.length : Int) = 2 then (laws_FnWords.l1 k6 l0 t998 t999 t1004 (wrap64 (x22_6 + 1))) else (some false))) else (some false))) = some r := by first | (rw [hy1025]; with_reducible exact H) | (have H2_ := (Option.bind_some _ _).symm.trans H; rw [hy1025]; with_reducible exact H2_) | (have H2_ := (Option.bind_some _ _).symm.trans H; with_reducible exact H2_) | with_reducible exact H | (rw [hy1025]; exact H) | exact H
                      have Ny1025 := Aside0.mk hy1025
                      clear hy1025
                      obtain ⟨t1028, A131, H⟩ := G.bx H
                      by_cases c132 : t1028 = true
                      ·subst c132
                       rw [if_pos rfl] at H
                       obtain ⟨t1029, A133, H⟩ := G.bx H
                       by_cases c134 : (t1029.length : Int) = 2
                       ·rw [if_pos c134] at H
                        have c134b0 : ((t1029.length : Int) == 2) = true := beq_iff_eq.mpr c134
                        have c134b1 : ((t1029.length : Int) != 2) = false := bne_eq_false_iff_eq.mpr c134
                        clear c134
                        have H' := Aside0.mk H
                        clear H
                        obtain ⟨Ao135, co135, eo135⟩ := Kd.N_slice HO_21.out
                        subst eo135
                        go_wp2_with (first | ((with_reducible refine gate_dst (N := 193) rfl ?_); (try (refine gate_guard (by rfl) ?_; dsimp only)); refine Kd.R_lit (Kd.int .i64) _ 3 ?hg (N := 193) ?hd (xs := ([] : List Int)) (inner := []) (ok := fun _ => True) (okp := fun _ => True) ?hr ?hp (fun _ hk => hk) trivial (Below.refl _ _) (Nat.le_refl _) (by simp) ?_; (case hd => rfl); (case hg => rfl); (case hr => first | (go_simp; done) | (go_simp; rfl)); (case hp => exact (Reps.none _ _)); intro v1019 w136 ho137 hb hg_ hnew_; clear hg_ hnew_; (first | rw [← Ny1018.out] at ho137 | (simp only [Int.reduceToNat] at ho137; rw [← Ny1018.out] at ho137)); have n0_ := Aside0.mk (Kd.R_elder' (G.kR HO_19.out) (Kd.R_base ho137) hb); have n1_ := Aside0.mk (Kd.R_elder' (G.kR HO_20.out) (Kd.R_base ho137) hb); have n2_ := Aside0.mk (Kd.N_elder' (G.kN HO_21.out) (Kd.R_base ho137) hb); have n3_ := Aside0.mk (Kd.R_lower (Kd.R_new' (Kd.R_new' ho137 (Kd.R_lt (G.kR HO_19.out))) (Kd.R_lt (G.kR HO_20.out))) (below_size G.bel)); have n4_ := Aside0.mk (below_step G.bel hb); clear HO_19; clear HO_20; clear HO_21; clear HB; have HO_19 := n0_; have HO_20 := n1_; have HO_21 := n2_; have HO1020 := n3_; have HB := n4_; clear n0_ n1_ n2_ n3_ n4_; clear hb ho137; have p1021 : 0 ≤ (x22_6 : Int) := G.odt; have q1021 : x22_6 < (t1004.length : Int) := G.odt; obtain ⟨ad1021, A1021_0, c1021_0, e1021, hx1021_0, hl1021_0, hi1021_0⟩ := at_L1 (Kd.N_reads' HO_21.out).2.2 x22_6 p1021 q1021; cases e1021; obtain ⟨ce1021, hce1021, hMe1021, hcc1021⟩ := Kd.N_get HO_21.out [] x22_6 p1021 (by first | exact q1021 | exact G.odt | (have e_ := (Kd.N_reads' HO_21.out).1; omega)); obtain ⟨ua1021_0, uc1021_0, rfl, ul1021_0, ge1021_0⟩ := Kd.FK_slice_open hMe1021; have hv1021_0 := hcc1021 0 _ rfl; rw [Nat.add_zero, show ((Kd.slice 3 (Kd.int .i64))).sz = 1 from rfl, Nat.mul_one] at hv1021_0; replace hv1021_0 := Option.some.inj (hv1021_0.symm.trans hx1021_0); injection hv1021_0 with hva_ hvn_ hvc_; rw [hva_] at ge1021_0; rw [hvc_] at ul1021_0; have HL1021_0 := Aside0.mk (show Kd.V (Kd.int .i64) 3 _ w.heap.size _ _ (rd_L1 t1004 x22_6) from Kd.V_mk ul1021_0 ge1021_0); clear hva_ hvn_ hvc_ ge1021_0 ul1021_0; clear hcc1021 hce1021; have HR1021_0 := Aside0.mk hi1021_0; have HC1021_0 := Aside0.mk hl1021_0; clear hi1021_0 hl1021_0; replace p1021 := eq_true p1021; replace q1021 := eq_true q1021) | ((with_reducible refine gate_builtin (b := .append) (xs := #[.tmp 193, .tmp 197]) rfl ?_); (try (refine gate_guard (by rfl) ?_; dsimp only)); at_builtin; refine Kd.R_append_rows (Kd.int .i64) (w0 := w) w.heap.size rfl (.tmp 193) (.tmp 197) 22 3 (.int .i64 0) 8 rfl Try.underlying22 info3 rfl (by decide) (by omega) v1019 y1018 (rd_L1 t1004 x22_6) _ _ _ (fun k_ => some k_ ≠ (.slice Ao107 t998.length co107 : Value).ownBlock ∧ some k_ ≠ (.slice Ao108 t999.length co108 : Value).ownBlock) (fun _ => False) rfl rfl ?aO ?aR (fun _ _ h => h) (fun _ h => h.elim) ?aF ?aB ?aS ?aL ?_; (case aR => repeat (first | exact (by repeat (first | (with_reducible exact HR1021_0.out) | (with_reducible refine Kd.C_alloc ?_ _) | (with_reducible refine Kd.C_drewN ?_ _) | (with_reducible refine Kd.C_drew ?_) | exact HR1021_0.out)) | (with_reducible refine Kd.C_alloc ?_ _) | (with_reducible refine Kd.C_drewN ?_ _) | (with_reducible refine Kd.C_drew ?_))); (case aB => exact G.bel); (case aF => exact (fun k_ hk => ⟨Kd.fresh' (Kd.R_lt (G.kR HO_19.out)) k_ hk, Kd.fresh' (Kd.R_lt (G.kR HO_20.out)) k_ hk⟩)); (case aO => exact (by (with_reducible repeat (first | apply Kd.R_alloc | apply Kd.R_drewN | apply Kd.R_drew)); exact Kd.R_mono HO1020.out (fun _ hk => ⟨hk.1.2, hk.2⟩))); (case aS => exact (below_size G.bel)); (case aL => have := LMc129.out; omega); intro v1023 w138 ho hb hg hat; rw [← Ny1022.out] at ho; have n0_ := Aside0.mk (Kd.R_after (ok := (fun k_ => some k_ ≠ (.slice Ao108 t999.length co108 : Value).ownBlock)) (G.kR HO_19.out) hg hat); have n1_ := Aside0.mk (Kd.R_after (ok := (fun k_ => some k_ ≠ (.slice Ao107 t998.length co107 : Value).ownBlock)) (G.kR HO_20.out) hg hat); have n2_ := Aside0.mk (Kd.N_afterv (ok := (fun k_ => some k_ ≠ (.slice Ao107 t998.length co107 : Value).ownBlock ∧ some k_ ≠ (.slice Ao108 t999.length co108 : Value).ownBlock)) (G.kN HO_21.out) hg hat); have n3_ := Aside0.mk (Kd.V_afterv (ok := (fun k_ => some k_ ≠ (.slice Ao107 t998.length co107 : Value).ownBlock ∧ some k_ ≠ (.slice Ao108 t999.length co108 : Value).ownBlock ∧ some k_ ≠ (.slice (some ad1021) t1004.length co135 : Value).ownBlock)) (by (with_reducible repeat (first | apply Kd.V_alloc | apply Kd.V_drewN | apply Kd.V_drew)); exact Kd.V_mono HL1021_0.out (fun _ hk => ⟨⟨hk.1.1.1, ⟨hk.1.1.2, hk.2⟩⟩, hk.1.2⟩)) hg hat); have n4_ := Aside0.mk (hb); have n5_ := Aside0.mk (ho); clear HO_19; clear HO_20; clear HO_21; clear HL1021_0; clear HB; clear HO1020; have HO_19 := n0_; have HO_20 := n1_; have HO_21 := n2_; have HL1021_0 := n3_; have HB := n4_; have HO1024 := n5_; clear n0_ n1_ n2_ n3_ n4_ n5_; clear ho hb hg hat) | ((with_reducible refine gate_builtin (b := .append) (xs := #[.tmp 198, .tmp 199]) rfl ?_); (try (refine gate_guard (by rfl) ?_; dsimp only)); at_builtin; refine Kd.R_append_rows (Kd.int .i64) (w0 := w) w.heap.size rfl (.tmp 198) (.tmp 199) 22 3 (.int .i64 0) 8 rfl Try.underlying22 info3 rfl (by decide) (by omega) v1023 y1022 t999 _ _ _ (fun k_ => some k_ ≠ (.slice Ao107 t998.length co107 : Value).ownBlock ∧ some k_ ≠ (.slice Ao108 t999.length co108 : Value).ownBlock) (fun _ => False) rfl rfl ?aO ?aR (fun _ _ h => h) (fun _ h => h.elim) ?aF ?aB ?aS ?aL ?_; (case aR => repeat (first | exact (Kd.R_reads' HO_20.out).2.2 | (with_reducible refine Kd.C_alloc ?_ _) | (with_reducible refine Kd.C_drewN ?_ _) | (with_reducible refine Kd.C_drew ?_))); (case aB => exact G.bel); (case aF => exact (fun k_ hk => ⟨Kd.fresh' (Kd.R_lt (G.kR HO_19.out)) k_ hk, Kd.fresh' (Kd.R_lt (G.kR HO_20.out)) k_ hk⟩)); (case aO => exact (G.kR HO1024.out)); (case aS => exact (below_size G.bel)); (case aL => have := LMc130.out; omega); intro v1026 w139 ho hb hg hat; rw [← Ny1025.out] at ho; have n0_ := Aside0.mk (Kd.R_after (ok := (fun k_ => some k_ ≠ (.slice Ao108 t999.length co108 : Value).ownBlock)) (G.kR HO_19.out) hg hat); have n1_ := Aside0.mk (Kd.R_after (ok := (fun k_ => some k_ ≠ (.slice Ao107 t998.length co107 : Value).ownBlock)) (G.kR HO_20.out) hg hat); have n2_ := Aside0.mk (Kd.N_afterv (ok := (fun k_ => some k_ ≠ (.slice Ao107 t998.length co107 : Value).ownBlock ∧ some k_ ≠ (.slice Ao108 t999.length co108 : Value).ownBlock)) (G.kN HO_21.out) hg hat); have n3_ := Aside0.mk (Kd.V_afterv (ok := (fun k_ => some k_ ≠ (.slice Ao107 t998.length co107 : Value).ownBlock ∧ some k_ ≠ (.slice Ao108 t999.length co108 : Value).ownBlock ∧ some k_ ≠ (.slice (some ad1021) t1004.length co135 : Value).ownBlock)) (G.kV HL1021_0.out) hg hat); have n4_ := Aside0.mk (hb); have n5_ := Aside0.mk (ho); clear HO_19; clear HO_20; clear HO_21; clear HL1021_0; clear HB; clear HO1024; have HO_19 := n0_; have HO_20 := n1_; have HO_21 := n2_; have HL1021_0 := n3_; have HB := n4_; have HO1027 := n5_; clear n0_ n1_ n2_ n3_ n4_ n5_; clear ho hb hg hat; obtain ⟨Ao140, co140, eo140⟩ := Kd.R_slice HO1027.out; subst eo140) | ((with_reducible refine gate_callee (f := 72) rfl ?_); refine goesL_ (some 203) rfl rfl Try.func72 (by kernel_rfl) rfl #[.slice Ao107 t998.length co107, .slice Ao140 y1025.length co140] rfl G.ar ?_; (with_reducible refine (impl_IsFactor.calls k6 _ _ t998 _ _ y1025 true _ ?side1 ?side2 ?side3 ?side4 A131.out).mono ?_); (case side1 => repeat (first | exact (Kd.R_reads' HO_19.out).2.2 | (with_reducible refine Kd.C_alloc ?_ _) | (with_reducible refine Kd.C_drewN ?_ _) | (with_reducible refine Kd.C_drew ?_))); (case side2 => exact (Kd.R_reads' HO_19.out).2.1); (case side3 => repeat (first | exact (Kd.R_reads' HO1027.out).2.2 | (with_reducible refine Kd.C_alloc ?_ _) | (with_reducible refine Kd.C_drewN ?_ _) | (with_reducible refine Kd.C_drew ?_))); (case side4 => exact (Kd.R_reads' HO1027.out).2.1); rintro e w141 ⟨rfl, hb⟩; refine ⟨_, rfl, ?_⟩; have n0_ := Aside0.mk (Kd.R_below (G.kR HO_19.out) hb); have n1_ := Aside0.mk (Kd.R_below (G.kR HO_20.out) hb); have n2_ := Aside0.mk (Kd.N_below (G.kN HO_21.out) hb); have n3_ := Aside0.mk (Kd.V_below (G.kV HL1021_0.out) hb); have n4_ := Aside0.mk (Kd.R_below (G.kR HO1027.out) hb); have n5_ := Aside0.mk (below_step G.bel hb); clear HO_19; clear HO_20; clear HO_21; clear HL1021_0; clear HO1027; clear HB; have HO_19 := n0_; have HO_20 := n1_; have HO_21 := n2_; have HL1021_0 := n3_; have HO1027 := n4_; have HB := n5_; clear n0_ n1_ n2_ n3_ n4_ n5_; (try clear hb); (try clear hb2); (try clear hk); (try clear hi)) | (go_at_call 75; (with_reducible refine (impl_OccurrencesOf.calls k6 _ _ y1025 _ _ t999 t1029 _ ?side1 ?side2 ?side3 ?side4 A133.out).mono ?_); (case side1 => repeat (first | exact (Kd.R_reads' HO1027.out).2.2 | (with_reducible refine Kd.C_alloc ?_ _) | (with_reducible refine Kd.C_drewN ?_ _) | (with_reducible refine Kd.C_drew ?_))); (case side2 => exact (Kd.R_reads' HO1027.out).2.1); (case side3 => repeat (first | exact (Kd.R_reads' HO_20.out).2.2 | (with_reducible refine Kd.C_alloc ?_ _) | (with_reducible refine Kd.C_drewN ?_ _) | (with_reducible refine Kd.C_drew ?_))); (case side4 => exact (Kd.R_reads' HO_20.out).2.1); rintro e w142 ⟨v1030, rfl, ho0, hb⟩; have n0_ := Aside0.mk (Kd.R_elder' (G.kR HO_19.out) (Kd.R_base ho0) hb); have n1_ := Aside0.mk (Kd.R_elder' (G.kR HO_20.out) (Kd.R_base ho0) hb); have n2_ := Aside0.mk (Kd.N_elder' (G.kN HO_21.out) (Kd.R_base ho0) hb); have n3_ := Aside0.mk (Kd.V_elder' (G.kV HL1021_0.out) (Kd.R_base ho0) hb); have n4_ := Aside0.mk (Kd.R_elder' (G.kR HO1027.out) (Kd.R_base ho0) hb); have n5_ := Aside0.mk (Kd.R_lower (Kd.R_new' (Kd.R_new' (Kd.R_new' ho0 (Kd.R_lt (G.kR HO_19.out))) (Kd.R_lt (G.kR HO_20.out))) (Kd.R_lt (G.kR HO1027.out))) (below_size G.bel)); have n6_ := Aside0.mk (below_step G.bel hb); clear HO_19; clear HO_20; clear HO_21; clear HL1021_0; clear HO1027; clear HB; have HO_19 := n0_; have HO_20 := n1_; have HO_21 := n2_; have HL1021_0 := n3_; have HO1027 := n4_; have HO1031 := n5_; have HB := n6_; clear n0_ n1_ n2_ n3_ n4_ n5_ n6_; (try clear hb); (try clear hb2); (try clear hk); (try clear hi); (try clear ho0); obtain ⟨Ao143, co143, eo143⟩ := Kd.R_slice HO1031.out; subst eo143))
                        go_roundg k6
                        case measure => have := HJ9.out; have := HJ30.out; have := HK3.out; have := HJ75.out; have := HJ104.out; have := HK6.out; omega
                        case rel => exact ⟨(wrap64 (x22_6 + 1)), G.tr, H', ⟨by have := HJ9.out; have := HJ30.out; have := HK3.out; have := HJ75.out; have := HJ104.out; have := HK6.out; omega⟩, ⟨by (with_reducible repeat (first | apply Kd.R_alloc | apply Kd.R_drewN | apply Kd.R_drew)); exact Kd.R_mono HO_19.out (fun _ hk => hk.1.1)⟩, ⟨by (with_reducible repeat (first | apply Kd.R_alloc | apply Kd.R_drewN | apply Kd.R_drew)); exact Kd.R_mono HO_20.out (fun _ hk => hk.1.1)⟩, ⟨by (with_reducible repeat (first | apply Kd.N_alloc | apply Kd.N_drewN | apply Kd.N_drew)); exact Kd.N_mono HO_21.out (fun _ hk => ⟨hk.1.1.1, hk.1.1.2⟩)⟩, ⟨G.bel⟩⟩
                       ·rw [if_neg c134] at H
                        have c134b0 : ((t1029.length : Int) == 2) = false := beq_eq_false_iff_ne.mpr c134
                        have c134b1 : ((t1029.length : Int) != 2) = true := bne_iff_ne.mpr c134
                        exact absurd ((Option.some.inj H).trans HTrue_.out) (by decide)
                      ·replace c132 := Bool.eq_false_iff.mpr c132
                       subst c132
                       rw [if_neg (show ¬ (false = true) by decide)] at H
                       exact absurd ((Option.some.inj H).trans HTrue_.out) (by decide)
                     ·rw [if_neg c130] at H
                      exact absurd H (by simp)
                    ·rw [if_neg c129] at H
                     exact absurd H (by simp)
                   ·rw [if_neg c128] at H
                    exact absurd H (by simp)
                  ·rw [if_neg c127] at H
                   have c127b0 : decide (x22_6 < (t1004.length : Int)) = false := decide_eq_false c127
                   clear c127
                   obtain ⟨Ao170, co170, eo170⟩ := Kd.N_slice HO_21.out
                   subst eo170
                   go_upto_region 32 with (first | ((with_reducible refine gate_callee (f := 77) rfl ?_); refine goesL_ (some 214) rfl rfl Try.func77 (by kernel_rfl) rfl #[.slice A0 l0.length c0] rfl G.ar ?_; (with_reducible refine (spec_DrawCompareWords.any _ _ l0 _ ?side1 ?side2 ?side3).mono ?_); (case side3 => exact HBIG_.out); (case side1 => exact G.kC (Kd.C_below HR0.out HB.out)); (case side2 => exact HC0.out); rintro e w171 ⟨t1032, t1033, v1034, v1036, hw_, rfl, ho0, ho1, hb⟩; have A160 := Aside0.mk hw_; clear hw_; refine ⟨_, rfl, ?_⟩; have n0_ := Aside0.mk (Kd.R_mono (Kd.R_told (Kd.R_told (Kd.R_old (G.kR HO_19.out) hb) (Kd.R_base ho0)) (Kd.R_base ho1)) (fun _ h_ => h_.1)); have n1_ := Aside0.mk (Kd.R_mono (Kd.R_told (Kd.R_told (Kd.R_old (G.kR HO_20.out) hb) (Kd.R_base ho0)) (Kd.R_base ho1)) (fun _ h_ => h_.1)); have n2_ := Aside0.mk (Kd.N_mono (Kd.N_told (Kd.N_told (Kd.N_old (G.kN HO_21.out) hb) (Kd.R_base ho0)) (Kd.R_base ho1)) (fun _ h_ => h_.1)); have n3_ := Aside0.mk (Kd.R_lower (Kd.R_new' (Kd.R_new' ho0 (Kd.R_lt (G.kR HO_19.out))) (Kd.R_lt (G.kR HO_20.out))) (below_size G.bel)); have n4_ := Aside0.mk (Kd.R_lower (Kd.R_new' (Kd.R_new' ho1 (Kd.R_lt (G.kR HO_19.out))) (Kd.R_lt (G.kR HO_20.out))) (below_size G.bel)); have n5_ := Aside0.mk (below_step G.bel hb); clear HO_19; clear HO_20; clear HO_21; clear HB; have HO_19 := n0_; have HO_20 := n1_; have HO_21 := n2_; have HO1035 := n3_; have HO1037 := n4_; have HB := n5_; clear n0_ n1_ n2_ n3_ n4_ n5_; (try clear hb); (try clear hb2); (try clear hk); (try clear hi); (try clear ho0); (try clear ho1)))
                   obtain ⟨k6, H⟩ := G.draw_out H (t1032, t1033) A160.out
                   replace H : (G.draw spec_DrawIsWord.Ok fun k6 bt1038 => ((impl_CompareWords.f k6 t1032 t1033).bind fun t1042 => ((spec_CompareWords.f k6 t1032 t1033).bind fun t1043 => (if t1042 = t1043 then ((impl_CompareWords.f k6 t1032 t1033).bind fun t1044 => ((impl_CompareWords.f k6 t1033 t1032).bind fun t1045 => (if t1044 = (wrap64 (-t1045)) then ((impl_IsWord.f k6 bt1038.1 bt1038.2).bind fun t1046 => ((spec_IsWord.f k6 bt1038.1 bt1038.2).bind fun t1047 => (some (t1046 == t1047)))) else (some false)))) else (some false))))) = some r := H
                   go_upto_region 33 with (first | ((with_reducible refine gate_callee (f := 78) rfl ?_); refine goesL_ (some 219) rfl rfl Try.func78 (by kernel_rfl) rfl #[.slice A0 l0.length c0] rfl G.ar ?_; (with_reducible refine (spec_DrawIsWord.any _ _ l0 _ ?side1 ?side2 ?side3).mono ?_); (case side3 => exact HBIG_.out); (case side1 => exact G.kC (Kd.C_below HR0.out HB.out)); (case side2 => exact HC0.out); rintro e w172 ⟨t1038, t1039, v1040, hw_, rfl, ho0, hb⟩; have A161 := Aside0.mk hw_; clear hw_; refine ⟨_, rfl, ?_⟩; have n0_ := Aside0.mk (Kd.R_elder' (G.kR HO_19.out) (Kd.R_base ho0) hb); have n1_ := Aside0.mk (Kd.R_elder' (G.kR HO_20.out) (Kd.R_base ho0) hb); have n2_ := Aside0.mk (Kd.N_elder' (G.kN HO_21.out) (Kd.R_base ho0) hb); have n3_ := Aside0.mk (Kd.R_elder' (G.kR HO1035.out) (Kd.R_base ho0) hb); have n4_ := Aside0.mk (Kd.R_elder' (G.kR HO1037.out) (Kd.R_base ho0) hb); have n5_ := Aside0.mk (Kd.R_lower (Kd.R_new' (Kd.R_new' (Kd.R_new' (Kd.R_new' ho0 (Kd.R_lt (G.kR HO_19.out))) (Kd.R_lt (G.kR HO_20.out))) (Kd.R_lt (G.kR HO1035.out))) (Kd.R_lt (G.kR HO1037.out))) (below_size G.bel)); have n6_ := Aside0.mk (below_step G.bel hb); clear HO_19; clear HO_20; clear HO_21; clear HO1035; clear HO1037; clear HB; have HO_19 := n0_; have HO_20 := n1_; have HO_21 := n2_; have HO1035 := n3_; have HO1037 := n4_; have HO1041 := n5_; have HB := n6_; clear n0_ n1_ n2_ n3_ n4_ n5_ n6_; (try clear hb); (try clear hb2); (try clear hk); (try clear hi); (try clear ho0)))
                   obtain ⟨k6, H⟩ := G.draw_out H (t1038, t1039) A161.out
                   replace H : ((impl_CompareWords.f k6 t1032 t1033).bind fun t1042 => ((spec_CompareWords.f k6 t1032 t1033).bind fun t1043 => (if t1042 = t1043 then ((impl_CompareWords.f k6 t1032 t1033).bind fun t1044 => ((impl_CompareWords.f k6 t1033 t1032).bind fun t1045 => (if t1044 = (wrap64 (-t1045)) then ((impl_IsWord.f k6 t1038 t1039).bind fun t1046 => ((spec_IsWord.f k6 t1038 t1039).bind fun t1047 => (some (t1046 == t1047)))) else (some false)))) else (some false)))) = some r := H
                   obtain ⟨t1042, A162, H⟩ := G.bx H
                   obtain ⟨t1043, A163, H⟩ := G.bx H
                   by_cases c164 : t1042 = t1043
                   ·rw [if_pos c164] at H
                    have c164b0 : (t1042 == t1043) = true := beq_iff_eq.mpr c164
                    have c164b1 : (t1042 != t1043) = false := bne_eq_false_iff_eq.mpr c164
                    clear c164
                    replace H := Option.bind_eq_some_iff.mp H
                    obtain ⟨t1044, A1650, H⟩ := H
                    replace H : ((impl_CompareWords.f k6 t1033 t1032).bind fun t1045 => (if t1044 = (wrap64 (-t1045)) then ((impl_IsWord.f k6 t1038 t1039).bind fun t1046 => ((spec_IsWord.f k6 t1038 t1039).bind fun t1047 => (some (t1046 == t1047)))) else (some false))) = some r := H
                    have A165 := Aside0.mk A1650
                    have et_ : t1042 = t1044 := Option.some.inj (A162.out.symm.trans A165.out)
                    subst et_
                    clear A1650
                    obtain ⟨t1045, A166, H⟩ := G.bx H
                    by_cases c167 : t1042 = (wrap64 (-t1045))
                    ·rw [if_pos c167] at H
                     have c167b0 : (t1042 == (wrap64 (-t1045))) = true := beq_iff_eq.mpr c167
                     have c167b1 : (t1042 != (wrap64 (-t1045))) = false := bne_eq_false_iff_eq.mpr c167
                     clear c167
                     obtain ⟨t1046, A168, H⟩ := G.bx H
                     obtain ⟨t1047, A169, H⟩ := G.bx H
                     obtain rfl := Option.some.inj H
                     skip
                     skip
                     obtain ⟨Ao173, co173, eo173⟩ := Kd.R_slice HO1035.out
                     (first | subst eo173 | cases eo173)
                     obtain ⟨Ao174, co174, eo174⟩ := Kd.R_slice HO1037.out
                     (first | subst eo174 | cases eo174)
                     go_wp2_with (first | ((with_reducible refine gate_callee (f := 73) rfl ?_); refine goesL_ (some 224) rfl rfl Try.func73 (by kernel_rfl) rfl #[.slice Ao173 t1032.length co173, .slice Ao174 t1033.length co174] rfl G.ar ?_; (with_reducible refine (impl_CompareWords.calls k6 _ _ t1032 _ _ t1033 t1042 _ ?side1 ?side2 ?side3 ?side4 A162.out).mono ?_); (case side1 => repeat (first | exact (Kd.R_reads' HO1035.out).2.2 | (with_reducible refine Kd.C_alloc ?_ _) | (with_reducible refine Kd.C_drewN ?_ _) | (with_reducible refine Kd.C_drew ?_))); (case side2 => exact (Kd.R_reads' HO1035.out).2.1); (case side3 => repeat (first | exact (Kd.R_reads' HO1037.out).2.2 | (with_reducible refine Kd.C_alloc ?_ _) | (with_reducible refine Kd.C_drewN ?_ _) | (with_reducible refine Kd.C_drew ?_))); (case side4 => exact (Kd.R_reads' HO1037.out).2.1); rintro e w' ⟨rfl, ⟨nd, rfl⟩⟩; refine ⟨_, rfl, ?_⟩) | ((with_reducible refine gate_callee (f := 79) rfl ?_); refine goesL_ (some 227) rfl rfl Try.func79 (by kernel_rfl) rfl #[.slice Ao173 t1032.length co173, .slice Ao174 t1033.length co174] rfl G.ar ?_; (with_reducible refine (spec_CompareWords.calls k6 _ _ t1032 _ _ t1033 t1043 _ ?side1 ?side2 ?side3 ?side4 A163.out).mono ?_); (case side1 => repeat (first | exact (Kd.R_reads' HO1035.out).2.2 | (with_reducible refine Kd.C_alloc ?_ _) | (with_reducible refine Kd.C_drewN ?_ _) | (with_reducible refine Kd.C_drew ?_))); (case side2 => exact (Kd.R_reads' HO1035.out).2.1); (case side3 => repeat (first | exact (Kd.R_reads' HO1037.out).2.2 | (with_reducible refine Kd.C_alloc ?_ _) | (with_reducible refine Kd.C_drewN ?_ _) | (with_reducible refine Kd.C_drew ?_))); (case side4 => exact (Kd.R_reads' HO1037.out).2.1); rintro e w' ⟨rfl, ⟨nd, rfl⟩⟩; refine ⟨_, rfl, ?_⟩) | (go_at_call 73; (with_reducible refine (impl_CompareWords.calls k6 _ _ t1032 _ _ t1033 t1042 _ ?side1 ?side2 ?side3 ?side4 A165.out).mono ?_); (case side1 => repeat (first | exact (Kd.R_reads' HO1035.out).2.2 | (with_reducible refine Kd.C_alloc ?_ _) | (with_reducible refine Kd.C_drewN ?_ _) | (with_reducible refine Kd.C_drew ?_))); (case side2 => exact (Kd.R_reads' HO1035.out).2.1); (case side3 => repeat (first | exact (Kd.R_reads' HO1037.out).2.2 | (with_reducible refine Kd.C_alloc ?_ _) | (with_reducible refine Kd.C_drewN ?_ _) | (with_reducible refine Kd.C_drew ?_))); (case side4 => exact (Kd.R_reads' HO1037.out).2.1); rintro e w' ⟨rfl, ⟨nd, rfl⟩⟩) | (go_at_call 73; (with_reducible refine (impl_CompareWords.calls k6 _ _ t1033 _ _ t1032 t1045 _ ?side1 ?side2 ?side3 ?side4 A166.out).mono ?_); (case side1 => repeat (first | exact (Kd.R_reads' HO1037.out).2.2 | (with_reducible refine Kd.C_alloc ?_ _) | (with_reducible refine Kd.C_drewN ?_ _) | (with_reducible refine Kd.C_drew ?_))); (case side2 => exact (Kd.R_reads' HO1037.out).2.1); (case side3 => repeat (first | exact (Kd.R_reads' HO1035.out).2.2 | (with_reducible refine Kd.C_alloc ?_ _) | (with_reducible refine Kd.C_drewN ?_ _) | (with_reducible refine Kd.C_drew ?_))); (case side4 => exact (Kd.R_reads' HO1035.out).2.1); rintro e w' ⟨rfl, ⟨nd, rfl⟩⟩; obtain ⟨Ao175, co175, eo175⟩ := Kd.R_slice HO1041.out; subst eo175) | (go_at_call 80; (with_reducible refine (impl_IsWord.calls k6 _ _ t1038 t1039 t1046 _ ?side1 ?side2 A168.out).mono ?_); (case side1 => repeat (first | exact (Kd.R_reads' HO1041.out).2.2 | (with_reducible refine Kd.C_alloc ?_ _) | (with_reducible refine Kd.C_drewN ?_ _) | (with_reducible refine Kd.C_drew ?_))); (case side2 => exact (Kd.R_reads' HO1041.out).2.1); rintro e w' ⟨rfl, ⟨nd, rfl⟩⟩) | (go_at_call 67; (with_reducible refine (spec_IsWord.calls k6 _ _ t1038 t1039 t1047 _ ?side1 ?side2 A169.out).mono ?_); (case side1 => repeat (first | exact (Kd.R_reads' HO1041.out).2.2 | (with_reducible refine Kd.C_alloc ?_ _) | (with_reducible refine Kd.C_drewN ?_ _) | (with_reducible refine Kd.C_drew ?_))); (case side2 => exact (Kd.R_reads' HO1041.out).2.1); rintro e w' ⟨rfl, ⟨nd, rfl⟩⟩))
                     go_ret
                     exact ⟨G.er, G.bel⟩
                    ·rw [if_neg c167] at H
                     have c167b0 : (t1042 == (wrap64 (-t1045))) = false := beq_eq_false_iff_ne.mpr c167
                     have c167b1 : (t1042 != (wrap64 (-t1045))) = true := bne_iff_ne.mpr c167
                     exact absurd ((Option.some.inj H).trans HTrue_.out) (by decide)
                   ·rw [if_neg c164] at H
                    have c164b0 : (t1042 == t1043) = false := beq_eq_false_iff_ne.mpr c164
                    have c164b1 : (t1042 != t1043) = true := bne_iff_ne.mpr c164
                    exact absurd ((Option.some.inj H).trans HTrue_.out) (by decide)
/-- THE ONE PURE STATEMENT of laws_FnWords: yours. -/
def laws_FnWords.Pure : Prop := (FWok) ∧ ∀ (l0 : List Int), l0.length ≤ maxLen → l0.length * 1 ≤ 140737488351232 → (∀ x ∈ l0, (Lit.int .u8 x).wf = true) → ∃ k, laws_FnWords.f k l0 = some true
theorem laws_FnWords.walk (P : laws_FnWords.Pure) (a0 : Option Addr) (len0 cap0 : Nat) (z0 : List Int) (w : World) (w0 : (a0 = none ∧ len0 = 0 ∧ cap0 = 0 ∧ z0 = []) ∨ ∃ x, a0 = some x ∧ len0 ≤ cap0 ∧ cap0 ≤ maxLen ∧ z0.length = cap0 ∧ (∀ i, i < z0.length → w.cell? (x.add i) = some (.int .u8 (z0.getD i 0))) ∧ ∀ n ∈ z0, (Lit.int .u8 n).wf = true) (y0 : len0 * 1 ≤ 140737488351232) :
  Calls Try.prog 12 #[.slice a0 len0 cap0] w fun e w' => e = .returned (.bool true) ∧ Below w.heap.size w w' := by
 obtain ⟨l0, rfl, hr0, hm0, hw0, hc0⟩ := ReadsInt.ofRowC w0
 obtain ⟨k, h⟩ := P.2 l0 hm0 y0 hw0
 refine (laws_FnWords.calls P.1 k _ _ l0 true w (Kd.C_of_reads (d := (0 : Int)) (h1 := fun _ => rfl) hr0) hc0 h).mono ?_
 rintro e w' ⟨rfl, hd⟩
 exact ⟨rfl, hd⟩

end Go.Proofs.Ytolikggioekalab.PFnWords
