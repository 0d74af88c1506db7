/- The Go functions that the law FnPowers reaches (part 17): each as a Lean function, and that its code comes to these answers. No condition beyond those written. -/
import Derived.Test.YtolikggioekalabVGSlim
import Derived.Test.YtolikggioekalabVGPick
import Derived.Test.YtolikggioekalabVMFnPowersx7
import Derived.Test.YtolikggioekalabVMFnPowersx6
import Derived.Test.YtolikggioekalabVMFnPowersx5
import Derived.Test.YtolikggioekalabVMFnPowersx4
import Derived.Test.YtolikggioekalabVMFnPowersx3
import Derived.Test.YtolikggioekalabVMFnPowersx0
import Derived.Test.YtolikggioekalabVMFnPowersx1
import Derived.Test.YtolikggioekalabVMFnPowersx2
import Derived.Test.YtolikggioekalabVMFnPowersx8
import Derived.Test.YtolikggioekalabVMFnPowersx9
import Derived.Test.YtolikggioekalabVMFnPowersx10
import Derived.Test.YtolikggioekalabVMFnPowersx11
import Derived.Test.YtolikggioekalabVMFnPowersx12
import Derived.Test.YtolikggioekalabVMFnPowersx13
import Derived.Test.YtolikggioekalabVMFnPowersx14
import Derived.Test.YtolikggioekalabVMFnPowersx15
import Derived.Test.YtolikggioekalabVMFnPowersx16
namespace Go.Proofs.Ytolikggioekalab.PFnPowers
open Go.RowKit Go.Proofs.YtolikggioekalabW.PrintWords Go.Proofs.YtolikggioekalabW.PrintLast Go.Proofs.YtolikggioekalabW.PrintMore
attribute [local go_sem] max2_int min2_int max_two min_two max_three min_three max_four min_four   -- for this text's walks alone
set_option linter.unusedVariables false
set_option linter.unusedSimpArgs false

attribute [local go_sem high] eqA55
/-! ### laws_FnPowers: function 11 -/
mutual
noncomputable def laws_FnPowers.j0 : Nat → List Int → List Int → List (S55) → List (S55) → Bool → Option (Bool)
 | 0, _, _, _, _, _ => none
 | k + 1, x0, x3, x4, x5, x56 => if x56 = true then (some false) else (laws_FnPowers.l0 k x0 x3 x4 x5 0)
noncomputable def laws_FnPowers.l0 : Nat → List Int → List Int → List (S55) → List (S55) → Int → Option (Bool)
 | 0, _, _, _, _, _ => none
 | k + 1, x0, x3, x4, x5, x6 => if x6 < (x4.length : Int) then (if 0 ≤ x6 then (if x6 < (x5.length : Int) then (if (!(((rd_T55 x4 x6).f0) == ((rd_T55 x5 x6).f0)) || (!(((rd_T55 x4 x6).f1) == ((rd_T55 x5 x6).f1)) || (!(((rd_T55 x4 x6).f2) == ((rd_T55 x5 x6).f2))))) = true then (some false) else (if 0 ≤ ((rd_T55 x5 x6).f0) then (if ((rd_T55 x5 x6).f0) ≤ (wrap64 (((rd_T55 x5 x6).f0) + ((rd_T55 x5 x6).f1))) then (if (wrap64 (((rd_T55 x5 x6).f0) + ((rd_T55 x5 x6).f1))) ≤ (x3.length : Int) then (if 0 ≤ (wrap64 (((rd_T55 x5 x6).f0) + ((rd_T55 x5 x6).f1))) then (if (wrap64 (((rd_T55 x5 x6).f0) + ((rd_T55 x5 x6).f1))) ≤ (wrap64 (((rd_T55 x5 x6).f0) + ((rd_T55 x5 x6).f2))) then (if (wrap64 (((rd_T55 x5 x6).f0) + ((rd_T55 x5 x6).f2))) ≤ (x3.length : Int) then ((laws_sameInts.f k ((x3.take ((wrap64 (((rd_T55 x5 x6).f0) + ((rd_T55 x5 x6).f1))) : Int).toNat).drop (((rd_T55 x5 x6).f0) : Int).toNat) ((x3.take ((wrap64 (((rd_T55 x5 x6).f0) + ((rd_T55 x5 x6).f2))) : Int).toNat).drop ((wrap64 (((rd_T55 x5 x6).f0) + ((rd_T55 x5 x6).f1))) : Int).toNat)).bind fun t734 => (if t734 = true then (laws_FnPowers.l0 k x0 x3 x4 x5 (wrap64 (x6 + 1))) else (some false))) else (none)) else (none)) else (none)) else (none)) else (none)) else (none))) else (none)) else (none)) else (if (x3.length : Int) ≤ 64 then ((impl_HasSquare.f k x3).bind fun t735 => (if (t735 != (decide ((x5.length : Int) > 0))) = true then (laws_FnPowers.j2 k x0 x3 true) else ((impl_HasOverlap.f k x3).bind fun t736 => (if t736 = true then ((impl_HasSquare.f k x3).bind fun t737 => (if t737 = true then ((impl_DistinctSquares.f k x3).bind fun t738 => (laws_FnPowers.j2 k x0 x3 (decide (t738 > (x3.length : Int))))) else (laws_FnPowers.j2 k x0 x3 true))) else ((impl_DistinctSquares.f k x3).bind fun t739 => (laws_FnPowers.j2 k x0 x3 (decide (t739 > (x3.length : Int))))))))) else (laws_FnPowers.j2 k x0 x3 false))
noncomputable def laws_FnPowers.j2 : Nat → List Int → List Int → Bool → Option (Bool)
 | 0, _, _, _ => none
 | k + 1, x0, x3, x124 => if x124 = true then (some false) else ((impl_GreatestExponent.f k x3).bind fun bt740 => ((spec_GreatestExponent.f k x3).bind fun bt742 => ((impl_ExponentOf.f k x3).bind fun bt744 => ((spec_ExponentOf.f k x3).bind fun bt746 => (if bt740.1 = bt742.1 then (if bt740.2 = bt742.2 then (if bt744.1 = bt746.1 then (if bt744.2 = bt746.2 then (if (x3.length : Int) > 0 then (if (x3.length : Int) ≤ 128 then (if (wrap64 (bt742.1 * bt746.2)) < (wrap64 (bt746.1 * bt742.2)) then (laws_FnPowers.j3 k x0 x3 true) else ((impl_HasSquare.f k x3).bind fun t748 => (if (t748 != (decide (bt742.1 ≥ (wrap64 (2 * bt742.2))))) = true then (laws_FnPowers.j3 k x0 x3 true) else ((impl_HasOverlap.f k x3).bind fun t749 => (laws_FnPowers.j3 k x0 x3 (t749 != (decide (bt742.1 > (wrap64 (2 * bt742.2)))))))))) else (laws_FnPowers.j3 k x0 x3 false)) else (laws_FnPowers.j3 k x0 x3 false)) else (laws_FnPowers.j3 k x0 x3 true)) else (laws_FnPowers.j3 k x0 x3 true)) else (laws_FnPowers.j3 k x0 x3 true)) else (laws_FnPowers.j3 k x0 x3 true))))))
noncomputable def laws_FnPowers.j3 : Nat → List Int → List Int → Bool → Option (Bool)
 | 0, _, _, _ => none
 | k + 1, x0, x3, x199 => if x199 = true then (some false) else ((impl_ShortestSquare.f k x3).bind fun bt750 => ((spec_ShortestSquare.f k x3).bind fun bt755 => (G.draw spec_DrawHasPower.Ok fun k bt760 => (if (bt750.2.2.2 == bt755.2.2.2) = true then (if (bt750.1 == bt755.1 && (bt750.2.1 == bt755.2.1 && (bt750.2.2.1 == bt755.2.2.1))) = true then ((impl_HasPower.f k bt760.1 bt760.2.1 bt760.2.2).bind fun t765 => ((spec_HasPower.f k bt760.1 bt760.2.1 bt760.2.2).bind fun t766 => (some (t765 == t766)))) else (some false)) else (some false)))))
end
noncomputable def laws_FnPowers.f (k : Nat) (l0 : List Int) : Option (Bool) := (laws_big.f l0).bind fun t707 => (if t707 = true then (some true) else (G.draw spec_DrawSquaresOf.Ok fun k t708 => ((impl_SquaresOf.f k t708).bind fun t711 => ((spec_SquaresOf.f k t708).bind fun t714 => (if (t711.length : Int) = (t714.length : Int) then ((impl_HasSquare.f k t708).bind fun t717 => ((spec_HasSquare.f k t708).bind fun t718 => (if (t717 != t718) = true then (laws_FnPowers.j0 k l0 t708 t711 t714 true) else ((impl_HasOverlap.f k t708).bind fun t719 => ((spec_HasOverlap.f k t708).bind fun t720 => (if (t719 != t720) = true then (laws_FnPowers.j0 k l0 t708 t711 t714 true) else ((impl_DistinctSquares.f k t708).bind fun t721 => ((spec_DistinctSquares.f k t708).bind fun t722 => (laws_FnPowers.j0 k l0 t708 t711 t714 (t721 != t722)))))))))) else (laws_FnPowers.j0 k l0 t708 t711 t714 true))))))
def laws_FnPowers.T12 : Bool × List (List Nat × List Nat) := (true, [([], []), ([], []), ([0, 1], [0, 1]), ([2], [2]), ([], []), ([3, 4], [3, 4]), ([5], [5]), ([6], [6]), ([6], [6]), ([8, 6], [6, 8]), ([6], [6]), ([10, 6], [6, 10]), ([6], [6]), ([12, 6], [6, 12]), ([11, 13, 6], [6, 11, 13]), ([7, 9, 14, 6], [6, 7, 9, 14]), ([6], [6]), ([6], [6]), ([17, 6], [6, 17]), ([6], [6]), ([19, 6], [6, 19]), ([18, 20, 6], [6, 18, 20]), ([6], [6]), ([22, 6], [6, 22]), ([6], [6]), ([24, 6], [6, 24]), ([23, 25, 6], [6, 23, 25]), ([16, 21, 26, 6], [6, 16, 21, 26]), ([15, 27, 6, 6], [6, 15, 27]), ([28, 6], [6, 28]), ([6, 29], [6, 29])])
def laws_FnPowers.B12 : List Nat := [0, 0, 3, 7, 0, 31, 63, 127, 127, 383, 127, 1151, 127, 4223, 15487, 32767, 127, 127, 131199, 127, 524415, 1966207, 127, 4194431, 127, 16777343, 62914687, 134152319, 268435455, 536870911, 1073741823]
theorem laws_FnPowers.tab12 : rtab .any (opsOf Try.f11 12) = laws_FnPowers.T12 := by kernel_rfl
theorem laws_FnPowers.bits12 : waitsOk laws_FnPowers.T12.2 laws_FnPowers.B12 = true := by kernel_rfl
theorem laws_FnPowers.j0_no : ∀ k a0 a1 a2 a3, laws_FnPowers.j0 k a0 a1 a2 a3 true ≠ some true := by
 intro k _ _ _ _
 cases k <;> simp [laws_FnPowers.j0]
theorem laws_FnPowers.j2_no : ∀ k a0 a1, laws_FnPowers.j2 k a0 a1 true ≠ some true := by
 intro k _ _
 cases k <;> simp [laws_FnPowers.j2]
theorem laws_FnPowers.j3_no : ∀ k a0 a1, laws_FnPowers.j3 k a0 a1 true ≠ some true := by
 intro k _ _
 cases k <;> simp [laws_FnPowers.j3]
set_option maxHeartbeats 8000000 in
set_option maxRecDepth 100000 in
theorem laws_FnPowers.calls (k : Nat) (A0 : Option Addr) (c0 : Nat) (l0 : List Int) (r : Bool) (w : World) (hr0 : Kd.C (Kd.int .u8) w A0 l0.length l0) (hc0 : l0.length ≤ c0) (h : laws_FnPowers.f k l0 = some r) (hT : r = true := by rfl) :
  Calls Try.prog 11 #[.slice A0 l0.length c0] w fun e w' => e = .returned (.bool r) ∧ Below w.heap.size w w' := by
 have HTrue_ := Aside0.mk hT
 clear hT
 have hu55 := Try.underlying55
 have HR0 := Aside0.mk hr0
 have HC0 := Aside0.mk hc0
 clear hr0 hc0
 have HB := Aside0.mk (Below.refl w.heap.size w)
 have H : ((laws_big.f l0).bind fun t707 => (if t707 = true then (some true) else (G.draw spec_DrawSquaresOf.Ok fun k t708 => ((impl_SquaresOf.f k t708).bind fun t711 => ((spec_SquaresOf.f k t708).bind fun t714 => (if (t711.length : Int) = (t714.length : Int) then ((impl_HasSquare.f k t708).bind fun t717 => ((spec_HasSquare.f k t708).bind fun t718 => (if (t717 != t718) = true then (laws_FnPowers.j0 k l0 t708 t711 t714 true) else ((impl_HasOverlap.f k t708).bind fun t719 => ((spec_HasOverlap.f k t708).bind fun t720 => (if (t719 != t720) = true then (laws_FnPowers.j0 k l0 t708 t711 t714 true) else ((impl_DistinctSquares.f k t708).bind fun t721 => ((spec_DistinctSquares.f k t708).bind fun t722 => (laws_FnPowers.j0 k l0 t708 t711 t714 (t721 != t722)))))))))) else (laws_FnPowers.j0 k l0 t708 t711 t714 true))))))) = some r := h
 clear h
 replace H := Option.bind_eq_some_iff.mp H
 obtain ⟨t707, A20, H⟩ := H
 replace H : (if t707 = true then (some true) else (G.draw spec_DrawSquaresOf.Ok fun k t708 => ((impl_SquaresOf.f k t708).bind fun t711 => ((spec_SquaresOf.f k t708).bind fun t714 => (if (t711.length : Int) = (t714.length : Int) then ((impl_HasSquare.f k t708).bind fun t717 => ((spec_HasSquare.f k t708).bind fun t718 => (if (t717 != t718) = true then (laws_FnPowers.j0 k l0 t708 t711 t714 true) else ((impl_HasOverlap.f k t708).bind fun t719 => ((spec_HasOverlap.f k t708).bind fun t720 => (if (t719 != t720) = true then (laws_FnPowers.j0 k l0 t708 t711 t714 true) else ((impl_DistinctSquares.f k t708).bind fun t721 => ((spec_DistinctSquares.f k t708).bind fun t722 => (laws_FnPowers.j0 k l0 t708 t711 t714 (t721 != t722)))))))))) else (laws_FnPowers.j0 k l0 t708 t711 t714 true)))))) = some r := H
 have A2 := Aside0.mk A20
 clear A20
 by_cases c3 : t707 = true
 ·subst c3
  have H1 : (some true) = some r := by rw [if_pos rfl] at H; exact H
  clear H
  have H := H1
  clear H1
  obtain rfl := Option.some.inj H
  go_enter Try.func11, Try.ntmps11
  go_wp2_with (first | ((with_reducible refine gate_callee (f := 41) rfl ?_); refine goesL_ (some 24) rfl rfl Try.func41 (by kernel_rfl) rfl #[.slice A0 l0.length c0] rfl (by (try simp only [List.map_toArray, List.map_cons, List.map_nil]); first | done | rfl | (simp only [List.length_drop, List.length_take]; rfl)) ?_; (with_reducible refine (laws_big.calls _ _ l0 true _ ?side1 ?side2 A2.out).mono ?_); (case side1 => repeat (first | exact HR0.out | (with_reducible refine Kd.C_alloc ?_ _) | (with_reducible refine Kd.C_drewN ?_ _) | (with_reducible refine Kd.C_drew ?_))); (case side2 => exact HC0.out); rintro e w' ⟨rfl, ⟨nd, rfl⟩⟩; refine ⟨_, rfl, ?_⟩))
  go_ret
  exact ⟨by first | rfl | (simp [errW_none, errW_some] <;> rfl) | (simp [*, errW_none, errW_some] <;> rfl), G.bel⟩
 ·replace c3 := Bool.eq_false_iff.mpr c3
  subst c3
  have H1 : (G.draw spec_DrawSquaresOf.Ok fun k t708 => ((impl_SquaresOf.f k t708).bind fun t711 => ((spec_SquaresOf.f k t708).bind fun t714 => (if (t711.length : Int) = (t714.length : Int) then ((impl_HasSquare.f k t708).bind fun t717 => ((spec_HasSquare.f k t708).bind fun t718 => (if (t717 != t718) = true then (laws_FnPowers.j0 k l0 t708 t711 t714 true) else ((impl_HasOverlap.f k t708).bind fun t719 => ((spec_HasOverlap.f k t708).bind fun t720 => (if (t719 != t720) = true then (laws_FnPowers.j0 k l0 t708 t711 t714 true) else ((impl_DistinctSquares.f k t708).bind fun t721 => ((spec_DistinctSquares.f k t708).bind fun t722 => (laws_FnPowers.j0 k l0 t708 t711 t714 (t721 != t722)))))))))) else (laws_FnPowers.j0 k l0 t708 t711 t714 true))))) = some r := by rw [if_neg (show ¬ (false = true) by decide)] at H; exact H
  clear H
  have H := H1
  clear H1
  have HBIG_ := Aside0.mk (big_le A2.out)
  go_enter Try.func11, Try.ntmps11
  go_upto_region 4 with (first | ((with_reducible refine gate_callee (f := 41) rfl ?_); refine goesL_ (some 24) rfl rfl Try.func41 (by kernel_rfl) rfl #[.slice A0 l0.length c0] rfl (by (try simp only [List.map_toArray, List.map_cons, List.map_nil]); first | done | rfl | (simp only [List.length_drop, List.length_take]; rfl)) ?_; (with_reducible refine (laws_big.calls _ _ l0 false _ ?side1 ?side2 A2.out).mono ?_); (case side1 => repeat (first | exact HR0.out | (with_reducible refine Kd.C_alloc ?_ _) | (with_reducible refine Kd.C_drewN ?_ _) | (with_reducible refine Kd.C_drew ?_))); (case side2 => exact HC0.out); rintro e w' ⟨rfl, ⟨nd, rfl⟩⟩; refine ⟨_, rfl, ?_⟩) | ((with_reducible refine gate_callee (f := 42) rfl ?_); refine goesL_ (some 26) rfl rfl Try.func42 (by kernel_rfl) rfl #[.slice A0 l0.length c0] rfl (by (try simp only [List.map_toArray, List.map_cons, List.map_nil]); first | done | rfl | (simp only [List.length_drop, List.length_take]; rfl)) ?_; (with_reducible refine (spec_DrawSquaresOf.any _ _ l0 _ ?side1 ?side2 ?side3).mono ?_); (case side3 => exact HBIG_.out); (case side1 => repeat (first | exact HR0.out | (with_reducible refine Kd.C_alloc ?_ _) | (with_reducible refine Kd.C_drewN ?_ _) | (with_reducible refine Kd.C_drew ?_))); (case side2 => exact HC0.out); rintro e w8 ⟨t708, v709, hw_, rfl, ho0, hb⟩; have A4 := Aside0.mk hw_; clear hw_; refine ⟨_, rfl, ?_⟩; have n0_ := Aside0.mk (Kd.R_lower ho0 (below_size G.bel)); have n1_ := Aside0.mk (below_step G.bel hb); clear HB; have HO710 := n0_; have HB := n1_; clear n0_ n1_; (try clear hb); (try clear hb2); (try clear hk); (try clear hi); (try clear ho0); obtain ⟨Ao9, co9, eo9⟩ := Kd.R_slice HO710.out; subst eo9))
  obtain ⟨k, H⟩ := G.draw_out H t708 A4.out
  replace H : ((impl_SquaresOf.f k t708).bind fun t711 => ((spec_SquaresOf.f k t708).bind fun t714 => (if (t711.length : Int) = (t714.length : Int) then ((impl_HasSquare.f k t708).bind fun t717 => ((spec_HasSquare.f k t708).bind fun t718 => (if (t717 != t718) = true then (laws_FnPowers.j0 k l0 t708 t711 t714 true) else ((impl_HasOverlap.f k t708).bind fun t719 => ((spec_HasOverlap.f k t708).bind fun t720 => (if (t719 != t720) = true then (laws_FnPowers.j0 k l0 t708 t711 t714 true) else ((impl_DistinctSquares.f k t708).bind fun t721 => ((spec_DistinctSquares.f k t708).bind fun t722 => (laws_FnPowers.j0 k l0 t708 t711 t714 (t721 != t722)))))))))) else (laws_FnPowers.j0 k l0 t708 t711 t714 true)))) = some r := H
  replace H := Option.bind_eq_some_iff.mp H
  obtain ⟨t711, A50, H⟩ := H
  replace H : ((spec_SquaresOf.f k t708).bind fun t714 => (if (t711.length : Int) = (t714.length : Int) then ((impl_HasSquare.f k t708).bind fun t717 => ((spec_HasSquare.f k t708).bind fun t718 => (if (t717 != t718) = true then (laws_FnPowers.j0 k l0 t708 t711 t714 true) else ((impl_HasOverlap.f k t708).bind fun t719 => ((spec_HasOverlap.f k t708).bind fun t720 => (if (t719 != t720) = true then (laws_FnPowers.j0 k l0 t708 t711 t714 true) else ((impl_DistinctSquares.f k t708).bind fun t721 => ((spec_DistinctSquares.f k t708).bind fun t722 => (laws_FnPowers.j0 k l0 t708 t711 t714 (t721 != t722)))))))))) else (laws_FnPowers.j0 k l0 t708 t711 t714 true))) = some r := H
  have A5 := Aside0.mk A50
  clear A50
  replace H := Option.bind_eq_some_iff.mp H
  obtain ⟨t714, A60, H⟩ := H
  replace H : (if (t711.length : Int) = (t714.length : Int) then ((impl_HasSquare.f k t708).bind fun t717 => ((spec_HasSquare.f k t708).bind fun t718 => (if (t717 != t718) = true then (laws_FnPowers.j0 k l0 t708 t711 t714 true) else ((impl_HasOverlap.f k t708).bind fun t719 => ((spec_HasOverlap.f k t708).bind fun t720 => (if (t719 != t720) = true then (laws_FnPowers.j0 k l0 t708 t711 t714 true) else ((impl_DistinctSquares.f k t708).bind fun t721 => ((spec_DistinctSquares.f k t708).bind fun t722 => (laws_FnPowers.j0 k l0 t708 t711 t714 (t721 != t722)))))))))) else (laws_FnPowers.j0 k l0 t708 t711 t714 true)) = some r := H
  have A6 := Aside0.mk A60
  clear A60
  have HC7 := Aside0.mk H
  clear H
  go_upto_region 6 with (first | ((with_reducible refine gate_callee (f := 43) rfl ?_); refine goesL_ (some 28) rfl rfl Try.func43 (by kernel_rfl) rfl #[.slice Ao9 t708.length co9] rfl (by (try simp only [List.map_toArray, List.map_cons, List.map_nil]); first | done | rfl | (simp only [List.length_drop, List.length_take]; rfl)) ?_; (with_reducible refine (impl_SquaresOf.calls k _ _ t708 t711 _ ?side1 ?side2 A5.out).mono ?_); (case side1 => repeat (first | exact (Kd.R_reads' HO710.out).2.2 | (with_reducible refine Kd.C_alloc ?_ _) | (with_reducible refine Kd.C_drewN ?_ _) | (with_reducible refine Kd.C_drew ?_))); (case side2 => exact (Kd.R_reads' HO710.out).2.1); rintro e w10 ⟨v712, rfl, ho0, hb⟩; refine ⟨_, rfl, ?_⟩; have n0_ := Aside0.mk (Kd.R_below (by (with_reducible repeat (first | apply Kd.R_alloc | apply Kd.R_drewN | apply Kd.R_drew)); exact HO710.out) hb); have n1_ := Aside0.mk (Kd.R_lower ho0 (below_size G.bel)); have n2_ := Aside0.mk (below_step G.bel hb); clear HO710; clear HB; have HO710 := n0_; have HO713 := n1_; have HB := n2_; clear n0_ n1_ n2_; (try clear hb); (try clear hb2); (try clear hk); (try clear hi); (try clear ho0)) | ((with_reducible refine gate_callee (f := 44) rfl ?_); refine goesL_ (some 30) rfl rfl Try.func44 (by kernel_rfl) rfl #[.slice Ao9 t708.length co9] rfl (by (try simp only [List.map_toArray, List.map_cons, List.map_nil]); first | done | rfl | (simp only [List.length_drop, List.length_take]; rfl)) ?_; (with_reducible refine (spec_SquaresOf.calls k _ _ t708 t714 _ ?side1 ?side2 A6.out).mono ?_); (case side1 => repeat (first | exact (Kd.R_reads' HO710.out).2.2 | (with_reducible refine Kd.C_alloc ?_ _) | (with_reducible refine Kd.C_drewN ?_ _) | (with_reducible refine Kd.C_drew ?_))); (case side2 => exact (Kd.R_reads' HO710.out).2.1); rintro e w11 ⟨v715, rfl, ho0, hb⟩; refine ⟨_, rfl, ?_⟩; have n0_ := Aside0.mk (Kd.R_below (by (with_reducible repeat (first | apply Kd.R_alloc | apply Kd.R_drewN | apply Kd.R_drew)); exact HO710.out) hb); have n1_ := Aside0.mk (Kd.R_elder' (by (with_reducible repeat (first | apply Kd.R_alloc | apply Kd.R_drewN | apply Kd.R_drew)); exact HO713.out) (Kd.R_base ho0) hb); have n2_ := Aside0.mk (Kd.R_lower (Kd.R_new' ho0 (Kd.R_lt (by (with_reducible repeat (first | apply Kd.R_alloc | apply Kd.R_drewN | apply Kd.R_drew)); exact HO713.out))) (below_size G.bel)); have n3_ := Aside0.mk (below_step G.bel hb); clear HO710; clear HO713; clear HB; have HO710 := n0_; have HO713 := n1_; have HO716 := n2_; have HB := n3_; clear n0_ n1_ n2_ n3_; (try clear hb); (try clear hb2); (try clear hk); (try clear hi); (try clear ho0)))
  (try simp only [Act.put, List.setIfInBounds_toArray, List.set_cons_zero, List.set_cons_succ])
  go_cut [56] (fun v56 wc => ∃ (kq : Nat) (x56_6 : Bool), v56 = .bool x56_6 ∧ Aside0 (laws_FnPowers.j0 kq l0 t708 t711 t714 x56_6 = some r) ∧ Aside0 (kq ≤ k) ∧ Aside0 (Kd.R (Kd.int .i64) 3 wc w.heap.size (fun _ => True) (.slice Ao9 t708.length co9) t708) ∧ Aside0 (Kd.R k55 55 wc w.heap.size (fun k_ => some k_ ≠ (v715 : Value).ownBlock) v712 t711) ∧ Aside0 (Kd.R k55 55 wc w.heap.size (fun k_ => some k_ ≠ (v712 : Value).ownBlock) v715 t714) ∧ Aside0 (Below w.heap.size w wc))
  case first => as_aux_lemma =>
   have H := HC7.out
   clear HC7
   by_cases c12 : (t711.length : Int) = (t714.length : Int)
   ·rw [if_pos c12] at H
    have c12b0 : ((t711.length : Int) == (t714.length : Int)) = true := beq_iff_eq.mpr c12
    have c12b1 : ((t711.length : Int) != (t714.length : Int)) = false := bne_eq_false_iff_eq.mpr c12
    have c12b2 : (t711.length == t714.length) = true := by first | simpa using c12 | (simp at c12 ⊢; omega)
    clear c12
    (first | rw [c12b0] | (simp only [i64_w, i32_w]; rw [c12b0]) | skip)
    replace H := Option.bind_eq_some_iff.mp H
    obtain ⟨t717, A130, H⟩ := H
    replace H : ((spec_HasSquare.f k t708).bind fun t718 => (if (t717 != t718) = true then (laws_FnPowers.j0 k l0 t708 t711 t714 true) else ((impl_HasOverlap.f k t708).bind fun t719 => ((spec_HasOverlap.f k t708).bind fun t720 => (if (t719 != t720) = true then (laws_FnPowers.j0 k l0 t708 t711 t714 true) else ((impl_DistinctSquares.f k t708).bind fun t721 => ((spec_DistinctSquares.f k t708).bind fun t722 => (laws_FnPowers.j0 k l0 t708 t711 t714 (t721 != t722))))))))) = some r := H
    have A13 := Aside0.mk A130
    clear A130
    replace H := Option.bind_eq_some_iff.mp H
    obtain ⟨t718, A140, H⟩ := H
    replace H : (if (t717 != t718) = true then (laws_FnPowers.j0 k l0 t708 t711 t714 true) else ((impl_HasOverlap.f k t708).bind fun t719 => ((spec_HasOverlap.f k t708).bind fun t720 => (if (t719 != t720) = true then (laws_FnPowers.j0 k l0 t708 t711 t714 true) else ((impl_DistinctSquares.f k t708).bind fun t721 => ((spec_DistinctSquares.f k t708).bind fun t722 => (laws_FnPowers.j0 k l0 t708 t711 t714 (t721 != t722)))))))) = some r := H
    have A14 := Aside0.mk A140
    clear A140
    by_cases c15 : (t717 != t718) = true
    ·rw [if_pos c15] at H
     exact absurd (H.trans (congrArg some HTrue_.out)) (laws_FnPowers.j0_no _ _ _ _ _)
    ·rw [if_neg c15] at H
     have c15b0 : (t717 != t718) = false := by simpa using c15
     (try (have c15b1 : decide (t717 = t718) = true := by simpa using c15))
     (try (have c15b2 : (t717 == t718) = true := by simpa using c15))
     clear c15
     replace H := Option.bind_eq_some_iff.mp H
     obtain ⟨t719, A200, H⟩ := H
     replace H : ((spec_HasOverlap.f k t708).bind fun t720 => (if (t719 != t720) = true then (laws_FnPowers.j0 k l0 t708 t711 t714 true) else ((impl_DistinctSquares.f k t708).bind fun t721 => ((spec_DistinctSquares.f k t708).bind fun t722 => (laws_FnPowers.j0 k l0 t708 t711 t714 (t721 != t722)))))) = some r := H
     have A20 := Aside0.mk A200
     clear A200
     replace H := Option.bind_eq_some_iff.mp H
     obtain ⟨t720, A210, H⟩ := H
     replace H : (if (t719 != t720) = true then (laws_FnPowers.j0 k l0 t708 t711 t714 true) else ((impl_DistinctSquares.f k t708).bind fun t721 => ((spec_DistinctSquares.f k t708).bind fun t722 => (laws_FnPowers.j0 k l0 t708 t711 t714 (t721 != t722))))) = some r := H
     have A21 := Aside0.mk A210
     clear A210
     by_cases c22 : (t719 != t720) = true
     ·rw [if_pos c22] at H
      exact absurd (H.trans (congrArg some HTrue_.out)) (laws_FnPowers.j0_no _ _ _ _ _)
     ·rw [if_neg c22] at H
      have c22b0 : (t719 != t720) = false := by simpa using c22
      (try (have c22b1 : decide (t719 = t720) = true := by simpa using c22))
      (try (have c22b2 : (t719 == t720) = true := by simpa using c22))
      clear c22
      replace H := Option.bind_eq_some_iff.mp H
      obtain ⟨t721, A290, H⟩ := H
      replace H : ((spec_DistinctSquares.f k t708).bind fun t722 => (laws_FnPowers.j0 k l0 t708 t711 t714 (t721 != t722))) = some r := H
      have A29 := Aside0.mk A290
      clear A290
      replace H := Option.bind_eq_some_iff.mp H
      obtain ⟨t722, A300, H⟩ := H
      replace H : (laws_FnPowers.j0 k l0 t708 t711 t714 (t721 != t722)) = some r := H
      have A30 := Aside0.mk A300
      clear A300
      have H' := Aside0.mk H
      clear H
      obtain ⟨Ao31, co31, eo31⟩ := Kd.R_slice HO713.out
      subst eo31
      obtain ⟨Ao32, co32, eo32⟩ := Kd.R_slice HO716.out
      subst eo32
      go_wp2_with (first | (go_at_call 45; (with_reducible refine (impl_HasSquare.calls k _ _ t708 t717 _ ?side1 ?side2 A13.out).mono ?_); (case side1 => repeat (first | exact (Kd.R_reads' HO710.out).2.2 | (with_reducible refine Kd.C_alloc ?_ _) | (with_reducible refine Kd.C_drewN ?_ _) | (with_reducible refine Kd.C_drew ?_))); (case side2 => exact (Kd.R_reads' HO710.out).2.1); rintro e w33 ⟨rfl, hb⟩; have n0_ := Aside0.mk (Kd.R_below (by (with_reducible repeat (first | apply Kd.R_alloc | apply Kd.R_drewN | apply Kd.R_drew)); exact HO710.out) hb); have n1_ := Aside0.mk (Kd.R_below (by (with_reducible repeat (first | apply Kd.R_alloc | apply Kd.R_drewN | apply Kd.R_drew)); exact HO713.out) hb); have n2_ := Aside0.mk (Kd.R_below (by (with_reducible repeat (first | apply Kd.R_alloc | apply Kd.R_drewN | apply Kd.R_drew)); exact HO716.out) hb); have n3_ := Aside0.mk (below_step G.bel hb); clear HO710; clear HO713; clear HO716; clear HB; have HO710 := n0_; have HO713 := n1_; have HO716 := n2_; have HB := n3_; clear n0_ n1_ n2_ n3_; (try clear hb); (try clear hb2); (try clear hk); (try clear hi)) | (go_at_call 46; (with_reducible refine (spec_HasSquare.calls k _ _ t708 t718 _ ?side1 ?side2 A14.out).mono ?_); (case side1 => repeat (first | exact (Kd.R_reads' HO710.out).2.2 | (with_reducible refine Kd.C_alloc ?_ _) | (with_reducible refine Kd.C_drewN ?_ _) | (with_reducible refine Kd.C_drew ?_))); (case side2 => exact (Kd.R_reads' HO710.out).2.1); rintro e w34 ⟨rfl, hb⟩; have n0_ := Aside0.mk (Kd.R_below (by (with_reducible repeat (first | apply Kd.R_alloc | apply Kd.R_drewN | apply Kd.R_drew)); exact HO710.out) hb); have n1_ := Aside0.mk (Kd.R_below (by (with_reducible repeat (first | apply Kd.R_alloc | apply Kd.R_drewN | apply Kd.R_drew)); exact HO713.out) hb); have n2_ := Aside0.mk (Kd.R_below (by (with_reducible repeat (first | apply Kd.R_alloc | apply Kd.R_drewN | apply Kd.R_drew)); exact HO716.out) hb); have n3_ := Aside0.mk (below_step G.bel hb); clear HO710; clear HO713; clear HO716; clear HB; have HO710 := n0_; have HO713 := n1_; have HO716 := n2_; have HB := n3_; clear n0_ n1_ n2_ n3_; (try clear hb); (try clear hb2); (try clear hk); (try clear hi)) | (go_at_call 47; (with_reducible refine (impl_HasOverlap.calls k _ _ t708 t719 _ ?side1 ?side2 A20.out).mono ?_); (case side1 => repeat (first | exact (Kd.R_reads' HO710.out).2.2 | (with_reducible refine Kd.C_alloc ?_ _) | (with_reducible refine Kd.C_drewN ?_ _) | (with_reducible refine Kd.C_drew ?_))); (case side2 => exact (Kd.R_reads' HO710.out).2.1); rintro e w35 ⟨rfl, hb⟩; have n0_ := Aside0.mk (Kd.R_below (by (with_reducible repeat (first | apply Kd.R_alloc | apply Kd.R_drewN | apply Kd.R_drew)); exact HO710.out) hb); have n1_ := Aside0.mk (Kd.R_below (by (with_reducible repeat (first | apply Kd.R_alloc | apply Kd.R_drewN | apply Kd.R_drew)); exact HO713.out) hb); have n2_ := Aside0.mk (Kd.R_below (by (with_reducible repeat (first | apply Kd.R_alloc | apply Kd.R_drewN | apply Kd.R_drew)); exact HO716.out) hb); have n3_ := Aside0.mk (below_step G.bel hb); clear HO710; clear HO713; clear HO716; clear HB; have HO710 := n0_; have HO713 := n1_; have HO716 := n2_; have HB := n3_; clear n0_ n1_ n2_ n3_; (try clear hb); (try clear hb2); (try clear hk); (try clear hi)) | (go_at_call 48; (with_reducible refine (spec_HasOverlap.calls k _ _ t708 t720 _ ?side1 ?side2 A21.out).mono ?_); (case side1 => repeat (first | exact (Kd.R_reads' HO710.out).2.2 | (with_reducible refine Kd.C_alloc ?_ _) | (with_reducible refine Kd.C_drewN ?_ _) | (with_reducible refine Kd.C_drew ?_))); (case side2 => exact (Kd.R_reads' HO710.out).2.1); rintro e w36 ⟨rfl, hb⟩; have n0_ := Aside0.mk (Kd.R_below (by (with_reducible repeat (first | apply Kd.R_alloc | apply Kd.R_drewN | apply Kd.R_drew)); exact HO710.out) hb); have n1_ := Aside0.mk (Kd.R_below (by (with_reducible repeat (first | apply Kd.R_alloc | apply Kd.R_drewN | apply Kd.R_drew)); exact HO713.out) hb); have n2_ := Aside0.mk (Kd.R_below (by (with_reducible repeat (first | apply Kd.R_alloc | apply Kd.R_drewN | apply Kd.R_drew)); exact HO716.out) hb); have n3_ := Aside0.mk (below_step G.bel hb); clear HO710; clear HO713; clear HO716; clear HB; have HO710 := n0_; have HO713 := n1_; have HO716 := n2_; have HB := n3_; clear n0_ n1_ n2_ n3_; (try clear hb); (try clear hb2); (try clear hk); (try clear hi)) | (go_at_call 49; (with_reducible refine (impl_DistinctSquares.calls k _ _ t708 t721 _ ?side1 ?side2 A29.out).mono ?_); (case side1 => repeat (first | exact (Kd.R_reads' HO710.out).2.2 | (with_reducible refine Kd.C_alloc ?_ _) | (with_reducible refine Kd.C_drewN ?_ _) | (with_reducible refine Kd.C_drew ?_))); (case side2 => exact (Kd.R_reads' HO710.out).2.1); rintro e w37 ⟨rfl, hb⟩; have n0_ := Aside0.mk (Kd.R_below (by (with_reducible repeat (first | apply Kd.R_alloc | apply Kd.R_drewN | apply Kd.R_drew)); exact HO710.out) hb); have n1_ := Aside0.mk (Kd.R_below (by (with_reducible repeat (first | apply Kd.R_alloc | apply Kd.R_drewN | apply Kd.R_drew)); exact HO713.out) hb); have n2_ := Aside0.mk (Kd.R_below (by (with_reducible repeat (first | apply Kd.R_alloc | apply Kd.R_drewN | apply Kd.R_drew)); exact HO716.out) hb); have n3_ := Aside0.mk (below_step G.bel hb); clear HO710; clear HO713; clear HO716; clear HB; have HO710 := n0_; have HO713 := n1_; have HO716 := n2_; have HB := n3_; clear n0_ n1_ n2_ n3_; (try clear hb); (try clear hb2); (try clear hk); (try clear hi)) | (go_at_call 50; (with_reducible refine (spec_DistinctSquares.calls k _ _ t708 t722 _ ?side1 ?side2 A30.out).mono ?_); (case side1 => repeat (first | exact (Kd.R_reads' HO710.out).2.2 | (with_reducible refine Kd.C_alloc ?_ _) | (with_reducible refine Kd.C_drewN ?_ _) | (with_reducible refine Kd.C_drew ?_))); (case side2 => exact (Kd.R_reads' HO710.out).2.1); rintro e w38 ⟨rfl, hb⟩; have n0_ := Aside0.mk (Kd.R_below (by (with_reducible repeat (first | apply Kd.R_alloc | apply Kd.R_drewN | apply Kd.R_drew)); exact HO710.out) hb); have n1_ := Aside0.mk (Kd.R_below (by (with_reducible repeat (first | apply Kd.R_alloc | apply Kd.R_drewN | apply Kd.R_drew)); exact HO713.out) hb); have n2_ := Aside0.mk (Kd.R_below (by (with_reducible repeat (first | apply Kd.R_alloc | apply Kd.R_drewN | apply Kd.R_drew)); exact HO716.out) hb); have n3_ := Aside0.mk (below_step G.bel hb); clear HO710; clear HO713; clear HO716; clear HB; have HO710 := n0_; have HO713 := n1_; have HO716 := n2_; have HB := n3_; clear n0_ n1_ n2_ n3_; (try clear hb); (try clear hb2); (try clear hk); (try clear hi)))
      go_meet
      case rel => exact ⟨_, ((t721 != t722)), (by first | rfl | (simp; done) | (simp [*]; done)), H', ⟨by first | omega | exact Nat.le_refl _⟩, ⟨by (with_reducible repeat (first | apply Kd.R_alloc | apply Kd.R_drewN | apply Kd.R_drew)); exact HO710.out⟩, ⟨by (with_reducible repeat (first | apply Kd.R_alloc | apply Kd.R_drewN | apply Kd.R_drew)); exact Kd.R_mono HO713.out (fun _ hk => hk.2)⟩, ⟨by (with_reducible repeat (first | apply Kd.R_alloc | apply Kd.R_drewN | apply Kd.R_drew)); exact Kd.R_mono HO716.out (fun _ hk => hk.2)⟩, ⟨G.bel⟩⟩
   ·rw [if_neg c12] at H
    exact absurd (H.trans (congrArg some HTrue_.out)) (laws_FnPowers.j0_no _ _ _ _ _)
  case rest => as_aux_lemma =>
   clear HC7
   try clear c1; try clear c2; try clear p2; try clear c3; try clear c4; try clear c11; try clear c12; try clear c12b0; try clear c12b1; try clear c12b2; try clear c15; try clear c15b0; try clear c15b1; try clear c15b2; try clear c22; try clear c22b0; try clear c22b1; try clear c22b2
   obtain ⟨kq, x56_6, rfl, HA, HJ6, HO_3, HO_4, HO_5, HB⟩ := hcut
   cases kq with
   | zero => exact absurd HA.out (by simp [laws_FnPowers.j0])
   | succ kj6 =>
    have H := HA.out
    clear HA
    simp only [laws_FnPowers.j0] at H
    by_cases c41 : x56_6 = true
    ·subst c41
     have H1 : (some false) = some r := by rw [if_pos rfl] at H; exact H
     clear H
     have H := H1
     clear H1
     exact absurd ((Option.some.inj H).trans HTrue_.out) (by decide)
    ·replace c41 := Bool.eq_false_iff.mpr c41
     subst c41
     have H1 : (laws_FnPowers.l0 kj6 l0 t708 t711 t714 0) = some r := by rw [if_neg (show ¬ (false = true) by decide)] at H; exact H
     clear H
     have H := H1
     clear H1
     have H' := Aside0.mk H
     clear H
     go_wp2
     go_loopg [6] kj6 (fun kq v6 w' => ∃ (x6_2 : Int), v6 = .int .i64 x6_2 ∧ Aside0 (laws_FnPowers.l0 kq l0 t708 t711 t714 x6_2 = some r) ∧ Aside0 (kq ≤ kj6) ∧ Aside0 (Kd.R (Kd.int .i64) 3 w' w.heap.size (fun _ => True) (.slice Ao9 t708.length co9) t708) ∧ Aside0 (Kd.R k55 55 w' w.heap.size (fun k_ => some k_ ≠ (v715 : Value).ownBlock) v712 t711) ∧ Aside0 (Kd.R k55 55 w' w.heap.size (fun k_ => some k_ ≠ (v712 : Value).ownBlock) v715 t714) ∧ Aside0 (Below w.heap.size w w'))
     case atStart => exact ⟨(0), (by first | rfl | (simp; done) | (simp [*]; done)), H', ⟨Nat.le_refl _⟩, ⟨by (with_reducible repeat (first | apply Kd.R_alloc | apply Kd.R_drewN | apply Kd.R_drew)); exact HO_3.out⟩, ⟨by (with_reducible repeat (first | apply Kd.R_alloc | apply Kd.R_drewN | apply Kd.R_drew)); exact HO_4.out⟩, ⟨by (with_reducible repeat (first | apply Kd.R_alloc | apply Kd.R_drewN | apply Kd.R_drew)); exact HO_5.out⟩, ⟨G.bel⟩⟩
     case round => as_aux_lemma =>
      clear H'
      try clear c1; try clear c2; try clear p2; try clear c3; try clear c4; try clear c11; try clear c12; try clear c12b0; try clear c12b1; try clear c12b2; try clear c15; try clear c15b0; try clear c15b1; try clear c15b2; try clear c22; try clear c22b0; try clear c22b1; try clear c22b2; try clear c41; try clear p2
      obtain ⟨x6_2, rfl, HA, HK2, HO_3, HO_4, HO_5, HB⟩ := hrel
      cases gk with
      | zero => exact absurd HA.out (by simp [laws_FnPowers.l0])
      | succ k2 =>
       have H := HA.out
       clear HA
       simp only [laws_FnPowers.l0] at H
       by_cases c42 : x6_2 < (t711.length : Int)
       ·rw [if_pos c42] at H
        have c42b0 : decide (x6_2 < (t711.length : Int)) = true := decide_eq_true c42
        clear c42
        by_cases c43 : 0 ≤ x6_2
        ·rw [if_pos c43] at H
         have c43b0 : decide (0 ≤ x6_2) = true := decide_eq_true c43
         clear c43
         by_cases c44 : x6_2 < (t714.length : Int)
         ·rw [if_pos c44] at H
          have c44b0 : decide (x6_2 < (t714.length : Int)) = true := decide_eq_true c44
          clear c44
          by_cases c45 : (!(((rd_T55 t711 x6_2).f0) == ((rd_T55 t714 x6_2).f0)) || (!(((rd_T55 t711 x6_2).f1) == ((rd_T55 t714 x6_2).f1)) || (!(((rd_T55 t711 x6_2).f2) == ((rd_T55 t714 x6_2).f2))))) = true
          ·rw [if_pos c45] at H
           have c45b0 : (!(((rd_T55 t711 x6_2).f0) == ((rd_T55 t714 x6_2).f0)) || (!(((rd_T55 t711 x6_2).f1) == ((rd_T55 t714 x6_2).f1)) || (!(((rd_T55 t711 x6_2).f2) == ((rd_T55 t714 x6_2).f2))))) = true := c45
           clear c45
           obtain rfl := Option.some.inj H
           obtain ⟨Ao46, co46, eo46⟩ := Kd.R_slice HO_4.out
           subst eo46
           obtain ⟨Ao47, co47, eo47⟩ := Kd.R_slice HO_5.out
           subst eo47
           have p723 : 0 ≤ (x6_2 : Int) := G.odt
           have q723 : x6_2 < (t714.length : Int) := G.odt
           obtain ⟨ad723, e723, hx723_0, hx723_1, hx723_2⟩ := at_T55 (Kd.R_reads' HO_5.out).2.2 x6_2 p723 q723
           cases e723
           replace p723 := eq_true p723
           replace q723 := eq_true q723
           try go_wp2_with (first | ((with_reducible refine gate_dst (N := 7) rfl ?_); (try (refine gate_guard (by rfl) ?_; dsimp only)); refine box_event ?hg (N := 7) ?hd (cs := #[.int .i64 0, .int .i64 0, .int .i64 0]) (t := 55) ?hr ?_; (case hd => rfl); (case hg => rfl); (case hr => first | (go_simp; done) | (go_simp; rfl)); intro gb724 hg w48 hbox hb; have n0_ := Aside0.mk (Kd.R_below (by (with_reducible repeat (first | apply Kd.R_alloc | apply Kd.R_drewN | apply Kd.R_drew)); exact HO_3.out) hb); have n1_ := Aside0.mk (Kd.R_below (Kd.R_elderB (by (with_reducible repeat (first | apply Kd.R_alloc | apply Kd.R_drewN | apply Kd.R_drew)); exact HO_4.out) gb724 (Nat.le_of_eq hg.symm)) hb); have n2_ := Aside0.mk (Kd.R_below (Kd.R_elderB (by (with_reducible repeat (first | apply Kd.R_alloc | apply Kd.R_drewN | apply Kd.R_drew)); exact HO_5.out) gb724 (Nat.le_of_eq hg.symm)) hb); have n3_ := Aside0.mk (below_step G.bel hb); have n4_ := Aside0.mk (hbox); have n5_ := Aside0.mk ((by rw [hg]; exact (below_size G.bel) : w.heap.size ≤ gb724)); have n6_ := Aside0.mk ((by rw [hg]; exact (below_size G.bel) : w.heap.size ≤ gb724)); clear HO_3; clear HO_4; clear HO_5; clear HB; have HO_3 := n0_; have HO_4 := n1_; have HO_5 := n2_; have HB := n3_; have BK724 := n4_; have GW724 := n5_; have GE724 := n6_; clear n0_ n1_ n2_ n3_ n4_ n5_ n6_; clear hb hbox hg; have hcz49_0 : w48.cell? ⟨gb724, 0, none⟩ = some (.int .i64 0) := (blk_cell BK724.out 0).trans rfl; have hcz49_1 : w48.cell? ⟨gb724, 1, none⟩ = some (.int .i64 0) := (blk_cell BK724.out 1).trans rfl; have hcz49_2 : w48.cell? ⟨gb724, 2, none⟩ = some (.int .i64 0) := (blk_cell BK724.out 2).trans rfl; have hfz49_0 := blk_frozen BK724.out 0; have hfz49_1 := blk_frozen BK724.out 1; have hfz49_2 := blk_frozen BK724.out 2))
           have n0_ : Aside0 (Kd.R (Kd.int .i64) 3 (((w48.setCell ⟨gb724, 0, none⟩ (.int .i64 ((rd_T55 t714 x6_2).f0))).setCell ⟨gb724, 1, none⟩ (.int .i64 ((rd_T55 t714 x6_2).f1))).setCell ⟨gb724, 2, none⟩ (.int .i64 ((rd_T55 t714 x6_2).f2))) w.heap.size (fun _ => True) (.slice Ao9 t708.length co9) t708) := ⟨by (with_reducible repeat (first | apply Kd.R_alloc | apply Kd.R_drewN | apply Kd.R_drew)); exact Kd.R_mono (Kd.R_far (p := ⟨gb724, 2, none⟩) (Kd.R_far (p := ⟨gb724, 1, none⟩) (Kd.R_far (p := ⟨gb724, 0, none⟩) (Kd.R_types HO_3.out BK724.out (by decide)) (fun _ hk => hk.2) (.int .i64 ((rd_T55 t714 x6_2).f0))) (fun _ hk => hk.2) (.int .i64 ((rd_T55 t714 x6_2).f1))) (fun _ hk => hk.2) (.int .i64 ((rd_T55 t714 x6_2).f2))) (fun _ hk => trivial)⟩
           have n1_ : Aside0 (Kd.R k55 55 (((w48.setCell ⟨gb724, 0, none⟩ (.int .i64 ((rd_T55 t714 x6_2).f0))).setCell ⟨gb724, 1, none⟩ (.int .i64 ((rd_T55 t714 x6_2).f1))).setCell ⟨gb724, 2, none⟩ (.int .i64 ((rd_T55 t714 x6_2).f2))) w.heap.size (fun k_ => some k_ ≠ (.slice (some ad723) t714.length co47 : Value).ownBlock ∧ k_ ≠ gb724) (.slice Ao46 t711.length co46) t711) := ⟨by (with_reducible repeat (first | apply Kd.R_alloc | apply Kd.R_drewN | apply Kd.R_drew)); exact Kd.R_mono (Kd.R_far (p := ⟨gb724, 2, none⟩) (Kd.R_far (p := ⟨gb724, 1, none⟩) (Kd.R_far (p := ⟨gb724, 0, none⟩) (Kd.R_mono HO_4.out (fun k_ hk => (⟨hk, hk.2⟩ : _ ∧ k_ ≠ gb724))) (fun _ hk => hk.2) (.int .i64 ((rd_T55 t714 x6_2).f0))) (fun _ hk => hk.2) (.int .i64 ((rd_T55 t714 x6_2).f1))) (fun _ hk => hk.2) (.int .i64 ((rd_T55 t714 x6_2).f2))) (fun _ hk => ⟨hk.1.1, hk.1.2⟩)⟩
           have n2_ : Aside0 (Kd.R k55 55 (((w48.setCell ⟨gb724, 0, none⟩ (.int .i64 ((rd_T55 t714 x6_2).f0))).setCell ⟨gb724, 1, none⟩ (.int .i64 ((rd_T55 t714 x6_2).f1))).setCell ⟨gb724, 2, none⟩ (.int .i64 ((rd_T55 t714 x6_2).f2))) w.heap.size (fun k_ => some k_ ≠ (.slice Ao46 t711.length co46 : Value).ownBlock ∧ k_ ≠ gb724) (.slice (some ad723) t714.length co47) t714) := ⟨by (with_reducible repeat (first | apply Kd.R_alloc | apply Kd.R_drewN | apply Kd.R_drew)); exact Kd.R_mono (Kd.R_far (p := ⟨gb724, 2, none⟩) (Kd.R_far (p := ⟨gb724, 1, none⟩) (Kd.R_far (p := ⟨gb724, 0, none⟩) (Kd.R_mono HO_5.out (fun k_ hk => (⟨hk, hk.2⟩ : _ ∧ k_ ≠ gb724))) (fun _ hk => hk.2) (.int .i64 ((rd_T55 t714 x6_2).f0))) (fun _ hk => hk.2) (.int .i64 ((rd_T55 t714 x6_2).f1))) (fun _ hk => hk.2) (.int .i64 ((rd_T55 t714 x6_2).f2))) (fun _ hk => ⟨hk.1.1, hk.1.2⟩)⟩
           have n3_ : Aside0 ((((w48.setCell ⟨gb724, 0, none⟩ (.int .i64 ((rd_T55 t714 x6_2).f0))).setCell ⟨gb724, 1, none⟩ (.int .i64 ((rd_T55 t714 x6_2).f1))).setCell ⟨gb724, 2, none⟩ (.int .i64 ((rd_T55 t714 x6_2).f2))).heap[gb724]? = some (.cells #[.int .i64 ((rd_T55 t714 x6_2).f0), .int .i64 ((rd_T55 t714 x6_2).f1), .int .i64 ((rd_T55 t714 x6_2).f2)] 55 (0, 0))) := ⟨by (with_reducible repeat (first | refine blk_drewN ?_ _ | refine blk_drew ?_ | refine blk_alloc ?_ _)); refine blk_put (cs := #[.int .i64 ((rd_T55 t714 x6_2).f0), .int .i64 ((rd_T55 t714 x6_2).f1), .int .i64 0]) ?_ 2 _ rfl; (with_reducible repeat (first | refine blk_drewN ?_ _ | refine blk_drew ?_ | refine blk_alloc ?_ _)); refine blk_put (cs := #[.int .i64 ((rd_T55 t714 x6_2).f0), .int .i64 0, .int .i64 0]) ?_ 1 _ rfl; (with_reducible repeat (first | refine blk_drewN ?_ _ | refine blk_drew ?_ | refine blk_alloc ?_ _)); refine blk_put (cs := #[.int .i64 0, .int .i64 0, .int .i64 0]) ?_ 0 _ rfl; (with_reducible repeat (first | refine blk_drewN ?_ _ | refine blk_drew ?_ | refine blk_alloc ?_ _)); exact BK724.out⟩
           have n4_ : Aside0 (Below w.heap.size w (((w48.setCell ⟨gb724, 0, none⟩ (.int .i64 ((rd_T55 t714 x6_2).f0))).setCell ⟨gb724, 1, none⟩ (.int .i64 ((rd_T55 t714 x6_2).f1))).setCell ⟨gb724, 2, none⟩ (.int .i64 ((rd_T55 t714 x6_2).f2)))) := ⟨by repeat (first | (with_reducible first | exact HB.out | apply below_alloc | apply pw_below_drewN | apply below_drew1 | refine below_set ?_ GE724.out) | exact HB.out)⟩
           (try clear HO_3)
           (try clear HO_4)
           (try clear HO_5)
           (try clear BK724)
           (try clear HB)
           generalize (((w48.setCell ⟨gb724, 0, none⟩ (.int .i64 ((rd_T55 t714 x6_2).f0))).setCell ⟨gb724, 1, none⟩ (.int .i64 ((rd_T55 t714 x6_2).f1))).setCell ⟨gb724, 2, none⟩ (.int .i64 ((rd_T55 t714 x6_2).f2))) = w50 at n0_ n1_ n2_ n3_ n4_ ⊢
           have HO_3 := n0_
           have HO_4 := n1_
           have HO_5 := n2_
           have BK724 := n3_
           have HB := n4_
           clear n0_ n1_ n2_ n3_ n4_
           have n0_ := Aside0.mk (Kd.R_drew HO_3.out)
           have n1_ := Aside0.mk (Kd.R_drew HO_4.out)
           have n2_ := Aside0.mk (Kd.R_drew HO_5.out)
           have n3_ := Aside0.mk (blk_drew BK724.out)
           have n4_ := Aside0.mk (below_drew1 HB.out)
           clear HO_3
           clear HO_4
           clear HO_5
           clear BK724
           clear HB
           have HO_3 := n0_
           have HO_4 := n1_
           have HO_5 := n2_
           have BK724 := n3_
           have HB := n4_
           clear n0_ n1_ n2_ n3_ n4_
           have p725 : 0 ≤ (x6_2 : Int) := G.odt
           have q725 : x6_2 < (t711.length : Int) := G.odt
           obtain ⟨ad725, e725, hx725_0, hx725_1, hx725_2⟩ := at_T55 (Kd.R_reads' HO_4.out).2.2 x6_2 p725 q725
           cases e725
           replace p725 := eq_true p725
           replace q725 := eq_true q725
           refine start_ (n := 31) (S := fun w' => w'.cell? ⟨gb724, 0, none⟩ = some (.int .i64 ((rd_T55 t714 x6_2).f0)) ∧ w'.cell? ⟨gb724, 1, none⟩ = some (.int .i64 ((rd_T55 t714 x6_2).f1)) ∧ w'.cell? ⟨gb724, 2, none⟩ = some (.int .i64 ((rd_T55 t714 x6_2).f2)) ∧ w'.cell? (ad725.add ((x6_2).toNat * 3)) = some (.int .i64 ((rd_T55 t711 x6_2).f0)) ∧ w'.cell? ⟨(ad725.add ((x6_2).toNat * 3)).block, (ad725.add ((x6_2).toNat * 3)).off + 1, none⟩ = some (.int .i64 ((rd_T55 t711 x6_2).f1)) ∧ w'.cell? ⟨(ad725.add ((x6_2).toNat * 3)).block, (ad725.add ((x6_2).toNat * 3)).off + 2, none⟩ = some (.int .i64 ((rd_T55 t711 x6_2).f2))) (ds := []) #[false, false, false, false, false, false, false, false, false, false, false, false, false, false, false, false, false, false, false, false, false, false, false, false, false, false, false, false, false, false, false] (by kernel_rfl) rfl rfl ⟨(blk_cell BK724.out 0).trans rfl, (blk_cell BK724.out 1).trans rfl, (blk_cell BK724.out 2).trans rfl, hx725_0, hx725_1, hx725_2⟩ (fun hHeld => ?_); refine with_tabW laws_FnPowers.tab12 laws_FnPowers.bits12 (fun HT_ HW_ => ?_)
           generalize w50.drew = w51 at HO_3 HO_4 HO_5 BK724 HB hx725_0 hx725_1 hx725_2 hHeld ⊢
           refine pure_ (i := 0) (N := some 67) (v := ?_) (a' := ?_) #[true, false, false, false, false, false, false, false, false, false, false, false, false, false, false, false, false, false, false, false, false, false, false, false, false, false, false, false, false, false, false] rfl rfl (any_of HT_.out (by kernel_rfl)) (fun _ _ _ h => h) (Or.inl ⟨by rfl, ?_⟩) ?_ ?_
           rotate_left; (·intro w'; go_simp; with_reducible rfl); rotate_left; (·simp only [Act.put, List.setIfInBounds_toArray, List.set_cons_zero, List.set_cons_succ, i64_w, i32_w]; rfl)
           refine pure_ (i := 1) (N := some 68) (v := ?_) (a' := ?_) #[true, true, false, false, false, false, false, false, false, false, false, false, false, false, false, false, false, false, false, false, false, false, false, false, false, false, false, false, false, false, false] rfl rfl (any_of HT_.out (by kernel_rfl)) (fun _ _ _ h => h) (Or.inl ⟨by rfl, ?_⟩) ?_ ?_
           rotate_left; (·intro w'; go_simp; with_reducible rfl); rotate_left; (·simp only [Act.put, List.setIfInBounds_toArray, List.set_cons_zero, List.set_cons_succ, i64_w, i32_w]; rfl)
           refine pure_ (i := 2) (N := some 69) (v := ?_) (a' := ?_) #[true, true, true, false, false, false, false, false, false, false, false, false, false, false, false, false, false, false, false, false, false, false, false, false, false, false, false, false, false, false, false] rfl rfl (any_of HT_.out (by kernel_rfl)) (fun _ _ _ h => h) (Or.inl ⟨by rfl, ?_⟩) ?_ ?_
           rotate_left; (·intro w'; go_simp; with_reducible rfl); rotate_left; (·simp only [Act.put, List.setIfInBounds_toArray, List.set_cons_zero, List.set_cons_succ, i64_w, i32_w]; rfl)
           refine take_ (i := 3) (N := some 70) (v := ?_) (a' := ?_) #[true, true, true, true, false, false, false, false, false, false, false, false, false, false, false, false, false, false, false, false, false, false, false, false, false, false, false, false, false, false, false] rfl rfl (take_ofW HT_.out HW_.out (by kernel_rfl)) (fun _ _ _ h => h) (Or.inl ⟨by rfl, ?_⟩) hHeld ?_ ?_
           rotate_left; (·rintro w' ⟨s0, s1, s2, s3, s4, s5⟩; go_simp; with_reducible rfl); rotate_left; (·simp only [Act.put, List.setIfInBounds_toArray, List.set_cons_zero, List.set_cons_succ, i64_w, i32_w]; rfl)
           refine take_ (i := 4) (N := some 71) (v := ?_) (a' := ?_) #[true, true, true, true, true, false, false, false, false, false, false, false, false, false, false, false, false, false, false, false, false, false, false, false, false, false, false, false, false, false, false] rfl rfl (take_ofW HT_.out HW_.out (by kernel_rfl)) (fun _ _ _ h => h) (Or.inl ⟨by rfl, ?_⟩) hHeld ?_ ?_
           rotate_left; (·rintro w' ⟨s0, s1, s2, s3, s4, s5⟩; go_simp; with_reducible rfl); rotate_left; (·simp only [Act.put, List.setIfInBounds_toArray, List.set_cons_zero, List.set_cons_succ, i64_w, i32_w]; rfl)
           refine pure_ (i := 5) (N := some 72) (v := ?_) (a' := ?_) #[true, true, true, true, true, true, false, false, false, false, false, false, false, false, false, false, false, false, false, false, false, false, false, false, false, false, false, false, false, false, false] rfl rfl (any_of HT_.out (by kernel_rfl)) (fun _ _ _ h => h) (Or.inl ⟨by rfl, ?_⟩) ?_ ?_
           rotate_left; (·intro w'; go_simp; with_reducible rfl); rotate_left; (·simp only [Act.put, List.setIfInBounds_toArray, List.set_cons_zero, List.set_cons_succ, i64_w, i32_w]; rfl)
           refine pure_ (i := 6) (N := some 73) (v := ?_) (a' := ?_) #[true, true, true, true, true, true, true, false, false, false, false, false, false, false, false, false, false, false, false, false, false, false, false, false, false, false, false, false, false, false, false] rfl rfl (any_of HT_.out (by kernel_rfl)) (fun _ _ _ h => h) (Or.inl ⟨by rfl, ?_⟩) ?_ ?_
           rotate_left; (·intro w'; go_simp; with_reducible rfl); rotate_left; (·simp only [Act.put, List.setIfInBounds_toArray, List.set_cons_zero, List.set_cons_succ, i64_w, i32_w]; rfl)
           refine pure_ (i := 7) (N := some 74) (v := undef) (a' := ?_) #[true, true, true, true, true, true, true, true, false, false, false, false, false, false, false, false, false, false, false, false, false, false, false, false, false, false, false, false, false, false, false] rfl rfl (any_of HT_.out (by kernel_rfl)) (fun _ _ _ h => h) (Or.inr ⟨by rfl, rfl⟩) ?_ ?_
           rotate_left
           ·simp only [Act.put, List.setIfInBounds_toArray, List.set_cons_zero, List.set_cons_succ, i64_w, i32_w]
            rfl
           refine pure_ (i := 8) (N := some 75) (v := undef) (a' := ?_) #[true, true, true, true, true, true, true, true, true, false, false, false, false, false, false, false, false, false, false, false, false, false, false, false, false, false, false, false, false, false, false] rfl rfl (any_of HT_.out (by kernel_rfl)) (fun _ _ _ h => h) (Or.inr ⟨by rfl, rfl⟩) ?_ ?_
           rotate_left
           ·simp only [Act.put, List.setIfInBounds_toArray, List.set_cons_zero, List.set_cons_succ, i64_w, i32_w]
            rfl
           refine pure_ (i := 9) (N := some 76) (v := undef) (a' := ?_) #[true, true, true, true, true, true, true, true, true, true, false, false, false, false, false, false, false, false, false, false, false, false, false, false, false, false, false, false, false, false, false] rfl rfl (any_of HT_.out (by kernel_rfl)) (fun _ _ _ h => h) (Or.inr ⟨by rfl, rfl⟩) ?_ ?_
           rotate_left
           ·simp only [Act.put, List.setIfInBounds_toArray, List.set_cons_zero, List.set_cons_succ, i64_w, i32_w]
            rfl
           refine pure_ (i := 10) (N := some 77) (v := undef) (a' := ?_) #[true, true, true, true, true, true, true, true, true, true, true, false, false, false, false, false, false, false, false, false, false, false, false, false, false, false, false, false, false, false, false] rfl rfl (any_of HT_.out (by kernel_rfl)) (fun _ _ _ h => h) (Or.inr ⟨by rfl, rfl⟩) ?_ ?_
           rotate_left
           ·simp only [Act.put, List.setIfInBounds_toArray, List.set_cons_zero, List.set_cons_succ, i64_w, i32_w]
            rfl
           refine pure_ (i := 11) (N := some 78) (v := undef) (a' := ?_) #[true, true, true, true, true, true, true, true, true, true, true, true, false, false, false, false, false, false, false, false, false, false, false, false, false, false, false, false, false, false, false] rfl rfl (any_of HT_.out (by kernel_rfl)) (fun _ _ _ h => h) (Or.inr ⟨by rfl, rfl⟩) ?_ ?_
           rotate_left
           ·simp only [Act.put, List.setIfInBounds_toArray, List.set_cons_zero, List.set_cons_succ, i64_w, i32_w]
            rfl
           refine pure_ (i := 12) (N := some 79) (v := undef) (a' := ?_) #[true, true, true, true, true, true, true, true, true, true, true, true, true, false, false, false, false, false, false, false, false, false, false, false, false, false, false, false, false, false, false] rfl rfl (any_of HT_.out (by kernel_rfl)) (fun _ _ _ h => h) (Or.inr ⟨by rfl, rfl⟩) ?_ ?_
           rotate_left
           ·simp only [Act.put, List.setIfInBounds_toArray, List.set_cons_zero, List.set_cons_succ, i64_w, i32_w]
            rfl
           refine pure_ (i := 13) (N := some 80) (v := undef) (a' := ?_) #[true, true, true, true, true, true, true, true, true, true, true, true, true, true, false, false, false, false, false, false, false, false, false, false, false, false, false, false, false, false, false] rfl rfl (any_of HT_.out (by kernel_rfl)) (fun _ _ _ h => h) (Or.inr ⟨by rfl, rfl⟩) ?_ ?_
           rotate_left
           ·simp only [Act.put, List.setIfInBounds_toArray, List.set_cons_zero, List.set_cons_succ, i64_w, i32_w]
            rfl
           refine pure_ (i := 14) (N := some 81) (v := undef) (a' := ?_) #[true, true, true, true, true, true, true, true, true, true, true, true, true, true, true, false, false, false, false, false, false, false, false, false, false, false, false, false, false, false, false] rfl rfl (any_of HT_.out (by kernel_rfl)) (fun _ _ _ h => h) (Or.inr ⟨by rfl, rfl⟩) ?_ ?_
           rotate_left
           ·simp only [Act.put, List.setIfInBounds_toArray, List.set_cons_zero, List.set_cons_succ, i64_w, i32_w]
            rfl
           refine pure_ (i := 15) (N := some 82) (v := undef) (a' := ?_) #[true, true, true, true, true, true, true, true, true, true, true, true, true, true, true, true, false, false, false, false, false, false, false, false, false, false, false, false, false, false, false] rfl rfl (any_of HT_.out (by kernel_rfl)) (fun _ _ _ h => h) (Or.inr ⟨by rfl, rfl⟩) ?_ ?_
           rotate_left
           ·simp only [Act.put, List.setIfInBounds_toArray, List.set_cons_zero, List.set_cons_succ, i64_w, i32_w]
            rfl
           refine pure_ (i := 16) (N := some 83) (v := undef) (a' := ?_) #[true, true, true, true, true, true, true, true, true, true, true, true, true, true, true, true, true, false, false, false, false, false, false, false, false, false, false, false, false, false, false] rfl rfl (any_of HT_.out (by kernel_rfl)) (fun _ _ _ h => h) (Or.inr ⟨by rfl, rfl⟩) ?_ ?_
           rotate_left
           ·simp only [Act.put, List.setIfInBounds_toArray, List.set_cons_zero, List.set_cons_succ, i64_w, i32_w]
            rfl
           refine pure_ (i := 17) (N := some 84) (v := undef) (a' := ?_) #[true, true, true, true, true, true, true, true, true, true, true, true, true, true, true, true, true, true, false, false, false, false, false, false, false, false, false, false, false, false, false] rfl rfl (any_of HT_.out (by kernel_rfl)) (fun _ _ _ h => h) (Or.inr ⟨by rfl, rfl⟩) ?_ ?_
           rotate_left
           ·simp only [Act.put, List.setIfInBounds_toArray, List.set_cons_zero, List.set_cons_succ, i64_w, i32_w]
            rfl
           refine pure_ (i := 18) (N := some 85) (v := undef) (a' := ?_) #[true, true, true, true, true, true, true, true, true, true, true, true, true, true, true, true, true, true, true, false, false, false, false, false, false, false, false, false, false, false, false] rfl rfl (any_of HT_.out (by kernel_rfl)) (fun _ _ _ h => h) (Or.inr ⟨by rfl, rfl⟩) ?_ ?_
           rotate_left
           ·simp only [Act.put, List.setIfInBounds_toArray, List.set_cons_zero, List.set_cons_succ, i64_w, i32_w]
            rfl
           refine pure_ (i := 19) (N := some 86) (v := undef) (a' := ?_) #[true, true, true, true, true, true, true, true, true, true, true, true, true, true, true, true, true, true, true, true, false, false, false, false, false, false, false, false, false, false, false] rfl rfl (any_of HT_.out (by kernel_rfl)) (fun _ _ _ h => h) (Or.inr ⟨by rfl, rfl⟩) ?_ ?_
           rotate_left
           ·simp only [Act.put, List.setIfInBounds_toArray, List.set_cons_zero, List.set_cons_succ, i64_w, i32_w]
            rfl
           refine pure_ (i := 20) (N := some 87) (v := undef) (a' := ?_) #[true, true, true, true, true, true, true, true, true, true, true, true, true, true, true, true, true, true, true, true, true, false, false, false, false, false, false, false, false, false, false] rfl rfl (any_of HT_.out (by kernel_rfl)) (fun _ _ _ h => h) (Or.inr ⟨by rfl, rfl⟩) ?_ ?_
           rotate_left
           ·simp only [Act.put, List.setIfInBounds_toArray, List.set_cons_zero, List.set_cons_succ, i64_w, i32_w]
            rfl
           refine pure_ (i := 21) (N := some 88) (v := undef) (a' := ?_) #[true, true, true, true, true, true, true, true, true, true, true, true, true, true, true, true, true, true, true, true, true, true, false, false, false, false, false, false, false, false, false] rfl rfl (any_of HT_.out (by kernel_rfl)) (fun _ _ _ h => h) (Or.inr ⟨by rfl, rfl⟩) ?_ ?_
           rotate_left
           ·simp only [Act.put, List.setIfInBounds_toArray, List.set_cons_zero, List.set_cons_succ, i64_w, i32_w]
            rfl
           refine pure_ (i := 22) (N := some 89) (v := undef) (a' := ?_) #[true, true, true, true, true, true, true, true, true, true, true, true, true, true, true, true, true, true, true, true, true, true, true, false, false, false, false, false, false, false, false] rfl rfl (any_of HT_.out (by kernel_rfl)) (fun _ _ _ h => h) (Or.inr ⟨by rfl, rfl⟩) ?_ ?_
           rotate_left
           ·simp only [Act.put, List.setIfInBounds_toArray, List.set_cons_zero, List.set_cons_succ, i64_w, i32_w]
            rfl
           refine pure_ (i := 23) (N := some 90) (v := undef) (a' := ?_) #[true, true, true, true, true, true, true, true, true, true, true, true, true, true, true, true, true, true, true, true, true, true, true, true, false, false, false, false, false, false, false] rfl rfl (any_of HT_.out (by kernel_rfl)) (fun _ _ _ h => h) (Or.inr ⟨by rfl, rfl⟩) ?_ ?_
           rotate_left
           ·simp only [Act.put, List.setIfInBounds_toArray, List.set_cons_zero, List.set_cons_succ, i64_w, i32_w]
            rfl
           refine pure_ (i := 24) (N := some 91) (v := undef) (a' := ?_) #[true, true, true, true, true, true, true, true, true, true, true, true, true, true, true, true, true, true, true, true, true, true, true, true, true, false, false, false, false, false, false] rfl rfl (any_of HT_.out (by kernel_rfl)) (fun _ _ _ h => h) (Or.inr ⟨by rfl, rfl⟩) ?_ ?_
           rotate_left
           ·simp only [Act.put, List.setIfInBounds_toArray, List.set_cons_zero, List.set_cons_succ, i64_w, i32_w]
            rfl
           refine pure_ (i := 25) (N := some 92) (v := undef) (a' := ?_) #[true, true, true, true, true, true, true, true, true, true, true, true, true, true, true, true, true, true, true, true, true, true, true, true, true, true, false, false, false, false, false] rfl rfl (any_of HT_.out (by kernel_rfl)) (fun _ _ _ h => h) (Or.inr ⟨by rfl, rfl⟩) ?_ ?_
           rotate_left
           ·simp only [Act.put, List.setIfInBounds_toArray, List.set_cons_zero, List.set_cons_succ, i64_w, i32_w]
            rfl
           refine pure_ (i := 26) (N := some 93) (v := undef) (a' := ?_) #[true, true, true, true, true, true, true, true, true, true, true, true, true, true, true, true, true, true, true, true, true, true, true, true, true, true, true, false, false, false, false] rfl rfl (any_of HT_.out (by kernel_rfl)) (fun _ _ _ h => h) (Or.inr ⟨by rfl, rfl⟩) ?_ ?_
           rotate_left
           ·simp only [Act.put, List.setIfInBounds_toArray, List.set_cons_zero, List.set_cons_succ, i64_w, i32_w]
            rfl
           refine pure_ (i := 27) (N := some 94) (v := undef) (a' := ?_) #[true, true, true, true, true, true, true, true, true, true, true, true, true, true, true, true, true, true, true, true, true, true, true, true, true, true, true, true, false, false, false] rfl rfl (any_of HT_.out (by kernel_rfl)) (fun _ _ _ h => h) (Or.inr ⟨by rfl, rfl⟩) ?_ ?_
           rotate_left
           ·simp only [Act.put, List.setIfInBounds_toArray, List.set_cons_zero, List.set_cons_succ, i64_w, i32_w]
            rfl
           refine pure_ (i := 28) (N := some 95) (v := undef) (a' := ?_) #[true, true, true, true, true, true, true, true, true, true, true, true, true, true, true, true, true, true, true, true, true, true, true, true, true, true, true, true, true, false, false] rfl rfl (any_of HT_.out (by kernel_rfl)) (fun _ _ _ h => h) (Or.inr ⟨by rfl, rfl⟩) ?_ ?_
           rotate_left
           ·simp only [Act.put, List.setIfInBounds_toArray, List.set_cons_zero, List.set_cons_succ, i64_w, i32_w]
            rfl
           refine pure_ (i := 29) (N := some 96) (v := undef) (a' := ?_) #[true, true, true, true, true, true, true, true, true, true, true, true, true, true, true, true, true, true, true, true, true, true, true, true, true, true, true, true, true, true, false] rfl rfl (any_of HT_.out (by kernel_rfl)) (fun _ _ _ h => h) (Or.inr ⟨by rfl, rfl⟩) ?_ ?_
           rotate_left
           ·simp only [Act.put, List.setIfInBounds_toArray, List.set_cons_zero, List.set_cons_succ, i64_w, i32_w]
            rfl
           refine pure_ (i := 30) (N := some 97) (v := ?_) (a' := ?_) #[true, true, true, true, true, true, true, true, true, true, true, true, true, true, true, true, true, true, true, true, true, true, true, true, true, true, true, true, true, true, true] rfl rfl (any_of HT_.out (by kernel_rfl)) (fun _ _ _ h => h) (Or.inl ⟨by rfl, ?_⟩) ?_ ?_
           rotate_left; (·intro w'; go_simp; with_reducible rfl); rotate_left; (·simp only [Act.put, List.setIfInBounds_toArray, List.set_cons_zero, List.set_cons_succ, i64_w, i32_w]; rfl)
           refine done_ (done_of HT_.out (by kernel_rfl)) ?_
           try go_wp2
           go_ret
           exact ⟨by first | rfl | (simp [errW_none, errW_some] <;> rfl) | (simp [*, errW_none, errW_some] <;> rfl), by repeat (first | (with_reducible first | exact HB.out | apply below_alloc | apply pw_below_drewN | apply below_drew1 | refine below_set ?_ GE724.out) | exact HB.out)⟩
          ·rw [if_neg c45] at H
           have c45b0 : (!(((rd_T55 t711 x6_2).f0) == ((rd_T55 t714 x6_2).f0)) || (!(((rd_T55 t711 x6_2).f1) == ((rd_T55 t714 x6_2).f1)) || (!(((rd_T55 t711 x6_2).f2) == ((rd_T55 t714 x6_2).f2))))) = false := by simpa using c45
           clear c45
           by_cases c52 : 0 ≤ ((rd_T55 t714 x6_2).f0)
           ·rw [if_pos c52] at H
            have c52b0 := eq_true c52
            have c52b1 : decide (0 ≤ ((rd_T55 t714 x6_2).f0)) = true := decide_eq_true c52
            clear c52
            by_cases c53 : ((rd_T55 t714 x6_2).f0) ≤ (wrap64 (((rd_T55 t714 x6_2).f0) + ((rd_T55 t714 x6_2).f1)))
            ·rw [if_pos c53] at H
             have c53b0 := eq_true c53
             have c53b1 : decide (((rd_T55 t714 x6_2).f0) ≤ (wrap64 (((rd_T55 t714 x6_2).f0) + ((rd_T55 t714 x6_2).f1)))) = true := decide_eq_true c53
             by_cases c54 : (wrap64 (((rd_T55 t714 x6_2).f0) + ((rd_T55 t714 x6_2).f1))) ≤ (t708.length : Int)
             ·rw [if_pos c54] at H
              have c54b0 := eq_true c54
              have c54b1 : decide ((wrap64 (((rd_T55 t714 x6_2).f0) + ((rd_T55 t714 x6_2).f1))) ≤ (t708.length : Int)) = true := decide_eq_true c54
              obtain ⟨y726, hy726⟩ : ∃ y_ : List Int, y_ = ((t708.take ((wrap64 (((rd_T55 t714 x6_2).f0) + ((rd_T55 t714 x6_2).f1))) : Int).toNat).drop (((rd_T55 t714 x6_2).f0) : Int).toNat) := ⟨_, rfl⟩
              replace H : (if 0 ≤ (wrap64 (((rd_T55 t714 x6_2).f0) + ((rd_T55 t714 x6_2).f1))) then (if (wrap64 (((rd_T55 t714 x6_2).f0) + ((rd_T55 t714 x6_2).f1))) ≤ (wrap64 (((rd_T55 t714 x6_2).f0) + ((rd_T55 t714 x6_2).f2))) then (if (wrap64 (((rd_T55 t714 x6_2).f0) + ((rd_T55 t714 x6_2).f2))) ≤ (t708.length : Int) then ((laws_sameInts.f k2 y726 ((t708.take ((wrap64 (((rd_T55 t714 x6_2).f0) + ((rd_T55 t714 x6_2).f2))) : Int).toNat).drop ((wrap64 (((rd_T55 t714 x6_2).f0) + ((rd_T55 t714 x6_2).f1))) : Int).toNat)).bind fun t734 => (if t734 = true then (laws_FnPowers.l0 k2 l0 t708 t711 t714 (wrap64 (x6_2 + 1))) else (some false))) else (none)) else (none)) else (none)) = some r := by first | (rw [hy726]; with_reducible exact H) | (have H2_ := (Option.bind_some _ _).symm.trans H; rw [hy726]; with_reducible exact H2_) | (have H2_ := (Option.bind_some _ _).symm.trans H; with_reducible exact H2_) | with_reducible exact H | (rw [hy726]; exact H) | exact H
              have Ny726 := Aside0.mk hy726
              clear hy726
              obtain ⟨ji55, hji55⟩ : ∃ j_ : Int, (wrap64 (((rd_T55 t714 x6_2).f0) + ((rd_T55 t714 x6_2).f1))) = j_ := ⟨_, rfl⟩
              replace H : (if 0 ≤ (ji55) then (if (ji55) ≤ (wrap64 (((rd_T55 t714 x6_2).f0) + ((rd_T55 t714 x6_2).f2))) then (if (wrap64 (((rd_T55 t714 x6_2).f0) + ((rd_T55 t714 x6_2).f2))) ≤ (t708.length : Int) then ((laws_sameInts.f k2 y726 ((t708.take ((wrap64 (((rd_T55 t714 x6_2).f0) + ((rd_T55 t714 x6_2).f2))) : Int).toNat).drop ((ji55) : Int).toNat)).bind fun t734 => (if t734 = true then (laws_FnPowers.l0 k2 l0 t708 t711 t714 (wrap64 (x6_2 + 1))) else (some false))) else (none)) else (none)) else (none)) = some r := by first | (rw [hji55] at H; exact H) | (simp only [hji55] at H ⊢; exact H)
              (try rw [hji55] at c53b0)
              (try rw [hji55] at c53b1)
              (try rw [hji55] at c53)
              (try rw [hji55] at c54b0)
              (try rw [hji55] at c54b1)
              (try rw [hji55] at c54)
              (try rw [hji55] at Ny726)
              have hji55w : (IntKind.i64.wrap (((rd_T55 t714 x6_2).f0) + ((rd_T55 t714 x6_2).f1))) = ji55 := (i64_w _).trans hji55
              by_cases c56 : 0 ≤ (ji55)
              ·rw [if_pos c56] at H
               have c56b0 := eq_true c56
               have c56b1 : decide (0 ≤ (ji55)) = true := decide_eq_true c56
               clear c56
               by_cases c57 : (ji55) ≤ (wrap64 (((rd_T55 t714 x6_2).f0) + ((rd_T55 t714 x6_2).f2)))
               ·rw [if_pos c57] at H
                have c57b0 := eq_true c57
                have c57b1 : decide ((ji55) ≤ (wrap64 (((rd_T55 t714 x6_2).f0) + ((rd_T55 t714 x6_2).f2)))) = true := decide_eq_true c57
                by_cases c58 : (wrap64 (((rd_T55 t714 x6_2).f0) + ((rd_T55 t714 x6_2).f2))) ≤ (t708.length : Int)
                ·rw [if_pos c58] at H
                 have c58b0 := eq_true c58
                 have c58b1 : decide ((wrap64 (((rd_T55 t714 x6_2).f0) + ((rd_T55 t714 x6_2).f2))) ≤ (t708.length : Int)) = true := decide_eq_true c58
                 obtain ⟨y730, hy730⟩ : ∃ y_ : List Int, y_ = ((t708.take ((wrap64 (((rd_T55 t714 x6_2).f0) + ((rd_T55 t714 x6_2).f2))) : Int).toNat).drop ((ji55) : Int).toNat) := ⟨_, rfl⟩
                 replace H : ((laws_sameInts.f k2 y726 y730).bind fun t734 => (if t734 = true then (laws_FnPowers.l0 k2 l0 t708 t711 t714 (wrap64 (x6_2 + 1))) else (some false))) = some r := by first | (rw [hy730]; with_reducible exact H) | (have H2_ := (Option.bind_some _ _).symm.trans H; rw [hy730]; with_reducible exact H2_) | (have H2_ := (Option.bind_some _ _).symm.trans H; with_reducible exact H2_) | with_reducible exact H | (rw [hy730]; exact H) | exact H
                 have Ny730 := Aside0.mk hy730
                 clear hy730
                 replace H := Option.bind_eq_some_iff.mp H
                 obtain ⟨t734, A590, H⟩ := H
                 replace H : (if t734 = true then (laws_FnPowers.l0 k2 l0 t708 t711 t714 (wrap64 (x6_2 + 1))) else (some false)) = some r := H
                 have A59 := Aside0.mk A590
                 clear A590
                 by_cases c60 : t734 = true
                 ·subst c60
                  have H1 : (laws_FnPowers.l0 k2 l0 t708 t711 t714 (wrap64 (x6_2 + 1))) = some r := by rw [if_pos rfl] at H; exact H
                  clear H
                  have H := H1
                  clear H1
                  have H' := Aside0.mk H
                  clear H
                  obtain ⟨Ao61, co61, eo61⟩ := Kd.R_slice HO_4.out
                  subst eo61
                  obtain ⟨Ao62, co62, eo62⟩ := Kd.R_slice HO_5.out
                  subst eo62
                  have p723 : 0 ≤ (x6_2 : Int) := G.odt
                  have q723 : x6_2 < (t714.length : Int) := G.odt
                  obtain ⟨ad723, e723, hx723_0, hx723_1, hx723_2⟩ := at_T55 (Kd.R_reads' HO_5.out).2.2 x6_2 p723 q723
                  cases e723
                  replace p723 := eq_true p723
                  replace q723 := eq_true q723
                  try go_wp2_with (first | ((with_reducible refine gate_dst (N := 7) rfl ?_); (try (refine gate_guard (by rfl) ?_; dsimp only)); refine box_event ?hg (N := 7) ?hd (cs := #[.int .i64 0, .int .i64 0, .int .i64 0]) (t := 55) ?hr ?_; (case hd => rfl); (case hg => rfl); (case hr => first | (go_simp; done) | (go_simp; rfl)); intro gb724 hg w63 hbox hb; have n0_ := Aside0.mk (Kd.R_below (by (with_reducible repeat (first | apply Kd.R_alloc | apply Kd.R_drewN | apply Kd.R_drew)); exact HO_3.out) hb); have n1_ := Aside0.mk (Kd.R_below (Kd.R_elderB (by (with_reducible repeat (first | apply Kd.R_alloc | apply Kd.R_drewN | apply Kd.R_drew)); exact HO_4.out) gb724 (Nat.le_of_eq hg.symm)) hb); have n2_ := Aside0.mk (Kd.R_below (Kd.R_elderB (by (with_reducible repeat (first | apply Kd.R_alloc | apply Kd.R_drewN | apply Kd.R_drew)); exact HO_5.out) gb724 (Nat.le_of_eq hg.symm)) hb); have n3_ := Aside0.mk (below_step G.bel hb); have n4_ := Aside0.mk (hbox); have n5_ := Aside0.mk ((by rw [hg]; exact (below_size G.bel) : w.heap.size ≤ gb724)); have n6_ := Aside0.mk ((by rw [hg]; exact (below_size G.bel) : w.heap.size ≤ gb724)); clear HO_3; clear HO_4; clear HO_5; clear HB; have HO_3 := n0_; have HO_4 := n1_; have HO_5 := n2_; have HB := n3_; have BK724 := n4_; have GW724 := n5_; have GE724 := n6_; clear n0_ n1_ n2_ n3_ n4_ n5_ n6_; clear hb hbox hg; have hcz64_0 : w63.cell? ⟨gb724, 0, none⟩ = some (.int .i64 0) := (blk_cell BK724.out 0).trans rfl; have hcz64_1 : w63.cell? ⟨gb724, 1, none⟩ = some (.int .i64 0) := (blk_cell BK724.out 1).trans rfl; have hcz64_2 : w63.cell? ⟨gb724, 2, none⟩ = some (.int .i64 0) := (blk_cell BK724.out 2).trans rfl; have hfz64_0 := blk_frozen BK724.out 0; have hfz64_1 := blk_frozen BK724.out 1; have hfz64_2 := blk_frozen BK724.out 2))
                  have n0_ : Aside0 (Kd.R (Kd.int .i64) 3 (((w63.setCell ⟨gb724, 0, none⟩ (.int .i64 ((rd_T55 t714 x6_2).f0))).setCell ⟨gb724, 1, none⟩ (.int .i64 ((rd_T55 t714 x6_2).f1))).setCell ⟨gb724, 2, none⟩ (.int .i64 ((rd_T55 t714 x6_2).f2))) w.heap.size (fun _ => True) (.slice Ao9 t708.length co9) t708) := ⟨by (with_reducible repeat (first | apply Kd.R_alloc | apply Kd.R_drewN | apply Kd.R_drew)); exact Kd.R_mono (Kd.R_far (p := ⟨gb724, 2, none⟩) (Kd.R_far (p := ⟨gb724, 1, none⟩) (Kd.R_far (p := ⟨gb724, 0, none⟩) (Kd.R_types HO_3.out BK724.out (by decide)) (fun _ hk => hk.2) (.int .i64 ((rd_T55 t714 x6_2).f0))) (fun _ hk => hk.2) (.int .i64 ((rd_T55 t714 x6_2).f1))) (fun _ hk => hk.2) (.int .i64 ((rd_T55 t714 x6_2).f2))) (fun _ hk => trivial)⟩
                  have n1_ : Aside0 (Kd.R k55 55 (((w63.setCell ⟨gb724, 0, none⟩ (.int .i64 ((rd_T55 t714 x6_2).f0))).setCell ⟨gb724, 1, none⟩ (.int .i64 ((rd_T55 t714 x6_2).f1))).setCell ⟨gb724, 2, none⟩ (.int .i64 ((rd_T55 t714 x6_2).f2))) w.heap.size (fun k_ => some k_ ≠ (.slice (some ad723) t714.length co62 : Value).ownBlock ∧ k_ ≠ gb724) (.slice Ao61 t711.length co61) t711) := ⟨by (with_reducible repeat (first | apply Kd.R_alloc | apply Kd.R_drewN | apply Kd.R_drew)); exact Kd.R_mono (Kd.R_far (p := ⟨gb724, 2, none⟩) (Kd.R_far (p := ⟨gb724, 1, none⟩) (Kd.R_far (p := ⟨gb724, 0, none⟩) (Kd.R_mono HO_4.out (fun k_ hk => (⟨hk, hk.2⟩ : _ ∧ k_ ≠ gb724))) (fun _ hk => hk.2) (.int .i64 ((rd_T55 t714 x6_2).f0))) (fun _ hk => hk.2) (.int .i64 ((rd_T55 t714 x6_2).f1))) (fun _ hk => hk.2) (.int .i64 ((rd_T55 t714 x6_2).f2))) (fun _ hk => ⟨hk.1.1, hk.1.2⟩)⟩
                  have n2_ : Aside0 (Kd.R k55 55 (((w63.setCell ⟨gb724, 0, none⟩ (.int .i64 ((rd_T55 t714 x6_2).f0))).setCell ⟨gb724, 1, none⟩ (.int .i64 ((rd_T55 t714 x6_2).f1))).setCell ⟨gb724, 2, none⟩ (.int .i64 ((rd_T55 t714 x6_2).f2))) w.heap.size (fun k_ => some k_ ≠ (.slice Ao61 t711.length co61 : Value).ownBlock ∧ k_ ≠ gb724) (.slice (some ad723) t714.length co62) t714) := ⟨by (with_reducible repeat (first | apply Kd.R_alloc | apply Kd.R_drewN | apply Kd.R_drew)); exact Kd.R_mono (Kd.R_far (p := ⟨gb724, 2, none⟩) (Kd.R_far (p := ⟨gb724, 1, none⟩) (Kd.R_far (p := ⟨gb724, 0, none⟩) (Kd.R_mono HO_5.out (fun k_ hk => (⟨hk, hk.2⟩ : _ ∧ k_ ≠ gb724))) (fun _ hk => hk.2) (.int .i64 ((rd_T55 t714 x6_2).f0))) (fun _ hk => hk.2) (.int .i64 ((rd_T55 t714 x6_2).f1))) (fun _ hk => hk.2) (.int .i64 ((rd_T55 t714 x6_2).f2))) (fun _ hk => ⟨hk.1.1, hk.1.2⟩)⟩
                  have n3_ : Aside0 ((((w63.setCell ⟨gb724, 0, none⟩ (.int .i64 ((rd_T55 t714 x6_2).f0))).setCell ⟨gb724, 1, none⟩ (.int .i64 ((rd_T55 t714 x6_2).f1))).setCell ⟨gb724, 2, none⟩ (.int .i64 ((rd_T55 t714 x6_2).f2))).heap[gb724]? = some (.cells #[.int .i64 ((rd_T55 t714 x6_2).f0), .int .i64 ((rd_T55 t714 x6_2).f1), .int .i64 ((rd_T55 t714 x6_2).f2)] 55 (0, 0))) := ⟨by (with_reducible repeat (first | refine blk_drewN ?_ _ | refine blk_drew ?_ | refine blk_alloc ?_ _)); refine blk_put (cs := #[.int .i64 ((rd_T55 t714 x6_2).f0), .int .i64 ((rd_T55 t714 x6_2).f1), .int .i64 0]) ?_ 2 _ rfl; (with_reducible repeat (first | refine blk_drewN ?_ _ | refine blk_drew ?_ | refine blk_alloc ?_ _)); refine blk_put (cs := #[.int .i64 ((rd_T55 t714 x6_2).f0), .int .i64 0, .int .i64 0]) ?_ 1 _ rfl; (with_reducible repeat (first | refine blk_drewN ?_ _ | refine blk_drew ?_ | refine blk_alloc ?_ _)); refine blk_put (cs := #[.int .i64 0, .int .i64 0, .int .i64 0]) ?_ 0 _ rfl; (with_reducible repeat (first | refine blk_drewN ?_ _ | refine blk_drew ?_ | refine blk_alloc ?_ _)); exact BK724.out⟩
                  have n4_ : Aside0 (Below w.heap.size w (((w63.setCell ⟨gb724, 0, none⟩ (.int .i64 ((rd_T55 t714 x6_2).f0))).setCell ⟨gb724, 1, none⟩ (.int .i64 ((rd_T55 t714 x6_2).f1))).setCell ⟨gb724, 2, none⟩ (.int .i64 ((rd_T55 t714 x6_2).f2)))) := ⟨by repeat (first | (with_reducible first | exact HB.out | apply below_alloc | apply pw_below_drewN | apply below_drew1 | refine below_set ?_ GE724.out) | exact HB.out)⟩
                  (try clear HO_3)
                  (try clear HO_4)
                  (try clear HO_5)
                  (try clear BK724)
                  (try clear HB)
                  generalize (((w63.setCell ⟨gb724, 0, none⟩ (.int .i64 ((rd_T55 t714 x6_2).f0))).setCell ⟨gb724, 1, none⟩ (.int .i64 ((rd_T55 t714 x6_2).f1))).setCell ⟨gb724, 2, none⟩ (.int .i64 ((rd_T55 t714 x6_2).f2))) = w65 at n0_ n1_ n2_ n3_ n4_ ⊢
                  have HO_3 := n0_
                  have HO_4 := n1_
                  have HO_5 := n2_
                  have BK724 := n3_
                  have HB := n4_
                  clear n0_ n1_ n2_ n3_ n4_
                  have n0_ := Aside0.mk (Kd.R_drew HO_3.out)
                  have n1_ := Aside0.mk (Kd.R_drew HO_4.out)
                  have n2_ := Aside0.mk (Kd.R_drew HO_5.out)
                  have n3_ := Aside0.mk (blk_drew BK724.out)
                  have n4_ := Aside0.mk (below_drew1 HB.out)
                  clear HO_3
                  clear HO_4
                  clear HO_5
                  clear BK724
                  clear HB
                  have HO_3 := n0_
                  have HO_4 := n1_
                  have HO_5 := n2_
                  have BK724 := n3_
                  have HB := n4_
                  clear n0_ n1_ n2_ n3_ n4_
                  have p725 : 0 ≤ (x6_2 : Int) := G.odt
                  have q725 : x6_2 < (t711.length : Int) := G.odt
                  obtain ⟨ad725, e725, hx725_0, hx725_1, hx725_2⟩ := at_T55 (Kd.R_reads' HO_4.out).2.2 x6_2 p725 q725
                  cases e725
                  replace p725 := eq_true p725
                  replace q725 := eq_true q725
                  have q67 : ((ji55) : Int) ≤ ((t708.length : Int) : Int) := G.odt
                  obtain ⟨i067, hi067, _, hsz67, _⟩ := info_parts info3
                  have hroom67 : t708.length ≤ co9 := (Kd.R_reads' HO_3.out).2.1
                  have hC67 : Kd.C (Kd.int .i64) _ Ao9 t708.length t708 := (Kd.R_reads' HO_3.out).2.2
                  have ql67 : (((rd_T55 t714 x6_2).f0) : Int) ≤ ((ji55) : Int) := G.odt
                  have q067 : (0 : Int) ≤ (((rd_T55 t714 x6_2).f0) : Int) := G.odt
                  have hcut67 := cut_mid (P := Try.prog) 22 3 .i64 .i64 Try.underlying22 hi067 1 hsz67 Ao9 t708.length co9 ((rd_T55 t714 x6_2).f0) (ji55) q067 ql67 q67 hroom67
                  have hr67 := Kd.C_mid (lo := (((rd_T55 t714 x6_2).f0) : Int).toNat) (hi := ((ji55) : Int).toNat) (c := co9) hC67 (by omega) (by omega) hroom67
                  obtain ⟨A67, hA67⟩ : ∃ A1, A1 = (if co9 = (((rd_T55 t714 x6_2).f0) : Int).toNat then Ao9 else (Ao9 : Option Addr).map (·.add ((((rd_T55 t714 x6_2).f0) : Int).toNat * 1))) := ⟨_, rfl⟩
                  obtain ⟨c67, hc67⟩ : ∃ c1, c1 = co9 - (((rd_T55 t714 x6_2).f0) : Int).toNat := ⟨_, rfl⟩
                  have hy67 : y726.length = ((ji55) : Int).toNat - (((rd_T55 t714 x6_2).f0) : Int).toNat := (by rw [Ny726.out, List.length_drop, List.length_take] <;> omega)
                  rw [show ((t708).take ((ji55) : Int).toNat).drop (((rd_T55 t714 x6_2).f0) : Int).toNat = y726 from Ny726.out.symm] at hr67
                  replace hr67 : Kd.C (Kd.int .i64) _ A67 y726.length y726 := (by rw [hA67]; exact hr67)
                  rw [← hy67, ← hA67, ← hc67] at hcut67
                  have HR729 := Aside0.mk hr67
                  have HC729 := Aside0.mk (show y726.length ≤ c67 from by rw [hy67, hc67]; exact Nat.sub_le_sub_right (Nat.le_trans (by omega) hroom67) _)
                  clear hr67 hC67 hroom67 hi067 hsz67 hc67
                  have KY67 := Aside0.mk hy67
                  have KA67 := Aside0.mk hA67
                  clear hy67 hA67
                  have KL67 := Aside0.mk (show ((ji55) : Int).toNat ≤ t708.length from by omega)
                  have KM67 := Aside0.mk (show (((rd_T55 t714 x6_2).f0) : Int).toNat ≤ ((ji55) : Int).toNat from by omega)
                  replace q67 := eq_true q67
                  have q68 : ((wrap64 (((rd_T55 t714 x6_2).f0) + ((rd_T55 t714 x6_2).f2))) : Int) ≤ ((t708.length : Int) : Int) := G.odt
                  obtain ⟨i068, hi068, _, hsz68, _⟩ := info_parts info3
                  have hroom68 : t708.length ≤ co9 := (Kd.R_reads' HO_3.out).2.1
                  have hC68 : Kd.C (Kd.int .i64) _ Ao9 t708.length t708 := (Kd.R_reads' HO_3.out).2.2
                  have ql68 : ((ji55) : Int) ≤ ((wrap64 (((rd_T55 t714 x6_2).f0) + ((rd_T55 t714 x6_2).f2))) : Int) := G.odt
                  have q068 : (0 : Int) ≤ ((ji55) : Int) := G.odt
                  have hcut68 := cut_mid (P := Try.prog) 22 3 .i64 .i64 Try.underlying22 hi068 1 hsz68 Ao9 t708.length co9 (ji55) (wrap64 (((rd_T55 t714 x6_2).f0) + ((rd_T55 t714 x6_2).f2))) q068 ql68 q68 hroom68
                  have hr68 := Kd.C_mid (lo := ((ji55) : Int).toNat) (hi := ((wrap64 (((rd_T55 t714 x6_2).f0) + ((rd_T55 t714 x6_2).f2))) : Int).toNat) (c := co9) hC68 (by omega) (by omega) hroom68
                  obtain ⟨A68, hA68⟩ : ∃ A1, A1 = (if co9 = ((ji55) : Int).toNat then Ao9 else (Ao9 : Option Addr).map (·.add (((ji55) : Int).toNat * 1))) := ⟨_, rfl⟩
                  obtain ⟨c68, hc68⟩ : ∃ c1, c1 = co9 - ((ji55) : Int).toNat := ⟨_, rfl⟩
                  have hy68 : y730.length = ((wrap64 (((rd_T55 t714 x6_2).f0) + ((rd_T55 t714 x6_2).f2))) : Int).toNat - ((ji55) : Int).toNat := (by rw [Ny730.out, List.length_drop, List.length_take] <;> omega)
                  rw [show ((t708).take ((wrap64 (((rd_T55 t714 x6_2).f0) + ((rd_T55 t714 x6_2).f2))) : Int).toNat).drop ((ji55) : Int).toNat = y730 from Ny730.out.symm] at hr68
                  replace hr68 : Kd.C (Kd.int .i64) _ A68 y730.length y730 := (by rw [hA68]; exact hr68)
                  rw [← hy68, ← hA68, ← hc68] at hcut68
                  have HR733 := Aside0.mk hr68
                  have HC733 := Aside0.mk (show y730.length ≤ c68 from by rw [hy68, hc68]; exact Nat.sub_le_sub_right (Nat.le_trans (by omega) hroom68) _)
                  clear hr68 hC68 hroom68 hi068 hsz68 hc68
                  have KY68 := Aside0.mk hy68
                  have KA68 := Aside0.mk hA68
                  clear hy68 hA68
                  have KL68 := Aside0.mk (show ((wrap64 (((rd_T55 t714 x6_2).f0) + ((rd_T55 t714 x6_2).f2))) : Int).toNat ≤ t708.length from by omega)
                  have KM68 := Aside0.mk (show ((ji55) : Int).toNat ≤ ((wrap64 (((rd_T55 t714 x6_2).f0) + ((rd_T55 t714 x6_2).f2))) : Int).toNat from by omega)
                  replace q68 := eq_true q68
                  refine start_ (n := 31) (S := fun w' => w'.cell? ⟨gb724, 0, none⟩ = some (.int .i64 ((rd_T55 t714 x6_2).f0)) ∧ w'.cell? ⟨gb724, 1, none⟩ = some (.int .i64 ((rd_T55 t714 x6_2).f1)) ∧ w'.cell? ⟨gb724, 2, none⟩ = some (.int .i64 ((rd_T55 t714 x6_2).f2)) ∧ w'.cell? (ad725.add ((x6_2).toNat * 3)) = some (.int .i64 ((rd_T55 t711 x6_2).f0)) ∧ w'.cell? ⟨(ad725.add ((x6_2).toNat * 3)).block, (ad725.add ((x6_2).toNat * 3)).off + 1, none⟩ = some (.int .i64 ((rd_T55 t711 x6_2).f1)) ∧ w'.cell? ⟨(ad725.add ((x6_2).toNat * 3)).block, (ad725.add ((x6_2).toNat * 3)).off + 2, none⟩ = some (.int .i64 ((rd_T55 t711 x6_2).f2))) (ds := []) #[false, false, false, false, false, false, false, false, false, false, false, false, false, false, false, false, false, false, false, false, false, false, false, false, false, false, false, false, false, false, false] (by kernel_rfl) rfl rfl ⟨(blk_cell BK724.out 0).trans rfl, (blk_cell BK724.out 1).trans rfl, (blk_cell BK724.out 2).trans rfl, hx725_0, hx725_1, hx725_2⟩ (fun hHeld => ?_); refine with_tabW laws_FnPowers.tab12 laws_FnPowers.bits12 (fun HT_ HW_ => ?_)
                  generalize w65.drew = w66 at HO_3 HO_4 HO_5 BK724 HB HR729 HR733 hx725_0 hx725_1 hx725_2 hHeld ⊢
                  refine pure_ (i := 0) (N := some 67) (v := ?_) (a' := ?_) #[true, false, false, false, false, false, false, false, false, false, false, false, false, false, false, false, false, false, false, false, false, false, false, false, false, false, false, false, false, false, false] rfl rfl (any_of HT_.out (by kernel_rfl)) (fun _ _ _ h => h) (Or.inl ⟨by rfl, ?_⟩) ?_ ?_
                  rotate_left; (·intro w'; go_simp; with_reducible rfl); rotate_left; (·simp only [Act.put, List.setIfInBounds_toArray, List.set_cons_zero, List.set_cons_succ, i64_w, i32_w]; rfl)
                  refine pure_ (i := 1) (N := some 68) (v := ?_) (a' := ?_) #[true, true, false, false, false, false, false, false, false, false, false, false, false, false, false, false, false, false, false, false, false, false, false, false, false, false, false, false, false, false, false] rfl rfl (any_of HT_.out (by kernel_rfl)) (fun _ _ _ h => h) (Or.inl ⟨by rfl, ?_⟩) ?_ ?_
                  rotate_left; (·intro w'; go_simp; with_reducible rfl); rotate_left; (·simp only [Act.put, List.setIfInBounds_toArray, List.set_cons_zero, List.set_cons_succ, i64_w, i32_w]; rfl)
                  refine pure_ (i := 2) (N := some 69) (v := ?_) (a' := ?_) #[true, true, true, false, false, false, false, false, false, false, false, false, false, false, false, false, false, false, false, false, false, false, false, false, false, false, false, false, false, false, false] rfl rfl (any_of HT_.out (by kernel_rfl)) (fun _ _ _ h => h) (Or.inl ⟨by rfl, ?_⟩) ?_ ?_
                  rotate_left; (·intro w'; go_simp; with_reducible rfl); rotate_left; (·simp only [Act.put, List.setIfInBounds_toArray, List.set_cons_zero, List.set_cons_succ, i64_w, i32_w]; rfl)
                  refine take_ (i := 3) (N := some 70) (v := ?_) (a' := ?_) #[true, true, true, true, false, false, false, false, false, false, false, false, false, false, false, false, false, false, false, false, false, false, false, false, false, false, false, false, false, false, false] rfl rfl (take_ofW HT_.out HW_.out (by kernel_rfl)) (fun _ _ _ h => h) (Or.inl ⟨by rfl, ?_⟩) hHeld ?_ ?_
                  rotate_left; (·rintro w' ⟨s0, s1, s2, s3, s4, s5⟩; go_simp; with_reducible rfl); rotate_left; (·simp only [Act.put, List.setIfInBounds_toArray, List.set_cons_zero, List.set_cons_succ, i64_w, i32_w]; rfl)
                  refine take_ (i := 4) (N := some 71) (v := ?_) (a' := ?_) #[true, true, true, true, true, false, false, false, false, false, false, false, false, false, false, false, false, false, false, false, false, false, false, false, false, false, false, false, false, false, false] rfl rfl (take_ofW HT_.out HW_.out (by kernel_rfl)) (fun _ _ _ h => h) (Or.inl ⟨by rfl, ?_⟩) hHeld ?_ ?_
                  rotate_left; (·rintro w' ⟨s0, s1, s2, s3, s4, s5⟩; go_simp; with_reducible rfl); rotate_left; (·simp only [Act.put, List.setIfInBounds_toArray, List.set_cons_zero, List.set_cons_succ, i64_w, i32_w]; rfl)
                  refine pure_ (i := 5) (N := some 72) (v := ?_) (a' := ?_) #[true, true, true, true, true, true, false, false, false, false, false, false, false, false, false, false, false, false, false, false, false, false, false, false, false, false, false, false, false, false, false] rfl rfl (any_of HT_.out (by kernel_rfl)) (fun _ _ _ h => h) (Or.inl ⟨by rfl, ?_⟩) ?_ ?_
                  rotate_left; (·intro w'; go_simp; with_reducible rfl); rotate_left; (·simp only [Act.put, List.setIfInBounds_toArray, List.set_cons_zero, List.set_cons_succ, i64_w, i32_w]; rfl)
                  refine pure_ (i := 6) (N := some 73) (v := ?_) (a' := ?_) #[true, true, true, true, true, true, true, false, false, false, false, false, false, false, false, false, false, false, false, false, false, false, false, false, false, false, false, false, false, false, false] rfl rfl (any_of HT_.out (by kernel_rfl)) (fun _ _ _ h => h) (Or.inl ⟨by rfl, ?_⟩) ?_ ?_
                  rotate_left; (·intro w'; go_simp; with_reducible rfl); rotate_left; (·simp only [Act.put, List.setIfInBounds_toArray, List.set_cons_zero, List.set_cons_succ, i64_w, i32_w]; rfl)
                  refine pure_ (i := 7) (N := some 74) (v := ?_) (a' := ?_) #[true, true, true, true, true, true, true, true, false, false, false, false, false, false, false, false, false, false, false, false, false, false, false, false, false, false, false, false, false, false, false] rfl rfl (any_of HT_.out (by kernel_rfl)) (fun _ _ _ h => h) (Or.inl ⟨by rfl, ?_⟩) ?_ ?_
                  rotate_left; (·intro w'; go_simp; with_reducible rfl); rotate_left; (·simp only [Act.put, List.setIfInBounds_toArray, List.set_cons_zero, List.set_cons_succ, i64_w, i32_w]; rfl)
                  refine pure_ (i := 8) (N := some 75) (v := ?_) (a' := ?_) #[true, true, true, true, true, true, true, true, true, false, false, false, false, false, false, false, false, false, false, false, false, false, false, false, false, false, false, false, false, false, false] rfl rfl (any_of HT_.out (by kernel_rfl)) (fun _ _ _ h => h) (Or.inl ⟨by rfl, ?_⟩) ?_ ?_
                  rotate_left; (·intro w'; go_simp; with_reducible rfl); rotate_left; (·simp only [Act.put, List.setIfInBounds_toArray, List.set_cons_zero, List.set_cons_succ, i64_w, i32_w]; rfl)
                  refine pure_ (i := 10) (N := some 77) (v := ?_) (a' := ?_) #[true, true, true, true, true, true, true, true, true, false, true, false, false, false, false, false, false, false, false, false, false, false, false, false, false, false, false, false, false, false, false] rfl rfl (any_of HT_.out (by kernel_rfl)) (fun _ _ _ h => h) (Or.inl ⟨by rfl, ?_⟩) ?_ ?_
                  rotate_left; (·intro w'; go_simp; with_reducible rfl); rotate_left; (·simp only [Act.put, List.setIfInBounds_toArray, List.set_cons_zero, List.set_cons_succ, i64_w, i32_w]; rfl)
                  refine pure_ (i := 12) (N := some 79) (v := ?_) (a' := ?_) #[true, true, true, true, true, true, true, true, true, false, true, false, true, false, false, false, false, false, false, false, false, false, false, false, false, false, false, false, false, false, false] rfl rfl (any_of HT_.out (by kernel_rfl)) (fun _ _ _ h => h) (Or.inl ⟨by rfl, ?_⟩) ?_ ?_
                  rotate_left; (·intro w'; go_simp; with_reducible rfl); rotate_left; (·simp only [Act.put, List.setIfInBounds_toArray, List.set_cons_zero, List.set_cons_succ, i64_w, i32_w]; rfl)
                  refine pure_ (i := 16) (N := some 83) (v := ?_) (a' := ?_) #[true, true, true, true, true, true, true, true, true, false, true, false, true, false, false, false, true, false, false, false, false, false, false, false, false, false, false, false, false, false, false] rfl rfl (any_of HT_.out (by kernel_rfl)) (fun _ _ _ h => h) (Or.inl ⟨by rfl, ?_⟩) ?_ ?_
                  rotate_left; (·intro w'; go_simp; with_reducible rfl); rotate_left; (·simp only [Act.put, List.setIfInBounds_toArray, List.set_cons_zero, List.set_cons_succ, i64_w, i32_w]; rfl)
                  refine pure_ (i := 17) (N := some 84) (v := ?_) (a' := ?_) #[true, true, true, true, true, true, true, true, true, false, true, false, true, false, false, false, true, true, false, false, false, false, false, false, false, false, false, false, false, false, false] rfl rfl (any_of HT_.out (by kernel_rfl)) (fun _ _ _ h => h) (Or.inl ⟨by rfl, ?_⟩) ?_ ?_
                  rotate_left; (·intro w'; go_simp; with_reducible rfl); rotate_left; (·simp only [Act.put, List.setIfInBounds_toArray, List.set_cons_zero, List.set_cons_succ, i64_w, i32_w]; rfl)
                  refine pure_ (i := 19) (N := some 86) (v := ?_) (a' := ?_) #[true, true, true, true, true, true, true, true, true, false, true, false, true, false, false, false, true, true, false, true, false, false, false, false, false, false, false, false, false, false, false] rfl rfl (any_of HT_.out (by kernel_rfl)) (fun _ _ _ h => h) (Or.inl ⟨by rfl, ?_⟩) ?_ ?_
                  rotate_left; (·intro w'; go_simp; with_reducible rfl); rotate_left; (·simp only [Act.put, List.setIfInBounds_toArray, List.set_cons_zero, List.set_cons_succ, i64_w, i32_w]; rfl)
                  refine pure_ (i := 22) (N := some 89) (v := ?_) (a' := ?_) #[true, true, true, true, true, true, true, true, true, false, true, false, true, false, false, false, true, true, false, true, false, false, true, false, false, false, false, false, false, false, false] rfl rfl (any_of HT_.out (by kernel_rfl)) (fun _ _ _ h => h) (Or.inl ⟨by rfl, ?_⟩) ?_ ?_
                  rotate_left; (·intro w'; go_simp; with_reducible rfl); rotate_left; (·simp only [Act.put, List.setIfInBounds_toArray, List.set_cons_zero, List.set_cons_succ, i64_w, i32_w]; rfl)
                  refine pure_ (i := 24) (N := some 91) (v := ?_) (a' := ?_) #[true, true, true, true, true, true, true, true, true, false, true, false, true, false, false, false, true, true, false, true, false, false, true, false, true, false, false, false, false, false, false] rfl rfl (any_of HT_.out (by kernel_rfl)) (fun _ _ _ h => h) (Or.inl ⟨by rfl, ?_⟩) ?_ ?_
                  rotate_left; (·intro w'; go_simp; with_reducible rfl); rotate_left; (·simp only [Act.put, List.setIfInBounds_toArray, List.set_cons_zero, List.set_cons_succ, i64_w, i32_w]; rfl)
                  refine take_ (i := 9) (N := some 76) (v := ?_) (a' := ?_) #[true, true, true, true, true, true, true, true, true, true, true, false, true, false, false, false, true, true, false, true, false, false, true, false, true, false, false, false, false, false, false] rfl rfl (take_ofW HT_.out HW_.out (by kernel_rfl)) (fun _ _ _ h => h) (Or.inl ⟨by rfl, ?_⟩) hHeld ?_ ?_
                  rotate_left; (·rintro w' ⟨s0, s1, s2, s3, s4, s5⟩; go_simp; with_reducible rfl); rotate_left; (·simp only [Act.put, List.setIfInBounds_toArray, List.set_cons_zero, List.set_cons_succ, i64_w, i32_w]; rfl)
                  refine take_ (i := 11) (N := some 78) (v := ?_) (a' := ?_) #[true, true, true, true, true, true, true, true, true, true, true, true, true, false, false, false, true, true, false, true, false, false, true, false, true, false, false, false, false, false, false] rfl rfl (take_ofW HT_.out HW_.out (by kernel_rfl)) (fun _ _ _ h => h) (Or.inl ⟨by rfl, ?_⟩) hHeld ?_ ?_
                  rotate_left; (·rintro w' ⟨s0, s1, s2, s3, s4, s5⟩; go_simp; with_reducible rfl); rotate_left; (·simp only [Act.put, List.setIfInBounds_toArray, List.set_cons_zero, List.set_cons_succ, i64_w, i32_w]; rfl)
                  refine take_ (i := 13) (N := some 80) (v := ?_) (a' := ?_) #[true, true, true, true, true, true, true, true, true, true, true, true, true, true, false, false, true, true, false, true, false, false, true, false, true, false, false, false, false, false, false] rfl rfl (take_ofW HT_.out HW_.out (by kernel_rfl)) (fun _ _ _ h => h) (Or.inl ⟨by rfl, ?_⟩) hHeld ?_ ?_
                  rotate_left; (·rintro w' ⟨s0, s1, s2, s3, s4, s5⟩; go_simp; with_reducible rfl); rotate_left; (·simp only [Act.put, List.setIfInBounds_toArray, List.set_cons_zero, List.set_cons_succ, i64_w, i32_w]; rfl)
                  refine pure_ (i := 14) (N := some 81) (v := ?_) (a' := ?_) #[true, true, true, true, true, true, true, true, true, true, true, true, true, true, true, false, true, true, false, true, false, false, true, false, true, false, false, false, false, false, false] rfl rfl (any_of HT_.out (by kernel_rfl)) (fun _ _ _ h => h) (Or.inl ⟨by rfl, ?_⟩) ?_ ?_
                  rotate_left; (·intro w'; go_simp; with_reducible rfl); rotate_left; (·simp only [Act.put, List.setIfInBounds_toArray, List.set_cons_zero, List.set_cons_succ, i64_w, i32_w]; rfl)
                  refine pure_ (i := 15) (N := some 82) (v := ?_) (a' := ?_) #[true, true, true, true, true, true, true, true, true, true, true, true, true, true, true, true, true, true, false, true, false, false, true, false, true, false, false, false, false, false, false] rfl rfl (any_of HT_.out (by kernel_rfl)) (fun _ _ _ h => h) (Or.inl ⟨by rfl, ?_⟩) ?_ ?_
                  rotate_left; (·intro w'; go_simp; with_reducible rfl); rotate_left; (·simp only [Act.put, List.setIfInBounds_toArray, List.set_cons_zero, List.set_cons_succ, i64_w, i32_w]; rfl)
                  refine take_ (i := 18) (N := some 85) (v := ?_) (a' := ?_) #[true, true, true, true, true, true, true, true, true, true, true, true, true, true, true, true, true, true, true, true, false, false, true, false, true, false, false, false, false, false, false] rfl rfl (take_ofW HT_.out HW_.out (by kernel_rfl)) (fun _ _ _ h => h) (Or.inl ⟨by rfl, ?_⟩) hHeld ?_ ?_
                  rotate_left; (·rintro w' ⟨s0, s1, s2, s3, s4, s5⟩; go_simp; with_reducible rfl); rotate_left; (·simp only [Act.put, List.setIfInBounds_toArray, List.set_cons_zero, List.set_cons_succ, i64_w, i32_w]; rfl)
                  refine take_ (i := 20) (N := some 87) (v := ?_) (a' := ?_) #[true, true, true, true, true, true, true, true, true, true, true, true, true, true, true, true, true, true, true, true, true, false, true, false, true, false, false, false, false, false, false] rfl rfl (take_ofW HT_.out HW_.out (by kernel_rfl)) (fun _ _ _ h => h) (Or.inl ⟨by rfl, ?_⟩) hHeld ?_ ?_
                  rotate_left; (·rintro w' ⟨s0, s1, s2, s3, s4, s5⟩; go_simp; with_reducible rfl); rotate_left; (·simp only [Act.put, List.setIfInBounds_toArray, List.set_cons_zero, List.set_cons_succ, i64_w, i32_w]; rfl)
                  refine pure_ (i := 21) (N := some 88) (v := ?_) (a' := ?_) #[true, true, true, true, true, true, true, true, true, true, true, true, true, true, true, true, true, true, true, true, true, true, true, false, true, false, false, false, false, false, false] rfl rfl (any_of HT_.out (by kernel_rfl)) (fun _ _ _ h => h) (Or.inl ⟨by rfl, ?_⟩) ?_ ?_
                  rotate_left; (·intro w'; go_simp; with_reducible rfl); rotate_left; (·simp only [Act.put, List.setIfInBounds_toArray, List.set_cons_zero, List.set_cons_succ, i64_w, i32_w]; rfl)
                  refine take_ (i := 23) (N := some 90) (v := ?_) (a' := ?_) #[true, true, true, true, true, true, true, true, true, true, true, true, true, true, true, true, true, true, true, true, true, true, true, true, true, false, false, false, false, false, false] rfl rfl (take_ofW HT_.out HW_.out (by kernel_rfl)) (fun _ _ _ h => h) (Or.inl ⟨by rfl, ?_⟩) hHeld ?_ ?_
                  rotate_left; (·rintro w' ⟨s0, s1, s2, s3, s4, s5⟩; go_simp; with_reducible rfl); rotate_left; (·simp only [Act.put, List.setIfInBounds_toArray, List.set_cons_zero, List.set_cons_succ, i64_w, i32_w]; rfl)
                  refine take_ (i := 25) (N := some 92) (v := ?_) (a' := ?_) #[true, true, true, true, true, true, true, true, true, true, true, true, true, true, true, true, true, true, true, true, true, true, true, true, true, true, false, false, false, false, false] rfl rfl (take_ofW HT_.out HW_.out (by kernel_rfl)) (fun _ _ _ h => h) (Or.inl ⟨by rfl, ?_⟩) hHeld ?_ ?_
                  rotate_left; (·rintro w' ⟨s0, s1, s2, s3, s4, s5⟩; go_simp; with_reducible rfl); rotate_left; (·simp only [Act.put, List.setIfInBounds_toArray, List.set_cons_zero, List.set_cons_succ, i64_w, i32_w]; rfl)
                  refine pure_ (i := 26) (N := some 93) (v := ?_) (a' := ?_) #[true, true, true, true, true, true, true, true, true, true, true, true, true, true, true, true, true, true, true, true, true, true, true, true, true, true, true, false, false, false, false] rfl rfl (any_of HT_.out (by kernel_rfl)) (fun _ _ _ h => h) (Or.inl ⟨by rfl, ?_⟩) ?_ ?_
                  rotate_left; (·intro w'; go_simp; with_reducible rfl); rotate_left; (·simp only [Act.put, List.setIfInBounds_toArray, List.set_cons_zero, List.set_cons_succ, i64_w, i32_w]; rfl)
                  refine pure_ (i := 27) (N := some 94) (v := ?_) (a' := ?_) #[true, true, true, true, true, true, true, true, true, true, true, true, true, true, true, true, true, true, true, true, true, true, true, true, true, true, true, true, false, false, false] rfl rfl (any_of HT_.out (by kernel_rfl)) (fun _ _ _ h => h) (Or.inl ⟨by rfl, ?_⟩) ?_ ?_
                  rotate_left; (·intro w'; go_simp; with_reducible rfl); rotate_left; (·simp only [Act.put, List.setIfInBounds_toArray, List.set_cons_zero, List.set_cons_succ, i64_w, i32_w]; rfl)
                  refine one_ (i := 28) (N := some 95) #[true, true, true, true, true, true, true, true, true, true, true, true, true, true, true, true, true, true, true, true, true, true, true, true, true, true, true, true, true, false, false] rfl rfl (one_of HT_.out (by kernel_rfl)) (by decide) (fun K hK => ?_)
                  refine goes_ Try.func51 (by kernel_rfl) rfl #[.slice A67 y726.length c67, .slice A68 y730.length c68] (by rfl) rfl rfl (by (try simp only [List.map_toArray, List.map_cons, List.map_nil]); first | done | rfl | (simp only [List.length_drop, List.length_take]; rfl)) ?_
                  with_reducible refine (laws_sameInts.calls k2 _ _ y726 _ _ y730 true _ ?side1 ?side2 ?side3 ?side4 A59.out).mono ?_
                  (case side1 => repeat (first | exact (by repeat (first | (with_reducible exact HR729.out) | (with_reducible refine Kd.C_alloc ?_ _) | (with_reducible refine Kd.C_drewN ?_ _) | (with_reducible refine Kd.C_drew ?_) | exact HR729.out)) | (with_reducible refine Kd.C_alloc ?_ _) | (with_reducible refine Kd.C_drewN ?_ _) | (with_reducible refine Kd.C_drew ?_)))
                  (case side2 => exact HC729.out)
                  (case side3 => repeat (first | exact (by repeat (first | (with_reducible exact HR733.out) | (with_reducible refine Kd.C_alloc ?_ _) | (with_reducible refine Kd.C_drewN ?_ _) | (with_reducible refine Kd.C_drew ?_) | exact HR733.out)) | (with_reducible refine Kd.C_alloc ?_ _) | (with_reducible refine Kd.C_drewN ?_ _) | (with_reducible refine Kd.C_drew ?_)))
                  (case side4 => exact HC733.out)
                  rintro e w' ⟨rfl, ⟨nd, rfl⟩⟩
                  refine ⟨_, rfl, ?_⟩
                  refine hK.out _ _ ⟨(blk_cell BK724.out 0).trans rfl, (blk_cell BK724.out 1).trans rfl, (blk_cell BK724.out 2).trans rfl, hHeld.2.2.2.1, hHeld.2.2.2.2.1, hHeld.2.2.2.2.2⟩ (fun hHeld => ?_)
                  clear hK K
                  refine norm_ (a' := ?_) ?_ ?_
                  rotate_left
                  ·show Act.put _ (some 95) _ = _
                   simp only [Act.put, List.setIfInBounds_toArray, List.set_cons_zero, List.set_cons_succ, i64_w, i32_w]
                   rfl
                  refine pure_ (i := 29) (N := some 96) (v := ?_) (a' := ?_) #[true, true, true, true, true, true, true, true, true, true, true, true, true, true, true, true, true, true, true, true, true, true, true, true, true, true, true, true, true, true, false] rfl rfl (any_of HT_.out (by kernel_rfl)) (fun _ _ _ h => h) (Or.inl ⟨by rfl, ?_⟩) ?_ ?_
                  rotate_left; (·intro w'; go_simp; with_reducible rfl); rotate_left; (·simp only [Act.put, List.setIfInBounds_toArray, List.set_cons_zero, List.set_cons_succ, i64_w, i32_w]; rfl)
                  refine pure_ (i := 30) (N := some 97) (v := ?_) (a' := ?_) #[true, true, true, true, true, true, true, true, true, true, true, true, true, true, true, true, true, true, true, true, true, true, true, true, true, true, true, true, true, true, true] rfl rfl (any_of HT_.out (by kernel_rfl)) (fun _ _ _ h => h) (Or.inl ⟨by rfl, ?_⟩) ?_ ?_
                  rotate_left; (·intro w'; go_simp; with_reducible rfl); rotate_left; (·simp only [Act.put, List.setIfInBounds_toArray, List.set_cons_zero, List.set_cons_succ, i64_w, i32_w]; rfl)
                  refine done_ (done_of HT_.out (by kernel_rfl)) ?_
                  try go_wp2
                  go_roundg k2
                  case measure => have := HJ6.out; have := HK2.out; omega
                  case rel => exact ⟨(wrap64 (x6_2 + 1)), (by first | rfl | (simp; done) | (simp [*]; done)), H', ⟨by have := HJ6.out; have := HK2.out; omega⟩, ⟨by (with_reducible repeat (first | apply Kd.R_alloc | apply Kd.R_drewN | apply Kd.R_drew)); exact HO_3.out⟩, ⟨by (with_reducible repeat (first | apply Kd.R_alloc | apply Kd.R_drewN | apply Kd.R_drew)); exact Kd.R_mono HO_4.out (fun _ hk => hk.1)⟩, ⟨by (with_reducible repeat (first | apply Kd.R_alloc | apply Kd.R_drewN | apply Kd.R_drew)); exact Kd.R_mono HO_5.out (fun _ hk => hk.1)⟩, ⟨by repeat (first | (with_reducible first | exact HB.out | apply below_alloc | apply pw_below_drewN | apply below_drew1 | refine below_set ?_ GE724.out) | exact HB.out)⟩⟩
                 ·replace c60 := Bool.eq_false_iff.mpr c60
                  subst c60
                  have H1 : (some false) = some r := by rw [if_neg (show ¬ (false = true) by decide)] at H; exact H
                  clear H
                  have H := H1
                  clear H1
                  exact absurd ((Option.some.inj H).trans HTrue_.out) (by decide)
                ·rw [if_neg c58] at H
                 exact absurd H (by simp)
               ·rw [if_neg c57] at H
                exact absurd H (by simp)
              ·rw [if_neg c56] at H
               exact absurd H (by simp)
             ·rw [if_neg c54] at H
              exact absurd H (by simp)
            ·rw [if_neg c53] at H
             exact absurd H (by simp)
           ·rw [if_neg c52] at H
            exact absurd H (by simp)
         ·rw [if_neg c44] at H
          exact absurd H (by simp)
        ·rw [if_neg c43] at H
         exact absurd H (by simp)
       ·rw [if_neg c42] at H
        have c42b0 : decide (x6_2 < (t711.length : Int)) = false := decide_eq_false c42
        clear c42
        have HC77 := Aside0.mk H
        clear H
        obtain ⟨Ao78, co78, eo78⟩ := Kd.R_slice HO_4.out
        subst eo78
        go_upto_region 14 with (fail)
        go_cut [124] (fun v124 wc => ∃ (kq : Nat) (x124_76 : Bool), v124 = .bool x124_76 ∧ Aside0 (laws_FnPowers.j2 kq l0 t708 x124_76 = some r) ∧ Aside0 (kq ≤ k2) ∧ Aside0 (Kd.R (Kd.int .i64) 3 wc w.heap.size (fun _ => True) (.slice Ao9 t708.length co9) t708) ∧ Aside0 (Below w.heap.size w wc))
        case first => as_aux_lemma =>
         have H := HC77.out
         clear HC77
         by_cases c79 : (t708.length : Int) ≤ 64
         ·rw [if_pos c79] at H
          have c79b0 : decide ((t708.length : Int) ≤ 64) = true := decide_eq_true c79
          have c79b1 : decide (t708.length ≤ 64) = true := decide_eq_true (by omega)
          clear c79
          (first | rw [c79b0] | (simp only [i64_w, i32_w]; rw [c79b0]) | skip)
          replace H := Option.bind_eq_some_iff.mp H
          obtain ⟨t735, A800, H⟩ := H
          replace H : (if (t735 != (decide ((t714.length : Int) > 0))) = true then (laws_FnPowers.j2 k2 l0 t708 true) else ((impl_HasOverlap.f k2 t708).bind fun t736 => (if t736 = true then ((impl_HasSquare.f k2 t708).bind fun t737 => (if t737 = true then ((impl_DistinctSquares.f k2 t708).bind fun t738 => (laws_FnPowers.j2 k2 l0 t708 (decide (t738 > (t708.length : Int))))) else (laws_FnPowers.j2 k2 l0 t708 true))) else ((impl_DistinctSquares.f k2 t708).bind fun t739 => (laws_FnPowers.j2 k2 l0 t708 (decide (t739 > (t708.length : Int)))))))) = some r := H
          have A80 := Aside0.mk A800
          clear A800
          by_cases c81 : (t735 != (decide ((t714.length : Int) > 0))) = true
          ·rw [if_pos c81] at H
           exact absurd (H.trans (congrArg some HTrue_.out)) (laws_FnPowers.j2_no _ _ _)
          ·rw [if_neg c81] at H
           have c81b0 : (t735 != (decide ((t714.length : Int) > 0))) = false := by simpa using c81
           have c81b8 := eq_true (show t735 = decide (0 < t714.length) by simpa using c81b0)
           (try (have c81b1 : decide (t735 = (decide ((t714.length : Int) > 0))) = true := by simpa using c81))
           (try (have c81b2 : (t735 == (decide ((t714.length : Int) > 0))) = true := by simpa using c81))
           clear c81
           replace H := Option.bind_eq_some_iff.mp H
           obtain ⟨t736, A840, H⟩ := H
           replace H : (if t736 = true then ((impl_HasSquare.f k2 t708).bind fun t737 => (if t737 = true then ((impl_DistinctSquares.f k2 t708).bind fun t738 => (laws_FnPowers.j2 k2 l0 t708 (decide (t738 > (t708.length : Int))))) else (laws_FnPowers.j2 k2 l0 t708 true))) else ((impl_DistinctSquares.f k2 t708).bind fun t739 => (laws_FnPowers.j2 k2 l0 t708 (decide (t739 > (t708.length : Int)))))) = some r := H
           have A84 := Aside0.mk A840
           clear A840
           by_cases c85 : t736 = true
           ·subst c85
            have H1 : ((impl_HasSquare.f k2 t708).bind fun t737 => (if t737 = true then ((impl_DistinctSquares.f k2 t708).bind fun t738 => (laws_FnPowers.j2 k2 l0 t708 (decide (t738 > (t708.length : Int))))) else (laws_FnPowers.j2 k2 l0 t708 true))) = some r := by rw [if_pos rfl] at H; exact H
            clear H
            have H := H1
            clear H1
            replace H := Option.bind_eq_some_iff.mp H
            obtain ⟨t737, A860, H⟩ := H
            replace H : (if t737 = true then ((impl_DistinctSquares.f k2 t708).bind fun t738 => (laws_FnPowers.j2 k2 l0 t708 (decide (t738 > (t708.length : Int))))) else (laws_FnPowers.j2 k2 l0 t708 true)) = some r := H
            have A86 := Aside0.mk A860
            clear A860
            by_cases c87 : t737 = true
            ·subst c87
             have H1 : ((impl_DistinctSquares.f k2 t708).bind fun t738 => (laws_FnPowers.j2 k2 l0 t708 (decide (t738 > (t708.length : Int))))) = some r := by rw [if_pos rfl] at H; exact H
             clear H
             have H := H1
             clear H1
             replace H := Option.bind_eq_some_iff.mp H
             obtain ⟨t738, A880, H⟩ := H
             replace H : (laws_FnPowers.j2 k2 l0 t708 (decide (t738 > (t708.length : Int)))) = some r := H
             have A88 := Aside0.mk A880
             clear A880
             have H' := Aside0.mk H
             clear H
             go_wp2_with (first | (go_at_call 45; (with_reducible refine (impl_HasSquare.calls k2 _ _ t708 t735 _ ?side1 ?side2 A80.out).mono ?_); (case side1 => repeat (first | exact (Kd.R_reads' HO_3.out).2.2 | (with_reducible refine Kd.C_alloc ?_ _) | (with_reducible refine Kd.C_drewN ?_ _) | (with_reducible refine Kd.C_drew ?_))); (case side2 => exact (Kd.R_reads' HO_3.out).2.1); rintro e w89 ⟨rfl, hb⟩; have n0_ := Aside0.mk (Kd.R_below (by (with_reducible repeat (first | apply Kd.R_alloc | apply Kd.R_drewN | apply Kd.R_drew)); exact HO_3.out) hb); have n1_ := Aside0.mk (Kd.R_below (by (with_reducible repeat (first | apply Kd.R_alloc | apply Kd.R_drewN | apply Kd.R_drew)); exact HO_4.out) hb); have n2_ := Aside0.mk (Kd.R_below (by (with_reducible repeat (first | apply Kd.R_alloc | apply Kd.R_drewN | apply Kd.R_drew)); exact HO_5.out) hb); have n3_ := Aside0.mk (below_step G.bel hb); clear HO_3; clear HO_4; clear HO_5; clear HB; have HO_3 := n0_; have HO_4 := n1_; have HO_5 := n2_; have HB := n3_; clear n0_ n1_ n2_ n3_; (try clear hb); (try clear hb2); (try clear hk); (try clear hi); obtain ⟨Ao90, co90, eo90⟩ := Kd.R_slice HO_5.out; subst eo90) | (go_at_call 47; (with_reducible refine (impl_HasOverlap.calls k2 _ _ t708 true _ ?side1 ?side2 A84.out).mono ?_); (case side1 => repeat (first | exact (Kd.R_reads' HO_3.out).2.2 | (with_reducible refine Kd.C_alloc ?_ _) | (with_reducible refine Kd.C_drewN ?_ _) | (with_reducible refine Kd.C_drew ?_))); (case side2 => exact (Kd.R_reads' HO_3.out).2.1); rintro e w91 ⟨rfl, hb⟩; have n0_ := Aside0.mk (Kd.R_below (by (with_reducible repeat (first | apply Kd.R_alloc | apply Kd.R_drewN | apply Kd.R_drew)); exact HO_3.out) hb); have n1_ := Aside0.mk (Kd.R_below (by (with_reducible repeat (first | apply Kd.R_alloc | apply Kd.R_drewN | apply Kd.R_drew)); exact HO_4.out) hb); have n2_ := Aside0.mk (Kd.R_below (by (with_reducible repeat (first | apply Kd.R_alloc | apply Kd.R_drewN | apply Kd.R_drew)); exact HO_5.out) hb); have n3_ := Aside0.mk (below_step G.bel hb); clear HO_3; clear HO_4; clear HO_5; clear HB; have HO_3 := n0_; have HO_4 := n1_; have HO_5 := n2_; have HB := n3_; clear n0_ n1_ n2_ n3_; (try clear hb); (try clear hb2); (try clear hk); (try clear hi)) | (go_at_call 45; (with_reducible refine (impl_HasSquare.calls k2 _ _ t708 true _ ?side1 ?side2 A86.out).mono ?_); (case side1 => repeat (first | exact (Kd.R_reads' HO_3.out).2.2 | (with_reducible refine Kd.C_alloc ?_ _) | (with_reducible refine Kd.C_drewN ?_ _) | (with_reducible refine Kd.C_drew ?_))); (case side2 => exact (Kd.R_reads' HO_3.out).2.1); rintro e w92 ⟨rfl, hb⟩; have n0_ := Aside0.mk (Kd.R_below (by (with_reducible repeat (first | apply Kd.R_alloc | apply Kd.R_drewN | apply Kd.R_drew)); exact HO_3.out) hb); have n1_ := Aside0.mk (Kd.R_below (by (with_reducible repeat (first | apply Kd.R_alloc | apply Kd.R_drewN | apply Kd.R_drew)); exact HO_4.out) hb); have n2_ := Aside0.mk (Kd.R_below (by (with_reducible repeat (first | apply Kd.R_alloc | apply Kd.R_drewN | apply Kd.R_drew)); exact HO_5.out) hb); have n3_ := Aside0.mk (below_step G.bel hb); clear HO_3; clear HO_4; clear HO_5; clear HB; have HO_3 := n0_; have HO_4 := n1_; have HO_5 := n2_; have HB := n3_; clear n0_ n1_ n2_ n3_; (try clear hb); (try clear hb2); (try clear hk); (try clear hi)) | (go_at_call 49; (with_reducible refine (impl_DistinctSquares.calls k2 _ _ t708 t738 _ ?side1 ?side2 A88.out).mono ?_); (case side1 => repeat (first | exact (Kd.R_reads' HO_3.out).2.2 | (with_reducible refine Kd.C_alloc ?_ _) | (with_reducible refine Kd.C_drewN ?_ _) | (with_reducible refine Kd.C_drew ?_))); (case side2 => exact (Kd.R_reads' HO_3.out).2.1); rintro e w93 ⟨rfl, hb⟩; have n0_ := Aside0.mk (Kd.R_below (by (with_reducible repeat (first | apply Kd.R_alloc | apply Kd.R_drewN | apply Kd.R_drew)); exact HO_3.out) hb); have n1_ := Aside0.mk (Kd.R_below (by (with_reducible repeat (first | apply Kd.R_alloc | apply Kd.R_drewN | apply Kd.R_drew)); exact HO_4.out) hb); have n2_ := Aside0.mk (Kd.R_below (by (with_reducible repeat (first | apply Kd.R_alloc | apply Kd.R_drewN | apply Kd.R_drew)); exact HO_5.out) hb); have n3_ := Aside0.mk (below_step G.bel hb); clear HO_3; clear HO_4; clear HO_5; clear HB; have HO_3 := n0_; have HO_4 := n1_; have HO_5 := n2_; have HB := n3_; clear n0_ n1_ n2_ n3_; (try clear hb); (try clear hb2); (try clear hk); (try clear hi)))
             go_meet
             case rel => exact ⟨_, (decide (t738 > (t708.length : Int))), (by first | rfl | (simp; done) | (simp [*]; done)), H', ⟨by have := HJ6.out; have := HK2.out; first | omega | exact Nat.le_refl _⟩, ⟨by (with_reducible repeat (first | apply Kd.R_alloc | apply Kd.R_drewN | apply Kd.R_drew)); exact HO_3.out⟩, ⟨G.bel⟩⟩
            ·replace c87 := Bool.eq_false_iff.mpr c87
             subst c87
             have H1 : (laws_FnPowers.j2 k2 l0 t708 true) = some r := by rw [if_neg (show ¬ (false = true) by decide)] at H; exact H
             clear H
             have H := H1
             clear H1
             exact absurd (H.trans (congrArg some HTrue_.out)) (laws_FnPowers.j2_no _ _ _)
           ·replace c85 := Bool.eq_false_iff.mpr c85
            subst c85
            have H1 : ((impl_DistinctSquares.f k2 t708).bind fun t739 => (laws_FnPowers.j2 k2 l0 t708 (decide (t739 > (t708.length : Int))))) = some r := by rw [if_neg (show ¬ (false = true) by decide)] at H; exact H
            clear H
            have H := H1
            clear H1
            replace H := Option.bind_eq_some_iff.mp H
            obtain ⟨t739, A980, H⟩ := H
            replace H : (laws_FnPowers.j2 k2 l0 t708 (decide (t739 > (t708.length : Int)))) = some r := H
            have A98 := Aside0.mk A980
            clear A980
            have H' := Aside0.mk H
            clear H
            go_wp2_with (first | (go_at_call 45; (with_reducible refine (impl_HasSquare.calls k2 _ _ t708 t735 _ ?side1 ?side2 A80.out).mono ?_); (case side1 => repeat (first | exact (Kd.R_reads' HO_3.out).2.2 | (with_reducible refine Kd.C_alloc ?_ _) | (with_reducible refine Kd.C_drewN ?_ _) | (with_reducible refine Kd.C_drew ?_))); (case side2 => exact (Kd.R_reads' HO_3.out).2.1); rintro e w99 ⟨rfl, hb⟩; have n0_ := Aside0.mk (Kd.R_below (by (with_reducible repeat (first | apply Kd.R_alloc | apply Kd.R_drewN | apply Kd.R_drew)); exact HO_3.out) hb); have n1_ := Aside0.mk (Kd.R_below (by (with_reducible repeat (first | apply Kd.R_alloc | apply Kd.R_drewN | apply Kd.R_drew)); exact HO_4.out) hb); have n2_ := Aside0.mk (Kd.R_below (by (with_reducible repeat (first | apply Kd.R_alloc | apply Kd.R_drewN | apply Kd.R_drew)); exact HO_5.out) hb); have n3_ := Aside0.mk (below_step G.bel hb); clear HO_3; clear HO_4; clear HO_5; clear HB; have HO_3 := n0_; have HO_4 := n1_; have HO_5 := n2_; have HB := n3_; clear n0_ n1_ n2_ n3_; (try clear hb); (try clear hb2); (try clear hk); (try clear hi); obtain ⟨Ao100, co100, eo100⟩ := Kd.R_slice HO_5.out; subst eo100) | (go_at_call 47; (with_reducible refine (impl_HasOverlap.calls k2 _ _ t708 false _ ?side1 ?side2 A84.out).mono ?_); (case side1 => repeat (first | exact (Kd.R_reads' HO_3.out).2.2 | (with_reducible refine Kd.C_alloc ?_ _) | (with_reducible refine Kd.C_drewN ?_ _) | (with_reducible refine Kd.C_drew ?_))); (case side2 => exact (Kd.R_reads' HO_3.out).2.1); rintro e w101 ⟨rfl, hb⟩; have n0_ := Aside0.mk (Kd.R_below (by (with_reducible repeat (first | apply Kd.R_alloc | apply Kd.R_drewN | apply Kd.R_drew)); exact HO_3.out) hb); have n1_ := Aside0.mk (Kd.R_below (by (with_reducible repeat (first | apply Kd.R_alloc | apply Kd.R_drewN | apply Kd.R_drew)); exact HO_4.out) hb); have n2_ := Aside0.mk (Kd.R_below (by (with_reducible repeat (first | apply Kd.R_alloc | apply Kd.R_drewN | apply Kd.R_drew)); exact HO_5.out) hb); have n3_ := Aside0.mk (below_step G.bel hb); clear HO_3; clear HO_4; clear HO_5; clear HB; have HO_3 := n0_; have HO_4 := n1_; have HO_5 := n2_; have HB := n3_; clear n0_ n1_ n2_ n3_; (try clear hb); (try clear hb2); (try clear hk); (try clear hi)) | (go_at_call 49; (with_reducible refine (impl_DistinctSquares.calls k2 _ _ t708 t739 _ ?side1 ?side2 A98.out).mono ?_); (case side1 => repeat (first | exact (Kd.R_reads' HO_3.out).2.2 | (with_reducible refine Kd.C_alloc ?_ _) | (with_reducible refine Kd.C_drewN ?_ _) | (with_reducible refine Kd.C_drew ?_))); (case side2 => exact (Kd.R_reads' HO_3.out).2.1); rintro e w102 ⟨rfl, hb⟩; have n0_ := Aside0.mk (Kd.R_below (by (with_reducible repeat (first | apply Kd.R_alloc | apply Kd.R_drewN | apply Kd.R_drew)); exact HO_3.out) hb); have n1_ := Aside0.mk (Kd.R_below (by (with_reducible repeat (first | apply Kd.R_alloc | apply Kd.R_drewN | apply Kd.R_drew)); exact HO_4.out) hb); have n2_ := Aside0.mk (Kd.R_below (by (with_reducible repeat (first | apply Kd.R_alloc | apply Kd.R_drewN | apply Kd.R_drew)); exact HO_5.out) hb); have n3_ := Aside0.mk (below_step G.bel hb); clear HO_3; clear HO_4; clear HO_5; clear HB; have HO_3 := n0_; have HO_4 := n1_; have HO_5 := n2_; have HB := n3_; clear n0_ n1_ n2_ n3_; (try clear hb); (try clear hb2); (try clear hk); (try clear hi)))
            go_meet
            case rel => exact ⟨_, (decide (t739 > (t708.length : Int))), (by first | rfl | (simp; done) | (simp [*]; done)), H', ⟨by have := HJ6.out; have := HK2.out; first | omega | exact Nat.le_refl _⟩, ⟨by (with_reducible repeat (first | apply Kd.R_alloc | apply Kd.R_drewN | apply Kd.R_drew)); exact HO_3.out⟩, ⟨G.bel⟩⟩
         ·rw [if_neg c79] at H
          have c79b0 : decide ((t708.length : Int) ≤ 64) = false := decide_eq_false c79
          have c79b1 : decide (t708.length ≤ 64) = false := decide_eq_false (by omega)
          clear c79
          (first | rw [c79b0] | (simp only [i64_w, i32_w]; rw [c79b0]) | skip)
          have H' := Aside0.mk H
          clear H
          go_wp2
          go_meet
          case rel => exact ⟨_, (false), (by first | rfl | (simp; done) | (simp [*]; done)), H', ⟨by have := HJ6.out; have := HK2.out; first | omega | exact Nat.le_refl _⟩, ⟨by (with_reducible repeat (first | apply Kd.R_alloc | apply Kd.R_drewN | apply Kd.R_drew)); exact HO_3.out⟩, ⟨G.bel⟩⟩
        case rest => as_aux_lemma =>
         clear HC77
         try clear c1; try clear p2; try clear c4; try clear c5; try clear c6; try clear p6; try clear c7; try clear p7; try clear q7; try clear hx7; try clear c8; try clear c42; try clear c42b0; try clear c43; try clear c44; try clear c51; try clear c52; try clear c53; try clear c54; try clear c56; try clear c57; try clear c58; try clear c60; try clear p64; try clear c67; try clear c68; try clear p72; try clear q72; try clear hx72; try clear c75; try clear q75; try clear c76; try clear q76; try clear c79; try clear c79b0; try clear c79b1; try clear c81; try clear c81b0; try clear c81b1; try clear c81b2; try clear c85; try clear c87; try clear hcz72_0; try clear hcz72_1; try clear hcz72_2; try clear hfz72_0; try clear hfz72_1; try clear hfz72_2; try clear hx723_0; try clear hx723_1; try clear hx723_2; try clear hx725_0; try clear hx725_1; try clear hx725_2; try clear p723; try clear p725; try clear q075; try clear q076; try clear q723; try clear q725; try clear q75; try clear q76
         obtain ⟨kq, x124_76, rfl, HA, HJ76, HO_3, HB⟩ := hcut
         cases kq with
         | zero => exact absurd HA.out (by simp [laws_FnPowers.j2])
         | succ kj76 =>
          have H := HA.out
          clear HA
          simp only [laws_FnPowers.j2] at H
          by_cases c103 : x124_76 = true
          ·subst c103
           have H1 : (some false) = some r := by rw [if_pos rfl] at H; exact H
           clear H
           have H := H1
           clear H1
           exact absurd ((Option.some.inj H).trans HTrue_.out) (by decide)
          ·replace c103 := Bool.eq_false_iff.mpr c103
           subst c103
           have H1 : ((impl_GreatestExponent.f kj76 t708).bind fun bt740 => ((spec_GreatestExponent.f kj76 t708).bind fun bt742 => ((impl_ExponentOf.f kj76 t708).bind fun bt744 => ((spec_ExponentOf.f kj76 t708).bind fun bt746 => (if bt740.1 = bt742.1 then (if bt740.2 = bt742.2 then (if bt744.1 = bt746.1 then (if bt744.2 = bt746.2 then (if (t708.length : Int) > 0 then (if (t708.length : Int) ≤ 128 then (if (wrap64 (bt742.1 * bt746.2)) < (wrap64 (bt746.1 * bt742.2)) then (laws_FnPowers.j3 kj76 l0 t708 true) else ((impl_HasSquare.f kj76 t708).bind fun t748 => (if (t748 != (decide (bt742.1 ≥ (wrap64 (2 * bt742.2))))) = true then (laws_FnPowers.j3 kj76 l0 t708 true) else ((impl_HasOverlap.f kj76 t708).bind fun t749 => (laws_FnPowers.j3 kj76 l0 t708 (t749 != (decide (bt742.1 > (wrap64 (2 * bt742.2)))))))))) else (laws_FnPowers.j3 kj76 l0 t708 false)) else (laws_FnPowers.j3 kj76 l0 t708 false)) else (laws_FnPowers.j3 kj76 l0 t708 true)) else (laws_FnPowers.j3 kj76 l0 t708 true)) else (laws_FnPowers.j3 kj76 l0 t708 true)) else (laws_FnPowers.j3 kj76 l0 t708 true)))))) = some r := by rw [if_neg (show ¬ (false = true) by decide)] at H; exact H
           clear H
           have H := H1
           clear H1
           replace H := Option.bind_eq_some_iff.mp H
           obtain ⟨⟨t740, t741⟩, A1040, H⟩ := H
           replace H : ((spec_GreatestExponent.f kj76 t708).bind fun bt742 => ((impl_ExponentOf.f kj76 t708).bind fun bt744 => ((spec_ExponentOf.f kj76 t708).bind fun bt746 => (if t740 = bt742.1 then (if t741 = bt742.2 then (if bt744.1 = bt746.1 then (if bt744.2 = bt746.2 then (if (t708.length : Int) > 0 then (if (t708.length : Int) ≤ 128 then (if (wrap64 (bt742.1 * bt746.2)) < (wrap64 (bt746.1 * bt742.2)) then (laws_FnPowers.j3 kj76 l0 t708 true) else ((impl_HasSquare.f kj76 t708).bind fun t748 => (if (t748 != (decide (bt742.1 ≥ (wrap64 (2 * bt742.2))))) = true then (laws_FnPowers.j3 kj76 l0 t708 true) else ((impl_HasOverlap.f kj76 t708).bind fun t749 => (laws_FnPowers.j3 kj76 l0 t708 (t749 != (decide (bt742.1 > (wrap64 (2 * bt742.2)))))))))) else (laws_FnPowers.j3 kj76 l0 t708 false)) else (laws_FnPowers.j3 kj76 l0 t708 false)) else (laws_FnPowers.j3 kj76 l0 t708 true)) else (laws_FnPowers.j3 kj76 l0 t708 true)) else (laws_FnPowers.j3 kj76 l0 t708 true)) else (laws_FnPowers.j3 kj76 l0 t708 true))))) = some r := H
           have A104 := Aside0.mk A1040
           clear A1040
           replace H := Option.bind_eq_some_iff.mp H
           obtain ⟨⟨t742, t743⟩, A1050, H⟩ := H
           replace H : ((impl_ExponentOf.f kj76 t708).bind fun bt744 => ((spec_ExponentOf.f kj76 t708).bind fun bt746 => (if t740 = t742 then (if t741 = t743 then (if bt744.1 = bt746.1 then (if bt744.2 = bt746.2 then (if (t708.length : Int) > 0 then (if (t708.length : Int) ≤ 128 then (if (wrap64 (t742 * bt746.2)) < (wrap64 (bt746.1 * t743)) then (laws_FnPowers.j3 kj76 l0 t708 true) else ((impl_HasSquare.f kj76 t708).bind fun t748 => (if (t748 != (decide (t742 ≥ (wrap64 (2 * t743))))) = true then (laws_FnPowers.j3 kj76 l0 t708 true) else ((impl_HasOverlap.f kj76 t708).bind fun t749 => (laws_FnPowers.j3 kj76 l0 t708 (t749 != (decide (t742 > (wrap64 (2 * t743)))))))))) else (laws_FnPowers.j3 kj76 l0 t708 false)) else (laws_FnPowers.j3 kj76 l0 t708 false)) else (laws_FnPowers.j3 kj76 l0 t708 true)) else (laws_FnPowers.j3 kj76 l0 t708 true)) else (laws_FnPowers.j3 kj76 l0 t708 true)) else (laws_FnPowers.j3 kj76 l0 t708 true)))) = some r := H
           have A105 := Aside0.mk A1050
           clear A1050
           replace H := Option.bind_eq_some_iff.mp H
           obtain ⟨⟨t744, t745⟩, A1060, H⟩ := H
           replace H : ((spec_ExponentOf.f kj76 t708).bind fun bt746 => (if t740 = t742 then (if t741 = t743 then (if t744 = bt746.1 then (if t745 = bt746.2 then (if (t708.length : Int) > 0 then (if (t708.length : Int) ≤ 128 then (if (wrap64 (t742 * bt746.2)) < (wrap64 (bt746.1 * t743)) then (laws_FnPowers.j3 kj76 l0 t708 true) else ((impl_HasSquare.f kj76 t708).bind fun t748 => (if (t748 != (decide (t742 ≥ (wrap64 (2 * t743))))) = true then (laws_FnPowers.j3 kj76 l0 t708 true) else ((impl_HasOverlap.f kj76 t708).bind fun t749 => (laws_FnPowers.j3 kj76 l0 t708 (t749 != (decide (t742 > (wrap64 (2 * t743)))))))))) else (laws_FnPowers.j3 kj76 l0 t708 false)) else (laws_FnPowers.j3 kj76 l0 t708 false)) else (laws_FnPowers.j3 kj76 l0 t708 true)) else (laws_FnPowers.j3 kj76 l0 t708 true)) else (laws_FnPowers.j3 kj76 l0 t708 true)) else (laws_FnPowers.j3 kj76 l0 t708 true))) = some r := H
           have A106 := Aside0.mk A1060
           clear A1060
           replace H := Option.bind_eq_some_iff.mp H
           obtain ⟨⟨t746, t747⟩, A1070, H⟩ := H
           replace H : (if t740 = t742 then (if t741 = t743 then (if t744 = t746 then (if t745 = t747 then (if (t708.length : Int) > 0 then (if (t708.length : Int) ≤ 128 then (if (wrap64 (t742 * t747)) < (wrap64 (t746 * t743)) then (laws_FnPowers.j3 kj76 l0 t708 true) else ((impl_HasSquare.f kj76 t708).bind fun t748 => (if (t748 != (decide (t742 ≥ (wrap64 (2 * t743))))) = true then (laws_FnPowers.j3 kj76 l0 t708 true) else ((impl_HasOverlap.f kj76 t708).bind fun t749 => (laws_FnPowers.j3 kj76 l0 t708 (t749 != (decide (t742 > (wrap64 (2 * t743)))))))))) else (laws_FnPowers.j3 kj76 l0 t708 false)) else (laws_FnPowers.j3 kj76 l0 t708 false)) else (laws_FnPowers.j3 kj76 l0 t708 true)) else (laws_FnPowers.j3 kj76 l0 t708 true)) else (laws_FnPowers.j3 kj76 l0 t708 true)) else (laws_FnPowers.j3 kj76 l0 t708 true)) = some r := H
           have A107 := Aside0.mk A1070
           clear A1070
           have HC108 := Aside0.mk H
           clear H
           go_upto_region 20 with (first | ((with_reducible refine gate_callee (f := 52) rfl ?_); refine goesL_ (some 127) rfl rfl Try.func52 (by kernel_rfl) rfl #[.slice Ao9 t708.length co9] rfl (by (try simp only [List.map_toArray, List.map_cons, List.map_nil]); first | done | rfl | (simp only [List.length_drop, List.length_take]; rfl)) ?_; (with_reducible refine (impl_GreatestExponent.calls kj76 _ _ t708 t740 t741 _ ?side1 ?side2 A104.out).mono ?_); (case side1 => repeat (first | exact (Kd.R_reads' HO_3.out).2.2 | (with_reducible refine Kd.C_alloc ?_ _) | (with_reducible refine Kd.C_drewN ?_ _) | (with_reducible refine Kd.C_drew ?_))); (case side2 => exact (Kd.R_reads' HO_3.out).2.1); rintro e w109 ⟨rfl, hb⟩; refine ⟨_, rfl, ?_⟩; have n0_ := Aside0.mk (Kd.R_below (by (with_reducible repeat (first | apply Kd.R_alloc | apply Kd.R_drewN | apply Kd.R_drew)); exact HO_3.out) hb); have n1_ := Aside0.mk (below_step G.bel hb); clear HO_3; clear HB; have HO_3 := n0_; have HB := n1_; clear n0_ n1_; (try clear hb); (try clear hb2); (try clear hk); (try clear hi)) | ((with_reducible refine gate_callee (f := 53) rfl ?_); refine goesL_ (some 132) rfl rfl Try.func53 (by kernel_rfl) rfl #[.slice Ao9 t708.length co9] rfl (by (try simp only [List.map_toArray, List.map_cons, List.map_nil]); first | done | rfl | (simp only [List.length_drop, List.length_take]; rfl)) ?_; (with_reducible refine (spec_GreatestExponent.calls kj76 _ _ t708 t742 t743 _ ?side1 ?side2 A105.out).mono ?_); (case side1 => repeat (first | exact (Kd.R_reads' HO_3.out).2.2 | (with_reducible refine Kd.C_alloc ?_ _) | (with_reducible refine Kd.C_drewN ?_ _) | (with_reducible refine Kd.C_drew ?_))); (case side2 => exact (Kd.R_reads' HO_3.out).2.1); rintro e w110 ⟨rfl, hb⟩; refine ⟨_, rfl, ?_⟩; have n0_ := Aside0.mk (Kd.R_below (by (with_reducible repeat (first | apply Kd.R_alloc | apply Kd.R_drewN | apply Kd.R_drew)); exact HO_3.out) hb); have n1_ := Aside0.mk (below_step G.bel hb); clear HO_3; clear HB; have HO_3 := n0_; have HB := n1_; clear n0_ n1_; (try clear hb); (try clear hb2); (try clear hk); (try clear hi)) | ((with_reducible refine gate_callee (f := 54) rfl ?_); refine goesL_ (some 137) rfl rfl Try.func54 (by kernel_rfl) rfl #[.slice Ao9 t708.length co9] rfl (by (try simp only [List.map_toArray, List.map_cons, List.map_nil]); first | done | rfl | (simp only [List.length_drop, List.length_take]; rfl)) ?_; (with_reducible refine (impl_ExponentOf.calls kj76 _ _ t708 t744 t745 _ ?side1 ?side2 A106.out).mono ?_); (case side1 => repeat (first | exact (Kd.R_reads' HO_3.out).2.2 | (with_reducible refine Kd.C_alloc ?_ _) | (with_reducible refine Kd.C_drewN ?_ _) | (with_reducible refine Kd.C_drew ?_))); (case side2 => exact (Kd.R_reads' HO_3.out).2.1); rintro e w111 ⟨rfl, hb⟩; refine ⟨_, rfl, ?_⟩; have n0_ := Aside0.mk (Kd.R_below (by (with_reducible repeat (first | apply Kd.R_alloc | apply Kd.R_drewN | apply Kd.R_drew)); exact HO_3.out) hb); have n1_ := Aside0.mk (below_step G.bel hb); clear HO_3; clear HB; have HO_3 := n0_; have HB := n1_; clear n0_ n1_; (try clear hb); (try clear hb2); (try clear hk); (try clear hi)) | ((with_reducible refine gate_callee (f := 55) rfl ?_); refine goesL_ (some 142) rfl rfl Try.func55 (by kernel_rfl) rfl #[.slice Ao9 t708.length co9] rfl (by (try simp only [List.map_toArray, List.map_cons, List.map_nil]); first | done | rfl | (simp only [List.length_drop, List.length_take]; rfl)) ?_; (with_reducible refine (spec_ExponentOf.calls kj76 _ _ t708 t746 t747 _ ?side1 ?side2 A107.out).mono ?_); (case side1 => repeat (first | exact (Kd.R_reads' HO_3.out).2.2 | (with_reducible refine Kd.C_alloc ?_ _) | (with_reducible refine Kd.C_drewN ?_ _) | (with_reducible refine Kd.C_drew ?_))); (case side2 => exact (Kd.R_reads' HO_3.out).2.1); rintro e w112 ⟨rfl, hb⟩; refine ⟨_, rfl, ?_⟩; have n0_ := Aside0.mk (Kd.R_below (by (with_reducible repeat (first | apply Kd.R_alloc | apply Kd.R_drewN | apply Kd.R_drew)); exact HO_3.out) hb); have n1_ := Aside0.mk (below_step G.bel hb); clear HO_3; clear HB; have HO_3 := n0_; have HB := n1_; clear n0_ n1_; (try clear hb); (try clear hb2); (try clear hk); (try clear hi)))
           (try simp only [Act.put, List.setIfInBounds_toArray, List.set_cons_zero, List.set_cons_succ])
           go_cut [199] (fun v199 wc => ∃ (kq : Nat) (x199_107 : Bool), v199 = .bool x199_107 ∧ Aside0 (laws_FnPowers.j3 kq l0 t708 x199_107 = some r) ∧ Aside0 (kq ≤ kj76) ∧ Aside0 (Kd.R (Kd.int .i64) 3 wc w.heap.size (fun _ => True) (.slice Ao9 t708.length co9) t708) ∧ Aside0 (Below w.heap.size w wc))
           case first => as_aux_lemma =>
            have H := HC108.out
            clear HC108
            by_cases c113 : t740 = t742
            ·rw [if_pos c113] at H
             have c113b0 : (t740 == t742) = true := beq_iff_eq.mpr c113
             have c113b1 : (t740 != t742) = false := bne_eq_false_iff_eq.mpr c113
             clear c113
             (first | rw [c113b0] | (simp only [i64_w, i32_w]; rw [c113b0]) | skip)
             by_cases c114 : t741 = t743
             ·rw [if_pos c114] at H
              have c114b0 : (t741 == t743) = true := beq_iff_eq.mpr c114
              have c114b1 : (t741 != t743) = false := bne_eq_false_iff_eq.mpr c114
              clear c114
              by_cases c115 : t744 = t746
              ·rw [if_pos c115] at H
               have c115b0 : (t744 == t746) = true := beq_iff_eq.mpr c115
               have c115b1 : (t744 != t746) = false := bne_eq_false_iff_eq.mpr c115
               clear c115
               by_cases c116 : t745 = t747
               ·rw [if_pos c116] at H
                have c116b0 : (t745 == t747) = true := beq_iff_eq.mpr c116
                have c116b1 : (t745 != t747) = false := bne_eq_false_iff_eq.mpr c116
                clear c116
                by_cases c117 : (t708.length : Int) > 0
                ·rw [if_pos c117] at H
                 have c117b0 : decide (0 < (t708.length : Int)) = true := decide_eq_true c117
                 have c117b1 : decide (0 < t708.length) = true := decide_eq_true (by omega)
                 clear c117
                 by_cases c118 : (t708.length : Int) ≤ 128
                 ·rw [if_pos c118] at H
                  have c118b0 : decide ((t708.length : Int) ≤ 128) = true := decide_eq_true c118
                  have c118b1 : decide (t708.length ≤ 128) = true := decide_eq_true (by omega)
                  clear c118
                  by_cases c119 : (wrap64 (t742 * t747)) < (wrap64 (t746 * t743))
                  ·rw [if_pos c119] at H
                   exact absurd (H.trans (congrArg some HTrue_.out)) (laws_FnPowers.j3_no _ _ _)
                  ·rw [if_neg c119] at H
                   have c119b0 : decide ((wrap64 (t742 * t747)) < (wrap64 (t746 * t743))) = false := decide_eq_false c119
                   clear c119
                   replace H := Option.bind_eq_some_iff.mp H
                   obtain ⟨t748, A1200, H⟩ := H
                   replace H : (if (t748 != (decide (t742 ≥ (wrap64 (2 * t743))))) = true then (laws_FnPowers.j3 kj76 l0 t708 true) else ((impl_HasOverlap.f kj76 t708).bind fun t749 => (laws_FnPowers.j3 kj76 l0 t708 (t749 != (decide (t742 > (wrap64 (2 * t743)))))))) = some r := H
                   have A120 := Aside0.mk A1200
                   clear A1200
                   by_cases c121 : (t748 != (decide (t742 ≥ (wrap64 (2 * t743))))) = true
                   ·rw [if_pos c121] at H
                    exact absurd (H.trans (congrArg some HTrue_.out)) (laws_FnPowers.j3_no _ _ _)
                   ·rw [if_neg c121] at H
                    have c121b0 : (t748 != (decide (t742 ≥ (wrap64 (2 * t743))))) = false := by simpa using c121
                    (try (have c121b1 : decide (t748 = (decide (t742 ≥ (wrap64 (2 * t743))))) = true := by simpa using c121))
                    (try (have c121b2 : (t748 == (decide (t742 ≥ (wrap64 (2 * t743))))) = true := by simpa using c121))
                    clear c121
                    replace H := Option.bind_eq_some_iff.mp H
                    obtain ⟨t749, A1230, H⟩ := H
                    replace H : (laws_FnPowers.j3 kj76 l0 t708 (t749 != (decide (t742 > (wrap64 (2 * t743)))))) = some r := H
                    have A123 := Aside0.mk A1230
                    clear A1230
                    have H' := Aside0.mk H
                    clear H
                    go_wp2_with (first | (go_at_call 45; (with_reducible refine (impl_HasSquare.calls kj76 _ _ t708 t748 _ ?side1 ?side2 A120.out).mono ?_); (case side1 => repeat (first | exact (Kd.R_reads' HO_3.out).2.2 | (with_reducible refine Kd.C_alloc ?_ _) | (with_reducible refine Kd.C_drewN ?_ _) | (with_reducible refine Kd.C_drew ?_))); (case side2 => exact (Kd.R_reads' HO_3.out).2.1); rintro e w124 ⟨rfl, hb⟩; have n0_ := Aside0.mk (Kd.R_below (by (with_reducible repeat (first | apply Kd.R_alloc | apply Kd.R_drewN | apply Kd.R_drew)); exact HO_3.out) hb); have n1_ := Aside0.mk (below_step G.bel hb); clear HO_3; clear HB; have HO_3 := n0_; have HB := n1_; clear n0_ n1_; (try clear hb); (try clear hb2); (try clear hk); (try clear hi)) | (go_at_call 47; (with_reducible refine (impl_HasOverlap.calls kj76 _ _ t708 t749 _ ?side1 ?side2 A123.out).mono ?_); (case side1 => repeat (first | exact (Kd.R_reads' HO_3.out).2.2 | (with_reducible refine Kd.C_alloc ?_ _) | (with_reducible refine Kd.C_drewN ?_ _) | (with_reducible refine Kd.C_drew ?_))); (case side2 => exact (Kd.R_reads' HO_3.out).2.1); rintro e w125 ⟨rfl, hb⟩; have n0_ := Aside0.mk (Kd.R_below (by (with_reducible repeat (first | apply Kd.R_alloc | apply Kd.R_drewN | apply Kd.R_drew)); exact HO_3.out) hb); have n1_ := Aside0.mk (below_step G.bel hb); clear HO_3; clear HB; have HO_3 := n0_; have HB := n1_; clear n0_ n1_; (try clear hb); (try clear hb2); (try clear hk); (try clear hi)))
                    go_meet
                    case rel => exact ⟨_, ((t749 != (decide (t742 > (wrap64 (2 * t743)))))), (by first | rfl | (simp; done) | (simp [*]; done)), H', ⟨by have := HJ6.out; have := HK2.out; have := HJ76.out; first | omega | exact Nat.le_refl _⟩, ⟨by (with_reducible repeat (first | apply Kd.R_alloc | apply Kd.R_drewN | apply Kd.R_drew)); exact HO_3.out⟩, ⟨G.bel⟩⟩
                 ·rw [if_neg c118] at H
                  have c118b0 : decide ((t708.length : Int) ≤ 128) = false := decide_eq_false c118
                  have c118b1 : decide (t708.length ≤ 128) = false := decide_eq_false (by omega)
                  clear c118
                  have H' := Aside0.mk H
                  clear H
                  go_wp2
                  go_meet
                  case rel => exact ⟨_, (false), (by first | rfl | (simp; done) | (simp [*]; done)), H', ⟨by have := HJ6.out; have := HK2.out; have := HJ76.out; first | omega | exact Nat.le_refl _⟩, ⟨by (with_reducible repeat (first | apply Kd.R_alloc | apply Kd.R_drewN | apply Kd.R_drew)); exact HO_3.out⟩, ⟨G.bel⟩⟩
                ·rw [if_neg c117] at H
                 have c117b0 : decide (0 < (t708.length : Int)) = false := decide_eq_false c117
                 have c117b1 : decide (0 < t708.length) = false := decide_eq_false (by omega)
                 clear c117
                 have H' := Aside0.mk H
                 clear H
                 go_wp2
                 go_meet
                 case rel => exact ⟨_, (false), (by first | rfl | (simp; done) | (simp [*]; done)), H', ⟨by have := HJ6.out; have := HK2.out; have := HJ76.out; first | omega | exact Nat.le_refl _⟩, ⟨by (with_reducible repeat (first | apply Kd.R_alloc | apply Kd.R_drewN | apply Kd.R_drew)); exact HO_3.out⟩, ⟨G.bel⟩⟩
               ·rw [if_neg c116] at H
                exact absurd (H.trans (congrArg some HTrue_.out)) (laws_FnPowers.j3_no _ _ _)
              ·rw [if_neg c115] at H
               exact absurd (H.trans (congrArg some HTrue_.out)) (laws_FnPowers.j3_no _ _ _)
             ·rw [if_neg c114] at H
              exact absurd (H.trans (congrArg some HTrue_.out)) (laws_FnPowers.j3_no _ _ _)
            ·rw [if_neg c113] at H
             exact absurd (H.trans (congrArg some HTrue_.out)) (laws_FnPowers.j3_no _ _ _)
           case rest => as_aux_lemma =>
            clear HC108
            try clear c1; try clear p2; try clear c4; try clear c5; try clear c6; try clear p6; try clear c7; try clear p7; try clear q7; try clear hx7; try clear c8; try clear c10; try clear c11; try clear c12; try clear c42; try clear c42b0; try clear c43; try clear c44; try clear c51; try clear c52; try clear c53; try clear c54; try clear c55; try clear c56; try clear c57; try clear c58; try clear c60; try clear p64; try clear c67; try clear c68; try clear p72; try clear q72; try clear hx72; try clear c75; try clear q75; try clear c76; try clear q76; try clear c79; try clear c79b0; try clear c79b1; try clear c81; try clear c81b0; try clear c81b1; try clear c81b2; try clear c85; try clear c87; try clear c103; try clear c113; try clear c113b0; try clear c113b1; try clear c114; try clear c114b0; try clear c114b1; try clear c115; try clear c115b0; try clear c115b1; try clear c116; try clear c116b0; try clear c116b1; try clear c117; try clear c117b0; try clear c117b1; try clear c118; try clear c118b0; try clear c118b1; try clear c119; try clear c119b0; try clear c121; try clear c121b0; try clear c121b1; try clear c121b2; try clear hcz72_0; try clear hcz72_1; try clear hcz72_2; try clear hfz72_0; try clear hfz72_1; try clear hfz72_2; try clear hx723_0; try clear hx723_1; try clear hx723_2; try clear hx725_0; try clear hx725_1; try clear hx725_2; try clear p2; try clear p6; try clear p64; try clear p7; try clear p72; try clear p723; try clear p725; try clear q075; try clear q076; try clear q7; try clear q72; try clear q723; try clear q725; try clear q75; try clear q76
            obtain ⟨kq, x199_107, rfl, HA, HJ107, HO_3, HB⟩ := hcut
            cases kq with
            | zero => exact absurd HA.out (by simp [laws_FnPowers.j3])
            | succ kj107 =>
             have H := HA.out
             clear HA
             simp only [laws_FnPowers.j3] at H
             by_cases c126 : x199_107 = true
             ·subst c126
              have H1 : (some false) = some r := by rw [if_pos rfl] at H; exact H
              clear H
              have H := H1
              clear H1
              exact absurd ((Option.some.inj H).trans HTrue_.out) (by decide)
             ·replace c126 := Bool.eq_false_iff.mpr c126
              subst c126
              have H1 : ((impl_ShortestSquare.f kj107 t708).bind fun bt750 => ((spec_ShortestSquare.f kj107 t708).bind fun bt755 => (G.draw spec_DrawHasPower.Ok fun kj107 bt760 => (if (bt750.2.2.2 == bt755.2.2.2) = true then (if (bt750.1 == bt755.1 && (bt750.2.1 == bt755.2.1 && (bt750.2.2.1 == bt755.2.2.1))) = true then ((impl_HasPower.f kj107 bt760.1 bt760.2.1 bt760.2.2).bind fun t765 => ((spec_HasPower.f kj107 bt760.1 bt760.2.1 bt760.2.2).bind fun t766 => (some (t765 == t766)))) else (some false)) else (some false))))) = some r := by rw [if_neg (show ¬ (false = true) by decide)] at H; exact H
              clear H
              have H := H1
              clear H1
              replace H := Option.bind_eq_some_iff.mp H
              obtain ⟨⟨t750, t751, t752, t753⟩, A1270, H⟩ := H
              replace H : ((spec_ShortestSquare.f kj107 t708).bind fun bt755 => (G.draw spec_DrawHasPower.Ok fun kj107 bt760 => (if (t753 == bt755.2.2.2) = true then (if (t750 == bt755.1 && (t751 == bt755.2.1 && (t752 == bt755.2.2.1))) = true then ((impl_HasPower.f kj107 bt760.1 bt760.2.1 bt760.2.2).bind fun t765 => ((spec_HasPower.f kj107 bt760.1 bt760.2.1 bt760.2.2).bind fun t766 => (some (t765 == t766)))) else (some false)) else (some false)))) = some r := H
              have A127 := Aside0.mk A1270
              clear A1270
              replace H := Option.bind_eq_some_iff.mp H
              obtain ⟨⟨t755, t756, t757, t758⟩, A1280, H⟩ := H
              replace H : (G.draw spec_DrawHasPower.Ok fun kj107 bt760 => (if (t753 == t758) = true then (if (t750 == t755 && (t751 == t756 && (t752 == t757))) = true then ((impl_HasPower.f kj107 bt760.1 bt760.2.1 bt760.2.2).bind fun t765 => ((spec_HasPower.f kj107 bt760.1 bt760.2.1 bt760.2.2).bind fun t766 => (some (t765 == t766)))) else (some false)) else (some false))) = some r := H
              have A128 := Aside0.mk A1280
              clear A1280
              go_upto_region 25 with (first | ((with_reducible refine gate_callee (f := 56) rfl ?_); refine goesL_ (some 202) rfl rfl Try.func56 (by kernel_rfl) rfl #[.slice Ao9 t708.length co9] rfl (by (try simp only [List.map_toArray, List.map_cons, List.map_nil]); first | done | rfl | (simp only [List.length_drop, List.length_take]; rfl)) ?_; (with_reducible refine (impl_ShortestSquare.calls kj107 _ _ t708 t750 t751 t752 t753 _ ?side1 ?side2 A127.out).mono ?_); (case side1 => repeat (first | exact (Kd.R_reads' HO_3.out).2.2 | (with_reducible refine Kd.C_alloc ?_ _) | (with_reducible refine Kd.C_drewN ?_ _) | (with_reducible refine Kd.C_drew ?_))); (case side2 => exact (Kd.R_reads' HO_3.out).2.1); rintro e w134 ⟨rfl, hb⟩; refine ⟨_, rfl, ?_⟩; have n0_ := Aside0.mk (Kd.R_below (by (with_reducible repeat (first | apply Kd.R_alloc | apply Kd.R_drewN | apply Kd.R_drew)); exact HO_3.out) hb); have n1_ := Aside0.mk (below_step G.bel hb); clear HO_3; clear HB; have HO_3 := n0_; have HB := n1_; clear n0_ n1_; (try clear hb); (try clear hb2); (try clear hk); (try clear hi)) | ((with_reducible refine gate_dst (N := 16) rfl ?_); (try (refine gate_guard (by rfl) ?_; dsimp only)); refine box_event ?hg (N := 16) ?hd (cs := #[.int .i64 0, .int .i64 0, .int .i64 0]) (t := 55) ?hr ?_; (case hd => rfl); (case hg => rfl); (case hr => first | (go_simp; done) | (go_simp; rfl)); intro gb754 hg w135 hbox hb; have n0_ := Aside0.mk (Kd.R_below (by (with_reducible repeat (first | apply Kd.R_alloc | apply Kd.R_drewN | apply Kd.R_drew)); exact HO_3.out) hb); have n1_ := Aside0.mk (below_step G.bel hb); have n2_ := Aside0.mk (hbox); have n3_ := Aside0.mk ((by rw [hg]; exact (below_size G.bel) : w.heap.size ≤ gb754)); have n4_ := Aside0.mk ((by rw [hg]; exact (below_size G.bel) : w.heap.size ≤ gb754)); clear HO_3; clear HB; have HO_3 := n0_; have HB := n1_; have BK754 := n2_; have GW754 := n3_; have GE754 := n4_; clear n0_ n1_ n2_ n3_ n4_; clear hb hbox hg; have hcz136_0 : w135.cell? ⟨gb754, 0, none⟩ = some (.int .i64 0) := (blk_cell BK754.out 0).trans rfl; have hcz136_1 : w135.cell? ⟨gb754, 1, none⟩ = some (.int .i64 0) := (blk_cell BK754.out 1).trans rfl; have hcz136_2 : w135.cell? ⟨gb754, 2, none⟩ = some (.int .i64 0) := (blk_cell BK754.out 2).trans rfl; have hfz136_0 := blk_frozen BK754.out 0; have hfz136_1 := blk_frozen BK754.out 1; have hfz136_2 := blk_frozen BK754.out 2) | ((with_reducible refine gate_callee (f := 57) rfl ?_); refine goesL_ (some 207) rfl rfl Try.func57 (by kernel_rfl) rfl #[.slice Ao9 t708.length co9] rfl (by (try simp only [List.map_toArray, List.map_cons, List.map_nil]); first | done | rfl | (simp only [List.length_drop, List.length_take]; rfl)) ?_; (with_reducible refine (spec_ShortestSquare.calls kj107 _ _ t708 t755 t756 t757 t758 _ ?side1 ?side2 A128.out).mono ?_); (case side1 => refine (Kd.R_reads' (e := 3) (base := w.heap.size) (ok := fun k_ => True) (n := t708.length) (c := co9) ?_).2.2; exact (by (with_reducible repeat (first | apply Kd.R_alloc | apply Kd.R_drewN | apply Kd.R_drew)); exact (Kd.R_mono (Kd.R_far (p := ⟨gb754, 2, none⟩) (Kd.R_far (p := ⟨gb754, 1, none⟩) (Kd.R_far (p := ⟨gb754, 0, none⟩) (Kd.R_types HO_3.out BK754.out (by decide)) (fun _ hk => hk.2) (.int .i64 t750)) (fun _ hk => hk.2) (.int .i64 t751)) (fun _ hk => hk.2) (.int .i64 t752)) (fun _ h_ => h_.1)))); (case side2 => exact (Kd.R_reads' HO_3.out).2.1); rintro e w137 ⟨rfl, hb⟩; refine ⟨_, rfl, ?_⟩; have n0_ := Aside0.mk (Kd.R_below (by (with_reducible repeat (first | apply Kd.R_alloc | apply Kd.R_drewN | apply Kd.R_drew)); exact (Kd.R_mono (Kd.R_far (p := ⟨gb754, 2, none⟩) (Kd.R_far (p := ⟨gb754, 1, none⟩) (Kd.R_far (p := ⟨gb754, 0, none⟩) (Kd.R_types HO_3.out BK754.out (by decide)) (fun _ hk => hk.2) (.int .i64 t750)) (fun _ hk => hk.2) (.int .i64 t751)) (fun _ hk => hk.2) (.int .i64 t752)) (fun _ h_ => h_.1))) hb); have n1_ := Aside0.mk (blk_below (g := gb754) (o := .cells #[.int .i64 t750, .int .i64 t751, .int .i64 t752] 55 (0, 0)) (by (with_reducible repeat (first | refine blk_drewN ?_ _ | refine blk_drew ?_ | refine blk_alloc ?_ _)); refine blk_put (cs := #[.int .i64 t750, .int .i64 t751, .int .i64 0]) ?_ 2 _ rfl; (with_reducible repeat (first | refine blk_drewN ?_ _ | refine blk_drew ?_ | refine blk_alloc ?_ _)); refine blk_put (cs := #[.int .i64 t750, .int .i64 0, .int .i64 0]) ?_ 1 _ rfl; (with_reducible repeat (first | refine blk_drewN ?_ _ | refine blk_drew ?_ | refine blk_alloc ?_ _)); refine blk_put (cs := #[.int .i64 0, .int .i64 0, .int .i64 0]) ?_ 0 _ rfl; (with_reducible repeat (first | refine blk_drewN ?_ _ | refine blk_drew ?_ | refine blk_alloc ?_ _)); exact BK754.out) hb); have n2_ := Aside0.mk (below_step (by repeat (first | (with_reducible first | exact HB.out | apply below_alloc | apply pw_below_drewN | apply below_drew1 | refine below_set ?_ GE754.out) | exact HB.out)) hb); clear HO_3; clear BK754; clear HB; have HO_3 := n0_; have BK754 := n1_; have HB := n2_; clear n0_ n1_ n2_; (try clear hb); (try clear hb2); (try clear hk); (try clear hi)) | ((with_reducible refine gate_dst (N := 18) rfl ?_); (try (refine gate_guard (by rfl) ?_; dsimp only)); refine box_event ?hg (N := 18) ?hd (cs := #[.int .i64 0, .int .i64 0, .int .i64 0]) (t := 55) ?hr ?_; (case hd => rfl); (case hg => rfl); (case hr => first | (go_simp; done) | (go_simp; rfl)); intro gb759 hg w138 hbox hb; have n0_ := Aside0.mk (Kd.R_below (by (with_reducible repeat (first | apply Kd.R_alloc | apply Kd.R_drewN | apply Kd.R_drew)); exact HO_3.out) hb); have n1_ := Aside0.mk (blk_below (g := gb754) (o := .cells #[.int .i64 t750, .int .i64 t751, .int .i64 t752] 55 (0, 0)) (by (with_reducible repeat (first | refine blk_drewN ?_ _ | refine blk_drew ?_ | refine blk_alloc ?_ _)); exact BK754.out) hb); have n2_ := Aside0.mk (below_step (by repeat (first | (with_reducible first | exact HB.out | apply below_alloc | apply pw_below_drewN | apply below_drew1 | refine below_set ?_ GE754.out) | exact HB.out)) hb); have n3_ := Aside0.mk (hbox); have n4_ := Aside0.mk ((by rw [hg]; exact (below_size (by repeat (first | (with_reducible first | exact HB.out | apply below_alloc | apply pw_below_drewN | apply below_drew1 | refine below_set ?_ GE754.out) | exact HB.out))) : w.heap.size ≤ gb759)); have n5_ := Aside0.mk ((by rw [hg]; exact (below_size (by repeat (first | (with_reducible first | exact HB.out | apply below_alloc | apply pw_below_drewN | apply below_drew1 | refine below_set ?_ GE754.out) | exact HB.out))) : w.heap.size ≤ gb759)); have n6_ := Aside0.mk ((by rw [hg]; exact Nat.ne_of_lt (blk_lt (g := gb754) (o := .cells #[.int .i64 t750, .int .i64 t751, .int .i64 t752] 55 (0, 0)) (by (with_reducible repeat (first | refine blk_drewN ?_ _ | refine blk_drew ?_ | refine blk_alloc ?_ _)); exact BK754.out)) : gb754 ≠ gb759)); have n7_ := Aside0.mk ((by rw [hg]; exact Nat.ne_of_gt (blk_lt (g := gb754) (o := .cells #[.int .i64 t750, .int .i64 t751, .int .i64 t752] 55 (0, 0)) (by (with_reducible repeat (first | refine blk_drewN ?_ _ | refine blk_drew ?_ | refine blk_alloc ?_ _)); exact BK754.out)) : gb759 ≠ gb754)); clear HO_3; clear BK754; clear HB; have HO_3 := n0_; have BK754 := n1_; have HB := n2_; have BK759 := n3_; have GW759 := n4_; have GE759 := n5_; have NB754_759 := n6_; have NB759_754 := n7_; clear n0_ n1_ n2_ n3_ n4_ n5_ n6_ n7_; clear hb hbox hg; have hnb139 := NB759_754.out; have hnc139 := NB754_759.out; have hcz140_0 : w138.cell? ⟨gb759, 0, none⟩ = some (.int .i64 0) := (blk_cell BK759.out 0).trans rfl; have hcz140_1 : w138.cell? ⟨gb759, 1, none⟩ = some (.int .i64 0) := (blk_cell BK759.out 1).trans rfl; have hcz140_2 : w138.cell? ⟨gb759, 2, none⟩ = some (.int .i64 0) := (blk_cell BK759.out 2).trans rfl; have hfz140_0 := blk_frozen BK759.out 0; have hfz140_1 := blk_frozen BK759.out 1; have hfz140_2 := blk_frozen BK759.out 2) | ((with_reducible refine gate_callee (f := 58) rfl ?_); refine goesL_ (some 212) rfl rfl Try.func58 (by kernel_rfl) rfl #[.slice A0 l0.length c0] rfl (by (try simp only [List.map_toArray, List.map_cons, List.map_nil]); first | done | rfl | (simp only [List.length_drop, List.length_take]; rfl)) ?_; (with_reducible refine (spec_DrawHasPower.any _ _ l0 _ ?side1 ?side2 ?side3).mono ?_); (case side3 => exact HBIG_.out); (case side1 => exact Kd.C_below HR0.out (by repeat (first | (with_reducible first | exact HB.out | apply below_alloc | apply pw_below_drewN | apply below_drew1 | refine below_set ?_ GE754.out | refine below_set ?_ GE759.out) | exact HB.out))); (case side2 => exact HC0.out); rintro e w141 ⟨t760, t761, t762, v763, hw_, rfl, ho0, hb⟩; have A129 := Aside0.mk hw_; clear hw_; refine ⟨_, rfl, ?_⟩; have n0_ := Aside0.mk (Kd.R_elder' (by (with_reducible repeat (first | apply Kd.R_alloc | apply Kd.R_drewN | apply Kd.R_drew)); exact (Kd.R_mono (Kd.R_far (p := ⟨gb759, 2, none⟩) (Kd.R_far (p := ⟨gb759, 1, none⟩) (Kd.R_far (p := ⟨gb759, 0, none⟩) (Kd.R_types HO_3.out BK759.out (by decide)) (fun _ hk => hk.2) (.int .i64 t755)) (fun _ hk => hk.2) (.int .i64 t756)) (fun _ hk => hk.2) (.int .i64 t757)) (fun _ h_ => h_.1))) (Kd.R_base ho0) hb); have n1_ := Aside0.mk (Kd.R_lower (Kd.R_new' ho0 (Kd.R_lt (by (with_reducible repeat (first | apply Kd.R_alloc | apply Kd.R_drewN | apply Kd.R_drew)); exact (Kd.R_mono (Kd.R_far (p := ⟨gb759, 2, none⟩) (Kd.R_far (p := ⟨gb759, 1, none⟩) (Kd.R_far (p := ⟨gb759, 0, none⟩) (Kd.R_types HO_3.out BK759.out (by decide)) (fun _ hk => hk.2) (.int .i64 t755)) (fun _ hk => hk.2) (.int .i64 t756)) (fun _ hk => hk.2) (.int .i64 t757)) (fun _ h_ => h_.1))))) (below_size (by repeat (first | (with_reducible first | exact HB.out | apply below_alloc | apply pw_below_drewN | apply below_drew1 | refine below_set ?_ GE754.out | refine below_set ?_ GE759.out) | exact HB.out)))); have n2_ := Aside0.mk (blk_below (g := gb754) (o := .cells #[.int .i64 t750, .int .i64 t751, .int .i64 t752] 55 (0, 0)) (by (with_reducible repeat (first | refine blk_drewN ?_ _ | refine blk_drew ?_ | refine blk_alloc ?_ _)); refine blk_far ?_ NB754_759.out _; (with_reducible repeat (first | refine blk_drewN ?_ _ | refine blk_drew ?_ | refine blk_alloc ?_ _)); refine blk_far ?_ NB754_759.out _; (with_reducible repeat (first | refine blk_drewN ?_ _ | refine blk_drew ?_ | refine blk_alloc ?_ _)); refine blk_far ?_ NB754_759.out _; (with_reducible repeat (first | refine blk_drewN ?_ _ | refine blk_drew ?_ | refine blk_alloc ?_ _)); exact BK754.out) hb); have n3_ := Aside0.mk (blk_below (g := gb759) (o := .cells #[.int .i64 t755, .int .i64 t756, .int .i64 t757] 55 (0, 0)) (by (with_reducible repeat (first | refine blk_drewN ?_ _ | refine blk_drew ?_ | refine blk_alloc ?_ _)); refine blk_put (cs := #[.int .i64 t755, .int .i64 t756, .int .i64 0]) ?_ 2 _ rfl; (with_reducible repeat (first | refine blk_drewN ?_ _ | refine blk_drew ?_ | refine blk_alloc ?_ _)); refine blk_put (cs := #[.int .i64 t755, .int .i64 0, .int .i64 0]) ?_ 1 _ rfl; (with_reducible repeat (first | refine blk_drewN ?_ _ | refine blk_drew ?_ | refine blk_alloc ?_ _)); refine blk_put (cs := #[.int .i64 0, .int .i64 0, .int .i64 0]) ?_ 0 _ rfl; (with_reducible repeat (first | refine blk_drewN ?_ _ | refine blk_drew ?_ | refine blk_alloc ?_ _)); exact BK759.out) hb); have n4_ := Aside0.mk (below_step (by repeat (first | (with_reducible first | exact HB.out | apply below_alloc | apply pw_below_drewN | apply below_drew1 | refine below_set ?_ GE754.out | refine below_set ?_ GE759.out) | exact HB.out)) hb); clear HO_3; clear BK754; clear BK759; clear HB; have HO_3 := n0_; have HO764 := n1_; have BK754 := n2_; have BK759 := n3_; have HB := n4_; clear n0_ n1_ n2_ n3_ n4_; (try clear hb); (try clear hb2); (try clear hk); (try clear hi); (try clear ho0); have hcz142_0 : w141.cell? ⟨gb754, 0, none⟩ = some (.int .i64 t750) := (blk_cell BK754.out 0).trans rfl; have hcz142_1 : w141.cell? ⟨gb754, 1, none⟩ = some (.int .i64 t751) := (blk_cell BK754.out 1).trans rfl; have hcz142_2 : w141.cell? ⟨gb754, 2, none⟩ = some (.int .i64 t752) := (blk_cell BK754.out 2).trans rfl; have hfz142_0 := blk_frozen BK754.out 0; have hfz142_1 := blk_frozen BK754.out 1; have hfz142_2 := blk_frozen BK754.out 2; have hcz143_0 : w141.cell? ⟨gb759, 0, none⟩ = some (.int .i64 t755) := (blk_cell BK759.out 0).trans rfl; have hcz143_1 : w141.cell? ⟨gb759, 1, none⟩ = some (.int .i64 t756) := (blk_cell BK759.out 1).trans rfl; have hcz143_2 : w141.cell? ⟨gb759, 2, none⟩ = some (.int .i64 t757) := (blk_cell BK759.out 2).trans rfl; have hfz143_0 := blk_frozen BK759.out 0; have hfz143_1 := blk_frozen BK759.out 1; have hfz143_2 := blk_frozen BK759.out 2; obtain ⟨Ao144, co144, eo144⟩ := Kd.R_slice HO764.out; subst eo144))
              obtain ⟨kj107, H⟩ := G.draw_out H (t760, t761, t762) A129.out
              replace H : (if (t753 == t758) = true then (if (t750 == t755 && (t751 == t756 && (t752 == t757))) = true then ((impl_HasPower.f kj107 t760 t761 t762).bind fun t765 => ((spec_HasPower.f kj107 t760 t761 t762).bind fun t766 => (some (t765 == t766)))) else (some false)) else (some false)) = some r := H
              by_cases c130 : (t753 == t758) = true
              ·rw [if_pos c130] at H
               have c130b0 : (t753 == t758) = true := c130
               (try (have c130b1 : decide (t753 = t758) = true := by simpa using c130))
               (try (have c130b2 : (t753 == t758) = true := by simpa using c130))
               clear c130
               by_cases c131 : (t750 == t755 && (t751 == t756 && (t752 == t757))) = true
               ·rw [if_pos c131] at H
                have c131b0 : (t750 == t755 && (t751 == t756 && (t752 == t757))) = true := c131
                (try (have c131b1 : decide (t750 = t755 && (t751 == t756 && (t752 == t757))) = true := by simpa using c131))
                (try (have c131b2 : (t750 == t755 && (t751 == t756 && (t752 == t757))) = true := by simpa using c131))
                clear c131
                replace H := Option.bind_eq_some_iff.mp H
                obtain ⟨t765, A1320, H⟩ := H
                replace H : ((spec_HasPower.f kj107 t760 t761 t762).bind fun t766 => (some (t765 == t766))) = some r := H
                have A132 := Aside0.mk A1320
                clear A1320
                replace H := Option.bind_eq_some_iff.mp H
                obtain ⟨t766, A1330, H⟩ := H
                replace H : (some (t765 == t766)) = some r := H
                have A133 := Aside0.mk A1330
                clear A1330
                obtain rfl := Option.some.inj H
                go_wp2_with (first | (go_at_call 59; (with_reducible refine (impl_HasPower.calls kj107 _ _ t760 t761 t762 t765 _ ?side1 ?side2 A132.out).mono ?_); (case side1 => repeat (first | exact (Kd.R_reads' HO764.out).2.2 | (with_reducible refine Kd.C_alloc ?_ _) | (with_reducible refine Kd.C_drewN ?_ _) | (with_reducible refine Kd.C_drew ?_))); (case side2 => exact (Kd.R_reads' HO764.out).2.1); rintro e w145 ⟨rfl, hb⟩; have n0_ := Aside0.mk (Kd.R_below (by (with_reducible repeat (first | apply Kd.R_alloc | apply Kd.R_drewN | apply Kd.R_drew)); exact HO_3.out) hb); have n1_ := Aside0.mk (Kd.R_below (by (with_reducible repeat (first | apply Kd.R_alloc | apply Kd.R_drewN | apply Kd.R_drew)); exact HO764.out) hb); have n2_ := Aside0.mk (blk_below (g := gb754) (o := .cells #[.int .i64 t750, .int .i64 t751, .int .i64 t752] 55 (0, 0)) (by (with_reducible repeat (first | refine blk_drewN ?_ _ | refine blk_drew ?_ | refine blk_alloc ?_ _)); exact BK754.out) hb); have n3_ := Aside0.mk (blk_below (g := gb759) (o := .cells #[.int .i64 t755, .int .i64 t756, .int .i64 t757] 55 (0, 0)) (by (with_reducible repeat (first | refine blk_drewN ?_ _ | refine blk_drew ?_ | refine blk_alloc ?_ _)); exact BK759.out) hb); have n4_ := Aside0.mk (below_step (by repeat (first | (with_reducible first | exact HB.out | apply below_alloc | apply pw_below_drewN | apply below_drew1 | refine below_set ?_ GE754.out | refine below_set ?_ GE759.out) | exact HB.out)) hb); clear HO_3; clear HO764; clear BK754; clear BK759; clear HB; have HO_3 := n0_; have HO764 := n1_; have BK754 := n2_; have BK759 := n3_; have HB := n4_; clear n0_ n1_ n2_ n3_ n4_; (try clear hb); (try clear hb2); (try clear hk); (try clear hi)) | (go_at_call 60; (with_reducible refine (spec_HasPower.calls kj107 _ _ t760 t761 t762 t766 _ ?side1 ?side2 A133.out).mono ?_); (case side1 => repeat (first | exact (Kd.R_reads' HO764.out).2.2 | (with_reducible refine Kd.C_alloc ?_ _) | (with_reducible refine Kd.C_drewN ?_ _) | (with_reducible refine Kd.C_drew ?_))); (case side2 => exact (Kd.R_reads' HO764.out).2.1); rintro e w146 ⟨rfl, hb⟩; have n0_ := Aside0.mk (Kd.R_below (by (with_reducible repeat (first | apply Kd.R_alloc | apply Kd.R_drewN | apply Kd.R_drew)); exact HO_3.out) hb); have n1_ := Aside0.mk (Kd.R_below (by (with_reducible repeat (first | apply Kd.R_alloc | apply Kd.R_drewN | apply Kd.R_drew)); exact HO764.out) hb); have n2_ := Aside0.mk (blk_below (g := gb754) (o := .cells #[.int .i64 t750, .int .i64 t751, .int .i64 t752] 55 (0, 0)) (by (with_reducible repeat (first | refine blk_drewN ?_ _ | refine blk_drew ?_ | refine blk_alloc ?_ _)); exact BK754.out) hb); have n3_ := Aside0.mk (blk_below (g := gb759) (o := .cells #[.int .i64 t755, .int .i64 t756, .int .i64 t757] 55 (0, 0)) (by (with_reducible repeat (first | refine blk_drewN ?_ _ | refine blk_drew ?_ | refine blk_alloc ?_ _)); exact BK759.out) hb); have n4_ := Aside0.mk (below_step (by repeat (first | (with_reducible first | exact HB.out | apply below_alloc | apply pw_below_drewN | apply below_drew1 | refine below_set ?_ GE754.out | refine below_set ?_ GE759.out) | exact HB.out)) hb); clear HO_3; clear HO764; clear BK754; clear BK759; clear HB; have HO_3 := n0_; have HO764 := n1_; have BK754 := n2_; have BK759 := n3_; have HB := n4_; clear n0_ n1_ n2_ n3_ n4_; (try clear hb); (try clear hb2); (try clear hk); (try clear hi)))
                go_ret
                exact ⟨by first | rfl | (simp [errW_none, errW_some] <;> rfl) | (simp [*, errW_none, errW_some] <;> rfl), by repeat (first | (with_reducible first | exact HB.out | apply below_alloc | apply pw_below_drewN | apply below_drew1 | refine below_set ?_ GE754.out | refine below_set ?_ GE759.out) | exact HB.out)⟩
               ·rw [if_neg c131] at H
                have c131b0 : (t750 == t755 && (t751 == t756 && (t752 == t757))) = false := by simpa using c131
                (try (have c131b1 : decide (t750 = t755 && (t751 == t756 && (t752 == t757))) = false := by simpa using c131))
                (try (have c131b2 : (t750 == t755 && (t751 == t756 && (t752 == t757))) = false := by simpa using c131))
                (try (have c131b3 : ¬ (t750 = t755 && (t751 == t756 && (t752 == t757))) := by simpa using c131))
                clear c131
                exact absurd ((Option.some.inj H).trans HTrue_.out) (by decide)
              ·rw [if_neg c130] at H
               have c130b0 : (t753 == t758) = false := by simpa using c130
               (try (have c130b1 : decide (t753 = t758) = false := by simpa using c130))
               (try (have c130b2 : (t753 == t758) = false := by simpa using c130))
               (try (have c130b3 : ¬ (t753 = t758) := by simpa using c130))
               clear c130
               exact absurd ((Option.some.inj H).trans HTrue_.out) (by decide)
/-- THE ONE PURE STATEMENT of laws_FnPowers: yours. -/
def laws_FnPowers.Pure : Prop := ∀ (l0 : List Int), l0.length ≤ maxLen → l0.length * 1 ≤ 140737488351232 → (∀ x ∈ l0, (Lit.int .u8 x).wf = true) → ∃ k, laws_FnPowers.f k l0 = some true
theorem laws_FnPowers.walk (P : laws_FnPowers.Pure) (a0 : Option Addr) (len0 cap0 : Nat) (z0 : List Int) (w : World) (w0 : (a0 = none ∧ len0 = 0 ∧ cap0 = 0 ∧ z0 = []) ∨ ∃ x, a0 = some x ∧ len0 ≤ cap0 ∧ cap0 ≤ maxLen ∧ z0.length = cap0 ∧ (∀ i, i < z0.length → w.cell? (x.add i) = some (.int .u8 (z0.getD i 0))) ∧ ∀ n ∈ z0, (Lit.int .u8 n).wf = true) (y0 : len0 * 1 ≤ 140737488351232) :
  Calls Try.prog 11 #[.slice a0 len0 cap0] w fun e w' => e = .returned (.bool true) ∧ Below w.heap.size w w' := by
 obtain ⟨l0, rfl, hr0, hm0, hw0, hc0⟩ := ReadsInt.ofRowC w0
 obtain ⟨k, h⟩ := P l0 hm0 y0 hw0
 refine (laws_FnPowers.calls k _ _ l0 true w (Kd.C_of_reads (d := (0 : Int)) (h1 := fun _ => rfl) hr0) hc0 h).mono ?_
 rintro e w' ⟨rfl, hd⟩
 exact ⟨rfl, hd⟩

end Go.Proofs.Ytolikggioekalab.PFnPowers
