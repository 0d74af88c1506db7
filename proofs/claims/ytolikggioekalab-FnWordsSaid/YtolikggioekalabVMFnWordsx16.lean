/- The Go functions that the law FnWords reaches (part 16): each as a Lean function, and that its code comes to these answers. No condition beyond those written. -/
import Derived.Test.YtolikggioekalabVGSlim
import Derived.Test.YtolikggioekalabVGDraw
import Derived.Test.YtolikggioekalabVMFnWordsx12
import Derived.Test.YtolikggioekalabVMFnWordsx11
import Derived.Test.YtolikggioekalabVMFnWordsx10
import Derived.Test.YtolikggioekalabVMFnWordsx9
import Derived.Test.YtolikggioekalabVMFnWordsx7
import Derived.Test.YtolikggioekalabVMFnWordsx6
import Derived.Test.YtolikggioekalabVMFnWordsx5
import Derived.Test.YtolikggioekalabVMFnWordsx4
import Derived.Test.YtolikggioekalabVMFnWordsx3
import Derived.Test.YtolikggioekalabVMFnWordsx2
import Derived.Test.YtolikggioekalabVMFnWordsx1
import Derived.Test.YtolikggioekalabVMFnWordsx0
import Derived.Test.YtolikggioekalabVMFnWordsx8
import Derived.Test.YtolikggioekalabVMFnWordsx13
import Derived.Test.YtolikggioekalabVMFnWordsx14
import Derived.Test.YtolikggioekalabVMFnWordsx15
namespace Go.Proofs.Ytolikggioekalab.PFnWords
open Go.RowKit Go.Proofs.YtolikggioekalabW.PrintWords Go.Proofs.YtolikggioekalabW.PrintLast Go.Proofs.YtolikggioekalabW.PrintMore
attribute [local go_sem] max2_int min2_int max_two min_two max_three min_three max_four min_four   -- for this text's walks alone
set_option linter.unusedVariables false
set_option linter.unusedSimpArgs false

/-! ### spec_l1Spoil: function 133 -/
def spec_l1Spoil.f (k : Nat) (s0_0 : List Int) (s0_1 : Int) (s0_2 : Int) (a1 : ByteArray) : Option (ByteArray × Int × Int) := if (a1.size : Int) = 0 then ((spec_l1Text.f k s0_0 s0_1 s0_2 3).bind fun bt777 => (some (bt777.1, bt777.2.1, bt777.2.2))) else ((spec_l1Below.f s0_0 s0_1 s0_2 (a1.size : Int)).bind fun bt780 => ((spec_l1Below.f s0_0 bt780.2.1 bt780.2.2 4).bind fun bt783 => (if bt783.1 = 0 then (if 0 ≤ bt780.1 then (if bt780.1 ≤ (a1.size : Int) then (if 0 ≤ (wrap64 (bt780.1 + 1)) then (if (wrap64 (bt780.1 + 1)) ≤ (a1.size : Int) then (if (a1.extract 0 (bt780.1 : Int).toNat).size + (a1.extract ((wrap64 (bt780.1 + 1)) : Int).toNat a1.size).size ≤ 9223372036854775807 then (some ((a1.extract 0 (bt780.1 : Int).toNat) ++ (a1.extract ((wrap64 (bt780.1 + 1)) : Int).toNat a1.size), bt783.2.1, bt783.2.2)) else (none)) else (none)) else (none)) else (none)) else (none)) else (if bt783.1 = 1 then (if 0 ≤ bt780.1 then (if bt780.1 ≤ (a1.size : Int) then ((spec_l1Byte.f s0_0 bt783.2.1 bt783.2.2).bind fun bt786 => ((some (([(bt786.1) % 256] : List Int) : List Int)).bind fun y789 => (if (a1.extract 0 (bt780.1 : Int).toNat).size + (strOfNums y789).size ≤ 9223372036854775807 then (if ((a1.extract 0 (bt780.1 : Int).toNat) ++ (strOfNums y789)).size + (a1.extract (bt780.1 : Int).toNat a1.size).size ≤ 9223372036854775807 then (some (((a1.extract 0 (bt780.1 : Int).toNat) ++ (strOfNums y789)) ++ (a1.extract (bt780.1 : Int).toNat a1.size), bt786.2.1, bt786.2.2)) else (none)) else (none)))) else (none)) else (none)) else (if bt783.1 = 2 then (if 0 ≤ bt780.1 then (if bt780.1 ≤ (a1.size : Int) then (some (a1.extract 0 (bt780.1 : Int).toNat, bt783.2.1, bt783.2.2)) else (none)) else (none)) else (if 0 ≤ bt780.1 then (if bt780.1 ≤ (a1.size : Int) then (if bt780.1 < (a1.size : Int) then ((spec_l1Below.f s0_0 bt783.2.1 bt783.2.2 255).bind fun bt792 => ((some (([(Go.bits .xor .i64 (wrap64 (bt a1 bt780.1)) (wrap64 (1 + bt792.1))) % 256] : List Int) : List Int)).bind fun y795 => (if (a1.extract 0 (bt780.1 : Int).toNat).size + (strOfNums y795).size ≤ 9223372036854775807 then (if 0 ≤ (wrap64 (bt780.1 + 1)) then (if (wrap64 (bt780.1 + 1)) ≤ (a1.size : Int) then (if ((a1.extract 0 (bt780.1 : Int).toNat) ++ (strOfNums y795)).size + (a1.extract ((wrap64 (bt780.1 + 1)) : Int).toNat a1.size).size ≤ 9223372036854775807 then (some (((a1.extract 0 (bt780.1 : Int).toNat) ++ (strOfNums y795)) ++ (a1.extract ((wrap64 (bt780.1 + 1)) : Int).toNat a1.size), bt792.2.1, bt792.2.2)) else (none)) else (none)) else (none)) else (none)))) else (none)) else (none)) else (none)))))))
theorem spec_l1Spoil.mono : ∀ a0 a1 a2 a3 k, LeO (spec_l1Spoil.f k a0 a1 a2 a3) (spec_l1Spoil.f (k + 1) a0 a1 a2 a3) := by
 intro a0 a1 a2 a3 k
 unfold spec_l1Spoil.f
 repeat' first
   | (with_reducible exact spec_l1Text.mono _ _ _ _ _)
   | (with_reducible exact LeO.refl _)
   | (with_reducible exact LeO.none _)
   | (with_reducible refine LeO.ite ?_ ?_)
   | (with_reducible refine LeO.bind ?_ (fun _ => ?_))
   | exact spec_l1Text.mono _ _ _ _ _
   | exact LeO.none _
   | refine LeO.ite ?_ ?_
   | refine LeO.bind ?_ (fun _ => ?_)
def spec_l1Spoil.T6 : Bool × List (List Nat × List Nat) := (true, [([], []), ([], []), ([0, 1], [0, 1]), ([], []), ([], []), ([4], [4]), ([3, 5], [3, 5]), ([2, 6], [2, 6]), ([7, 0, 1, 2, 3, 4, 5, 6, 7], [7])])
def spec_l1Spoil.B6 : List Nat := [0, 0, 3, 0, 0, 16, 56, 127, 255]
theorem spec_l1Spoil.tab6 : rtab .any (opsOf Try.f133 6) = spec_l1Spoil.T6 := by kernel_rfl
theorem spec_l1Spoil.bits6 : waitsOk spec_l1Spoil.T6.2 spec_l1Spoil.B6 = true := by kernel_rfl
def spec_l1Spoil.T8 : Bool × List (List Nat × List Nat) := (true, [([], []), ([], []), ([0, 1], [0, 1]), ([], []), ([3], [3]), ([4], [4]), ([5], [5]), ([6], [6]), ([2, 7], [2, 7]), ([], []), ([], []), ([9, 10], [9, 10]), ([8, 11], [8, 11]), ([12, 4, 0, 1, 2, 3, 4, 5, 6, 7, 8, 9, 10, 11, 12], [12])])
def spec_l1Spoil.B8 : List Nat := [0, 0, 3, 0, 8, 24, 56, 120, 255, 0, 0, 1536, 4095, 8191]
theorem spec_l1Spoil.tab8 : rtab .any (opsOf Try.f133 8) = spec_l1Spoil.T8 := by kernel_rfl
theorem spec_l1Spoil.bits8 : waitsOk spec_l1Spoil.T8.2 spec_l1Spoil.B8 = true := by kernel_rfl
def spec_l1Spoil.T11 : Bool × List (List Nat × List Nat) := (true, [([], []), ([], []), ([0, 1], [0, 1]), ([], []), ([], []), ([3, 4], [3, 4]), ([5], [5]), ([], []), ([7], [7]), ([8], [8]), ([6, 9], [6, 9]), ([10], [10]), ([11], [11]), ([12], [12]), ([2, 13], [2, 13]), ([], []), ([], []), ([16], [16]), ([15, 17], [15, 17]), ([14, 18], [14, 18]), ([19, 8, 0, 1, 2, 3, 4, 5, 6, 7, 8, 9, 10, 11, 12, 13, 14, 15, 16, 17, 18, 19], [19])])
def spec_l1Spoil.B11 : List Nat := [0, 0, 3, 0, 0, 24, 56, 0, 128, 384, 1016, 2040, 4088, 8184, 16383, 0, 0, 65536, 229376, 524287, 1048575]
theorem spec_l1Spoil.tab11 : rtab .any (opsOf Try.f133 11) = spec_l1Spoil.T11 := by kernel_rfl
theorem spec_l1Spoil.bits11 : waitsOk spec_l1Spoil.T11.2 spec_l1Spoil.B11 = true := by kernel_rfl
set_option maxHeartbeats 8000000 in
set_option maxRecDepth 100000 in
theorem spec_l1Spoil.calls (k : Nat) (g : Nat) (s0_0 : List Int) (s0_1 : Int) (s0_2 : Int) (a1 : ByteArray) (r1 : ByteArray) (r2 : Int) (r3 : Int) (w0 w : World) (hI : IsS111 w0 w g s0_0 s0_1 s0_2) (hB : Below w0.heap.size w0 w) (h : spec_l1Spoil.f k s0_0 s0_1 s0_2 a1 = some (r1, r2, r3)) :
  Calls Try.prog 133 #[.pointer (some ⟨g, 0, none⟩), .string a1] w fun e w' => e = .returned (.string r1) ∧ IsS111 w0 w' g s0_0 r2 r3 ∧ Below w0.heap.size w0 w' ∧ KeepBut w w' g none := by
 have HI0 := Aside0.mk hI
 have HK := Aside0.mk (KeepBut.refl w g none)
 have HL := Aside0.mk hB.size
 clear hI
 have HW0 := Aside0.mk hB.size
 have HB := Aside0.mk hB
 clear hB
 have H : (if (a1.size : Int) = 0 then ((spec_l1Text.f k s0_0 s0_1 s0_2 3).bind fun bt777 => (some (bt777.1, bt777.2.1, bt777.2.2))) else ((spec_l1Below.f s0_0 s0_1 s0_2 (a1.size : Int)).bind fun bt780 => ((spec_l1Below.f s0_0 bt780.2.1 bt780.2.2 4).bind fun bt783 => (if bt783.1 = 0 then (if 0 ≤ bt780.1 then (if bt780.1 ≤ (a1.size : Int) then (if 0 ≤ (wrap64 (bt780.1 + 1)) then (if (wrap64 (bt780.1 + 1)) ≤ (a1.size : Int) then (if (a1.extract 0 (bt780.1 : Int).toNat).size + (a1.extract ((wrap64 (bt780.1 + 1)) : Int).toNat a1.size).size ≤ 9223372036854775807 then (some ((a1.extract 0 (bt780.1 : Int).toNat) ++ (a1.extract ((wrap64 (bt780.1 + 1)) : Int).toNat a1.size), bt783.2.1, bt783.2.2)) else (none)) else (none)) else (none)) else (none)) else (none)) else (if bt783.1 = 1 then (if 0 ≤ bt780.1 then (if bt780.1 ≤ (a1.size : Int) then ((spec_l1Byte.f s0_0 bt783.2.1 bt783.2.2).bind fun bt786 => ((some (([(bt786.1) % 256] : List Int) : List Int)).bind fun y789 => (if (a1.extract 0 (bt780.1 : Int).toNat).size + (strOfNums y789).size ≤ 9223372036854775807 then (if ((a1.extract 0 (bt780.1 : Int).toNat) ++ (strOfNums y789)).size + (a1.extract (bt780.1 : Int).toNat a1.size).size ≤ 9223372036854775807 then (some (((a1.extract 0 (bt780.1 : Int).toNat) ++ (strOfNums y789)) ++ (a1.extract (bt780.1 : Int).toNat a1.size), bt786.2.1, bt786.2.2)) else (none)) else (none)))) else (none)) else (none)) else (if bt783.1 = 2 then (if 0 ≤ bt780.1 then (if bt780.1 ≤ (a1.size : Int) then (some (a1.extract 0 (bt780.1 : Int).toNat, bt783.2.1, bt783.2.2)) else (none)) else (none)) else (if 0 ≤ bt780.1 then (if bt780.1 ≤ (a1.size : Int) then (if bt780.1 < (a1.size : Int) then ((spec_l1Below.f s0_0 bt783.2.1 bt783.2.2 255).bind fun bt792 => ((some (([(Go.bits .xor .i64 (wrap64 (bt a1 bt780.1)) (wrap64 (1 + bt792.1))) % 256] : List Int) : List Int)).bind fun y795 => (if (a1.extract 0 (bt780.1 : Int).toNat).size + (strOfNums y795).size ≤ 9223372036854775807 then (if 0 ≤ (wrap64 (bt780.1 + 1)) then (if (wrap64 (bt780.1 + 1)) ≤ (a1.size : Int) then (if ((a1.extract 0 (bt780.1 : Int).toNat) ++ (strOfNums y795)).size + (a1.extract ((wrap64 (bt780.1 + 1)) : Int).toNat a1.size).size ≤ 9223372036854775807 then (some (((a1.extract 0 (bt780.1 : Int).toNat) ++ (strOfNums y795)) ++ (a1.extract ((wrap64 (bt780.1 + 1)) : Int).toNat a1.size), bt792.2.1, bt792.2.2)) else (none)) else (none)) else (none)) else (none)))) else (none)) else (none)) else (none)))))))) = some (r1, r2, r3) := h
 clear h
 by_cases c3 : (a1.size : Int) = 0
 ·rw [if_pos c3] at H
  have c3b0 : ((a1.size : Int) == 0) = true := beq_iff_eq.mpr c3
  have c3b1 : ((a1.size : Int) != 0) = false := bne_eq_false_iff_eq.mpr c3
  clear c3
  obtain ⟨⟨t777, t778, t779⟩, A4, H⟩ := G.bx H
  replace H : (some (t777, t778, t779)) = some (r1, r2, r3) := H
  simp only [Option.some.injEq, Prod.mk.injEq] at H
  obtain ⟨rfl, rfl, rfl⟩ := H
  go_enter Try.func133, Try.ntmps133
  go_wp2_with (first | ((with_reducible refine gate_callee (f := 165) rfl ?_); refine goesL_ (some 10) rfl rfl Try.func165 (by kernel_rfl) rfl #[.pointer (some ⟨g, 0, none⟩), .int .i64 3] rfl G.ar ?_; (with_reducible refine (spec_l1Text.calls k g s0_0 s0_1 s0_2 3 t777 t778 t779 w0 _ ?side1 ?side2 A4.out).mono ?_); (case side1 => repeat (first | (with_reducible first | exact HI0.out | apply IsS111.alloc | apply IsS111.drewN | apply IsS111.drew | apply IsS111.set_1 | apply IsS111.set_2) | exact HI0.out)); (case side2 => repeat (first | (with_reducible first | exact HB.out | apply below_alloc | apply pw_below_drewN | apply below_drew1 | refine below_set ?_ (IsS111.ge HI0.out)) | exact HB.out)); rintro e w5 ⟨rfl, hi, hb, hk⟩; refine ⟨_, rfl, ?_⟩; have n0_ := Aside0.mk (KeepBut.trans (by repeat (first | (with_reducible first | exact HK.out | apply KeepBut.set_ | apply keep_drewN | apply keep_drew | apply keep_alloc) | exact HK.out)) hk (.inl rfl)); have n1_ := Aside0.mk (hb); have n2_ := Aside0.mk (hi); clear HK; clear HB; clear HI0; have HK := n0_; have HB := n1_; have HI0 := n2_; clear n0_ n1_ n2_; (try clear hb); (try clear hb2); (try clear hk); (try clear hi)))
  go_ret
  exact ⟨G.er, by repeat (first | (with_reducible first | exact HI0.out | apply IsS111.alloc | apply IsS111.drewN | apply IsS111.drew | apply IsS111.set_1 | apply IsS111.set_2) | exact HI0.out), by repeat (first | (with_reducible first | exact HB.out | apply below_alloc | apply pw_below_drewN | apply below_drew1 | refine below_set ?_ (IsS111.ge HI0.out)) | exact HB.out), by repeat (first | (with_reducible first | exact HK.out | apply KeepBut.set_ | apply keep_drewN | apply keep_drew | apply keep_alloc) | exact HK.out)⟩
 ·rw [if_neg c3] at H
  have c3b0 : ((a1.size : Int) == 0) = false := beq_eq_false_iff_ne.mpr c3
  have c3b1 : ((a1.size : Int) != 0) = true := bne_iff_ne.mpr c3
  obtain ⟨⟨t780, t781, t782⟩, A6, H⟩ := G.bx H
  replace H : ((spec_l1Below.f s0_0 t781 t782 4).bind fun bt783 => (if bt783.1 = 0 then (if 0 ≤ t780 then (if t780 ≤ (a1.size : Int) then (if 0 ≤ (wrap64 (t780 + 1)) then (if (wrap64 (t780 + 1)) ≤ (a1.size : Int) then (if (a1.extract 0 (t780 : Int).toNat).size + (a1.extract ((wrap64 (t780 + 1)) : Int).toNat a1.size).size ≤ 9223372036854775807 then (some ((a1.extract 0 (t780 : Int).toNat) ++ (a1.extract ((wrap64 (t780 + 1)) : Int).toNat a1.size), bt783.2.1, bt783.2.2)) else (none)) else (none)) else (none)) else (none)) else (none)) else (if bt783.1 = 1 then (if 0 ≤ t780 then (if t780 ≤ (a1.size : Int) then ((spec_l1Byte.f s0_0 bt783.2.1 bt783.2.2).bind fun bt786 => ((some (([(bt786.1) % 256] : List Int) : List Int)).bind fun y789 => (if (a1.extract 0 (t780 : Int).toNat).size + (strOfNums y789).size ≤ 9223372036854775807 then (if ((a1.extract 0 (t780 : Int).toNat) ++ (strOfNums y789)).size + (a1.extract (t780 : Int).toNat a1.size).size ≤ 9223372036854775807 then (some (((a1.extract 0 (t780 : Int).toNat) ++ (strOfNums y789)) ++ (a1.extract (t780 : Int).toNat a1.size), bt786.2.1, bt786.2.2)) else (none)) else (none)))) else (none)) else (none)) else (if bt783.1 = 2 then (if 0 ≤ t780 then (if t780 ≤ (a1.size : Int) then (some (a1.extract 0 (t780 : Int).toNat, bt783.2.1, bt783.2.2)) else (none)) else (none)) else (if 0 ≤ t780 then (if t780 ≤ (a1.size : Int) then (if t780 < (a1.size : Int) then ((spec_l1Below.f s0_0 bt783.2.1 bt783.2.2 255).bind fun bt792 => ((some (([(Go.bits .xor .i64 (wrap64 (bt a1 t780)) (wrap64 (1 + bt792.1))) % 256] : List Int) : List Int)).bind fun y795 => (if (a1.extract 0 (t780 : Int).toNat).size + (strOfNums y795).size ≤ 9223372036854775807 then (if 0 ≤ (wrap64 (t780 + 1)) then (if (wrap64 (t780 + 1)) ≤ (a1.size : Int) then (if ((a1.extract 0 (t780 : Int).toNat) ++ (strOfNums y795)).size + (a1.extract ((wrap64 (t780 + 1)) : Int).toNat a1.size).size ≤ 9223372036854775807 then (some (((a1.extract 0 (t780 : Int).toNat) ++ (strOfNums y795)) ++ (a1.extract ((wrap64 (t780 + 1)) : Int).toNat a1.size), bt792.2.1, bt792.2.2)) else (none)) else (none)) else (none)) else (none)))) else (none)) else (none)) else (none)))))) = some (r1, r2, r3) := H
  obtain ⟨⟨t783, t784, t785⟩, A7, H⟩ := G.bx H
  replace H : (if t783 = 0 then (if 0 ≤ t780 then (if t780 ≤ (a1.size : Int) then (if 0 ≤ (wrap64 (t780 + 1)) then (if (wrap64 (t780 + 1)) ≤ (a1.size : Int) then (if (a1.extract 0 (t780 : Int).toNat).size + (a1.extract ((wrap64 (t780 + 1)) : Int).toNat a1.size).size ≤ 9223372036854775807 then (some ((a1.extract 0 (t780 : Int).toNat) ++ (a1.extract ((wrap64 (t780 + 1)) : Int).toNat a1.size), t784, t785)) else (none)) else (none)) else (none)) else (none)) else (none)) else (if t783 = 1 then (if 0 ≤ t780 then (if t780 ≤ (a1.size : Int) then ((spec_l1Byte.f s0_0 t784 t785).bind fun bt786 => ((some (([(bt786.1) % 256] : List Int) : List Int)).bind fun y789 => (if (a1.extract 0 (t780 : Int).toNat).size + (strOfNums y789).size ≤ 9223372036854775807 then (if ((a1.extract 0 (t780 : Int).toNat) ++ (strOfNums y789)).size + (a1.extract (t780 : Int).toNat a1.size).size ≤ 9223372036854775807 then (some (((a1.extract 0 (t780 : Int).toNat) ++ (strOfNums y789)) ++ (a1.extract (t780 : Int).toNat a1.size), bt786.2.1, bt786.2.2)) else (none)) else (none)))) else (none)) else (none)) else (if t783 = 2 then (if 0 ≤ t780 then (if t780 ≤ (a1.size : Int) then (some (a1.extract 0 (t780 : Int).toNat, t784, t785)) else (none)) else (none)) else (if 0 ≤ t780 then (if t780 ≤ (a1.size : Int) then (if t780 < (a1.size : Int) then ((spec_l1Below.f s0_0 t784 t785 255).bind fun bt792 => ((some (([(Go.bits .xor .i64 (wrap64 (bt a1 t780)) (wrap64 (1 + bt792.1))) % 256] : List Int) : List Int)).bind fun y795 => (if (a1.extract 0 (t780 : Int).toNat).size + (strOfNums y795).size ≤ 9223372036854775807 then (if 0 ≤ (wrap64 (t780 + 1)) then (if (wrap64 (t780 + 1)) ≤ (a1.size : Int) then (if ((a1.extract 0 (t780 : Int).toNat) ++ (strOfNums y795)).size + (a1.extract ((wrap64 (t780 + 1)) : Int).toNat a1.size).size ≤ 9223372036854775807 then (some (((a1.extract 0 (t780 : Int).toNat) ++ (strOfNums y795)) ++ (a1.extract ((wrap64 (t780 + 1)) : Int).toNat a1.size), bt792.2.1, bt792.2.2)) else (none)) else (none)) else (none)) else (none)))) else (none)) else (none)) else (none))))) = some (r1, r2, r3) := H
  by_cases c8 : t783 = 0
  ·rw [if_pos c8] at H
   have c8b0 : (t783 == 0) = true := beq_iff_eq.mpr c8
   have c8b1 : (t783 != 0) = false := bne_eq_false_iff_eq.mpr c8
   clear c8
   by_cases c9 : 0 ≤ t780
   ·rw [if_pos c9] at H
    have c9b0 := eq_true c9
    have c9b1 : decide (0 ≤ t780) = true := decide_eq_true c9
    clear c9
    by_cases c10 : t780 ≤ (a1.size : Int)
    ·rw [if_pos c10] at H
     have c10b0 := eq_true c10
     have c10b1 : decide (t780 ≤ (a1.size : Int)) = true := decide_eq_true c10
     clear c10
     obtain ⟨ji11, hji11⟩ : ∃ j_ : Int, (wrap64 (t780 + 1)) = j_ := ⟨_, rfl⟩
     replace H : (if 0 ≤ (ji11) then (if (ji11) ≤ (a1.size : Int) then (if (a1.extract 0 (t780 : Int).toNat).size + (a1.extract ((ji11) : Int).toNat a1.size).size ≤ 9223372036854775807 then (some ((a1.extract 0 (t780 : Int).toNat) ++ (a1.extract ((ji11) : Int).toNat a1.size), t784, t785)) else (none)) else (none)) else (none)) = some (r1, r2, r3) := by first | (rw [hji11] at H; exact H) | (simp only [hji11] at H ⊢; exact H)
     (try rw [hji11] at A6)
     (try rw [hji11] at A7)
     have hji11w : (IntKind.i64.wrap (t780 + 1)) = ji11 := (i64_w _).trans hji11
     by_cases c12 : 0 ≤ (ji11)
     ·rw [if_pos c12] at H
      have c12b0 := eq_true c12
      have c12b1 : decide (0 ≤ (ji11)) = true := decide_eq_true c12
      clear c12
      by_cases c13 : (ji11) ≤ (a1.size : Int)
      ·rw [if_pos c13] at H
       have c13b0 := eq_true c13
       have c13b1 : decide ((ji11) ≤ (a1.size : Int)) = true := decide_eq_true c13
       clear c13
       by_cases c14 : (a1.extract 0 (t780 : Int).toNat).size + (a1.extract ((ji11) : Int).toNat a1.size).size ≤ 9223372036854775807
       ·rw [if_pos c14] at H
        have c14b0 := eq_true c14
        have c14b5 : (9223372036854775807 < t780.toNat + (a1.size - ji11.toNat)) = False := eq_false (by have h_ := c14; have q_ := of_eq_true c10b0; simp only [ByteArray.size_extract, ByteArray.size_append] at h_; omega)
        have c14b1 : decide ((a1.extract 0 (t780 : Int).toNat).size + (a1.extract ((ji11) : Int).toNat a1.size).size ≤ 9223372036854775807) = true := decide_eq_true c14
        try have c14b2 : (9223372036854775807 < (a1.extract 0 (t780 : Int).toNat).size + (a1.extract ((ji11) : Int).toNat a1.size).size) = False := eq_false (Nat.not_lt.2 c14)
        simp only [Option.some.injEq, Prod.mk.injEq] at H
        obtain ⟨rfl, rfl, rfl⟩ := H
        go_enter Try.func133, Try.ntmps133
        try go_wp2_with (first | ((with_reducible refine gate_callee (f := 127) rfl ?_); refine goesL_ (some 14) rfl rfl Try.func127 (by kernel_rfl) rfl #[.pointer (some ⟨g, 0, none⟩), .int .i64 (a1.size : Int)] rfl G.ar ?_; (with_reducible refine (spec_l1Below.calls g s0_0 s0_1 s0_2 (a1.size : Int) t780 t781 t782 w0 _ ?side1 ?side2 A6.out).mono ?_); (case side1 => repeat (first | (with_reducible first | exact HI0.out | apply IsS111.alloc | apply IsS111.drewN | apply IsS111.drew | apply IsS111.set_1 | apply IsS111.set_2) | exact HI0.out)); (case side2 => repeat (first | (with_reducible first | exact HB.out | apply below_alloc | apply pw_below_drewN | apply below_drew1 | refine below_set ?_ (IsS111.ge HI0.out)) | exact HB.out)); rintro e w15 ⟨rfl, hi, hb, hk⟩; refine ⟨_, rfl, ?_⟩; have n0_ := Aside0.mk (KeepBut.trans (by repeat (first | (with_reducible first | exact HK.out | apply KeepBut.set_ | apply keep_drewN | apply keep_drew | apply keep_alloc) | exact HK.out)) hk (.inl rfl)); have n1_ := Aside0.mk (hb); have n2_ := Aside0.mk (hi); clear HK; clear HB; clear HI0; have HK := n0_; have HB := n1_; have HI0 := n2_; clear n0_ n1_ n2_; (try clear hb); (try clear hb2); (try clear hk); (try clear hi)) | ((with_reducible refine gate_callee (f := 127) rfl ?_); refine goesL_ (some 16) rfl rfl Try.func127 (by kernel_rfl) rfl #[.pointer (some ⟨g, 0, none⟩), .int .i64 4] rfl G.ar ?_; (with_reducible refine (spec_l1Below.calls g s0_0 t781 t782 4 t783 t784 t785 w0 _ ?side1 ?side2 A7.out).mono ?_); (case side1 => repeat (first | (with_reducible first | exact HI0.out | apply IsS111.alloc | apply IsS111.drewN | apply IsS111.drew | apply IsS111.set_1 | apply IsS111.set_2) | exact HI0.out)); (case side2 => repeat (first | (with_reducible first | exact HB.out | apply below_alloc | apply pw_below_drewN | apply below_drew1 | refine below_set ?_ (IsS111.ge HI0.out)) | exact HB.out)); rintro e w16 ⟨rfl, hi, hb, hk⟩; refine ⟨_, rfl, ?_⟩; have n0_ := Aside0.mk (KeepBut.trans (by repeat (first | (with_reducible first | exact HK.out | apply KeepBut.set_ | apply keep_drewN | apply keep_drew | apply keep_alloc) | exact HK.out)) hk (.inl rfl)); have n1_ := Aside0.mk (hb); have n2_ := Aside0.mk (hi); clear HK; clear HB; clear HI0; have HK := n0_; have HB := n1_; have HI0 := n2_; clear n0_ n1_ n2_; (try clear hb); (try clear hb2); (try clear hk); (try clear hi)))
        have n0_ := Aside0.mk (IsS111.drew HI0.out)
        have n1_ := Aside0.mk (keep_drew HK.out)
        have n2_ := Aside0.mk (below_drew1 HB.out)
        clear HI0
        clear HK
        clear HB
        have HI0 := n0_
        have HK := n1_
        have HB := n2_
        clear n0_ n1_ n2_
        refine start_ (n := 9) (S := fun w' => True) (ds := []) #[false, false, false, false, false, false, false, false, false] (by kernel_rfl) rfl rfl trivial (fun hHeld => ?_); refine with_tabW spec_l1Spoil.tab6 spec_l1Spoil.bits6 (fun HT_ HW_ => ?_)
        generalize w16.drew = w17 at HI0 HK HB hHeld ⊢
        refine pure_ (i := 0) (N := some 19) (v := ?_) (a' := ?_) #[true, false, false, false, false, false, false, false, false] rfl rfl (any_of HT_.out (by kernel_rfl)) (fun _ _ _ h => h) (Or.inl ⟨by rfl, ?_⟩) ?_ ?_
        rotate_left; (·intro w'; go_simp; with_reducible rfl); rotate_left; (·simp only [Act.put, List.setIfInBounds_toArray, List.set_cons_zero, List.set_cons_succ, i64_w, i32_w]; rfl)
        refine pure_ (i := 1) (N := some 20) (v := ?_) (a' := ?_) #[true, true, false, false, false, false, false, false, false] rfl rfl (any_of HT_.out (by kernel_rfl)) (fun _ _ _ h => h) (Or.inl ⟨by rfl, ?_⟩) ?_ ?_
        rotate_left; (·intro w'; go_simp; with_reducible rfl); rotate_left; (·simp only [Act.put, List.setIfInBounds_toArray, List.set_cons_zero, List.set_cons_succ, i64_w, i32_w]; rfl)
        refine pure_ (i := 2) (N := some 21) (v := ?_) (a' := ?_) #[true, true, true, false, false, false, false, false, false] rfl rfl (any_of HT_.out (by kernel_rfl)) (fun _ _ _ h => h) (Or.inl ⟨by rfl, ?_⟩) ?_ ?_
        rotate_left; (·intro w'; go_simp; with_reducible rfl); rotate_left; (·simp only [Act.put, List.setIfInBounds_toArray, List.set_cons_zero, List.set_cons_succ, i64_w, i32_w]; rfl)
        refine pure_ (i := 3) (N := some 22) (v := ?_) (a' := ?_) #[true, true, true, true, false, false, false, false, false] rfl rfl (any_of HT_.out (by kernel_rfl)) (fun _ _ _ h => h) (Or.inl ⟨by rfl, ?_⟩) ?_ ?_
        rotate_left; (·intro w'; go_simp; with_reducible rfl); rotate_left; (·simp only [Act.put, List.setIfInBounds_toArray, List.set_cons_zero, List.set_cons_succ, i64_w, i32_w]; rfl)
        refine pure_ (i := 4) (N := some 23) (v := ?_) (a' := ?_) #[true, true, true, true, true, false, false, false, false] rfl rfl (any_of HT_.out (by kernel_rfl)) (fun _ _ _ h => h) (Or.inl ⟨by rfl, ?_⟩) ?_ ?_
        rotate_left; (·intro w'; go_simp; with_reducible rfl); rotate_left; (·simp only [Act.put, List.setIfInBounds_toArray, List.set_cons_zero, List.set_cons_succ, i64_w, i32_w]; rfl)
        refine pure_ (i := 5) (N := some 24) (v := ?_) (a' := ?_) #[true, true, true, true, true, true, false, false, false] rfl rfl (any_of HT_.out (by kernel_rfl)) (fun _ _ _ h => h) (Or.inl ⟨by rfl, ?_⟩) ?_ ?_
        rotate_left; (·intro w'; go_simp; with_reducible rfl); rotate_left; (·simp only [Act.put, List.setIfInBounds_toArray, List.set_cons_zero, List.set_cons_succ, i64_w, i32_w]; rfl)
        refine pure_ (i := 6) (N := some 25) (v := ?_) (a' := ?_) #[true, true, true, true, true, true, true, false, false] rfl rfl (any_of HT_.out (by kernel_rfl)) (fun _ _ _ h => h) (Or.inl ⟨by rfl, ?_⟩) ?_ ?_
        rotate_left; (·intro w'; go_simp; with_reducible rfl); rotate_left; (·simp only [Act.put, List.setIfInBounds_toArray, List.set_cons_zero, List.set_cons_succ, i64_w, i32_w]; rfl)
        refine pure_ (i := 7) (N := some 26) (v := ?_) (a' := ?_) #[true, true, true, true, true, true, true, true, false] rfl rfl (any_of HT_.out (by kernel_rfl)) (fun _ _ _ h => h) (Or.inl ⟨by rfl, ?_⟩) ?_ ?_
        rotate_left; (·intro w'; go_simp; with_reducible rfl); rotate_left; (·simp only [Act.put, List.setIfInBounds_toArray, List.set_cons_zero, List.set_cons_succ, i64_w, i32_w]; rfl)
        refine pure_ (i := 8) (N := some 4) (v := ?_) (a' := ?_) #[true, true, true, true, true, true, true, true, true] rfl rfl (any_of HT_.out (by kernel_rfl)) (fun _ _ _ h => h) (Or.inl ⟨by rfl, ?_⟩) ?_ ?_
        rotate_left; (·intro w'; go_simp; with_reducible rfl); rotate_left; (·simp only [Act.put, List.setIfInBounds_toArray, List.set_cons_zero, List.set_cons_succ, i64_w, i32_w]; rfl)
        refine done_ (done_of HT_.out (by kernel_rfl)) ?_
        try go_wp2
        go_ret
        exact ⟨by first | rfl | (simp [errW_none, errW_some] <;> rfl) | (simp only [← hji11]; first | rfl | (simp [errW_none, errW_some] <;> rfl)) | (simp [*, errW_none, errW_some] <;> rfl), by repeat (first | (with_reducible first | exact HI0.out | apply IsS111.alloc | apply IsS111.drewN | apply IsS111.drew | apply IsS111.set_1 | apply IsS111.set_2) | exact HI0.out), by repeat (first | (with_reducible first | exact HB.out | apply below_alloc | apply pw_below_drewN | apply below_drew1 | refine below_set ?_ (IsS111.ge HI0.out)) | exact HB.out), by repeat (first | (with_reducible first | exact HK.out | apply KeepBut.set_ | apply keep_drewN | apply keep_drew | apply keep_alloc) | exact HK.out)⟩
       ·rw [if_neg c14] at H
        exact absurd H (by simp)
      ·rw [if_neg c13] at H
       exact absurd H (by simp)
     ·rw [if_neg c12] at H
      exact absurd H (by simp)
    ·rw [if_neg c10] at H
     exact absurd H (by simp)
   ·rw [if_neg c9] at H
    exact absurd H (by simp)
  ·rw [if_neg c8] at H
   have c8b0 : (t783 == 0) = false := beq_eq_false_iff_ne.mpr c8
   have c8b1 : (t783 != 0) = true := bne_iff_ne.mpr c8
   by_cases c18 : t783 = 1
   ·rw [if_pos c18] at H
    have c18b0 : (t783 == 1) = true := beq_iff_eq.mpr c18
    have c18b1 : (t783 != 1) = false := bne_eq_false_iff_eq.mpr c18
    clear c18
    by_cases c19 : 0 ≤ t780
    ·rw [if_pos c19] at H
     have c19b0 := eq_true c19
     have c19b1 : decide (0 ≤ t780) = true := decide_eq_true c19
     clear c19
     by_cases c20 : t780 ≤ (a1.size : Int)
     ·rw [if_pos c20] at H
      have c20b0 := eq_true c20
      have c20b1 : decide (t780 ≤ (a1.size : Int)) = true := decide_eq_true c20
      clear c20
      obtain ⟨⟨t786, t787, t788⟩, A21, H⟩ := G.bx H
      replace H : ((some (([(t786) % 256] : List Int) : List Int)).bind fun y789 => (if (a1.extract 0 (t780 : Int).toNat).size + (strOfNums y789).size ≤ 9223372036854775807 then (if ((a1.extract 0 (t780 : Int).toNat) ++ (strOfNums y789)).size + (a1.extract (t780 : Int).toNat a1.size).size ≤ 9223372036854775807 then (some (((a1.extract 0 (t780 : Int).toNat) ++ (strOfNums y789)) ++ (a1.extract (t780 : Int).toNat a1.size), t787, t788)) else (none)) else (none))) = some (r1, r2, r3) := H
      obtain ⟨y789, hy789⟩ : ∃ y_ : List Int, y_ = (([(t786) % 256] : List Int)) := ⟨_, rfl⟩
      replace H : (if (a1.extract 0 (t780 : Int).toNat).size + (strOfNums y789).size ≤ 9223372036854775807 then (if ((a1.extract 0 (t780 : Int).toNat) ++ (strOfNums y789)).size + (a1.extract (t780 : Int).toNat a1.size).size ≤ 9223372036854775807 then (some (((a1.extract 0 (t780 : Int).toNat) ++ (strOfNums y789)) ++ (a1.extract (t780 : Int).toNat a1.size), t787, t788)) else (none)) else (none)) = some (r1, r2, r3) := by first | (rw [hy789]; with_reducible exact H) | (have H2_ := (Option.bind_some _ _).symm.trans H; rw [hy789]; with_reducible exact H2_) | (have H2_ := (Option.bind_some _ _).symm.trans H; with_reducible exact H2_) | with_reducible exact H | (rw [hy789]; exact H) | exact H
      have Ny789 := Aside0.mk hy789
      clear hy789
      by_cases c22 : (a1.extract 0 (t780 : Int).toNat).size + (strOfNums y789).size ≤ 9223372036854775807
      ·rw [if_pos c22] at H
       have c22b0 := eq_true c22
       have c22b5 : (9223372036854775807 < t780.toNat + (strOfNums y789).size) = False := eq_false (by have h_ := c22; have q_ := of_eq_true c20b0; simp only [ByteArray.size_extract, ByteArray.size_append] at h_; omega)
       have c22b1 : decide ((a1.extract 0 (t780 : Int).toNat).size + (strOfNums y789).size ≤ 9223372036854775807) = true := decide_eq_true c22
       try have c22b2 : (9223372036854775807 < (a1.extract 0 (t780 : Int).toNat).size + (strOfNums y789).size) = False := eq_false (Nat.not_lt.2 c22)
       have c23b0 := eq_true (G.odt : 0 ≤ t780)
       have c24b0 := eq_true (G.odt : t780 ≤ (a1.size : Int))
       by_cases c25 : ((a1.extract 0 (t780 : Int).toNat) ++ (strOfNums y789)).size + (a1.extract (t780 : Int).toNat a1.size).size ≤ 9223372036854775807
       ·rw [if_pos c25] at H
        have c25b0 := eq_true c25
        have c25b5 : (9223372036854775807 < (t780.toNat + (strOfNums y789).size) + (a1.size - t780.toNat)) = False := eq_false (by have h_ := c25; have q_ := of_eq_true c20b0; simp only [ByteArray.size_extract, ByteArray.size_append] at h_; omega)
        have c25b1 : decide (((a1.extract 0 (t780 : Int).toNat) ++ (strOfNums y789)).size + (a1.extract (t780 : Int).toNat a1.size).size ≤ 9223372036854775807) = true := decide_eq_true c25
        try have c25b2 : (9223372036854775807 < ((a1.extract 0 (t780 : Int).toNat) ++ (strOfNums y789)).size + (a1.extract (t780 : Int).toNat a1.size).size) = False := eq_false (Nat.not_lt.2 c25)
        simp only [Option.some.injEq, Prod.mk.injEq] at H
        obtain ⟨rfl, rfl, rfl⟩ := H
        go_enter Try.func133, Try.ntmps133
        try go_wp2_with (first | ((with_reducible refine gate_callee (f := 127) rfl ?_); refine goesL_ (some 14) rfl rfl Try.func127 (by kernel_rfl) rfl #[.pointer (some ⟨g, 0, none⟩), .int .i64 (a1.size : Int)] rfl G.ar ?_; (with_reducible refine (spec_l1Below.calls g s0_0 s0_1 s0_2 (a1.size : Int) t780 t781 t782 w0 _ ?side1 ?side2 A6.out).mono ?_); (case side1 => repeat (first | (with_reducible first | exact HI0.out | apply IsS111.alloc | apply IsS111.drewN | apply IsS111.drew | apply IsS111.set_1 | apply IsS111.set_2) | exact HI0.out)); (case side2 => repeat (first | (with_reducible first | exact HB.out | apply below_alloc | apply pw_below_drewN | apply below_drew1 | refine below_set ?_ (IsS111.ge HI0.out)) | exact HB.out)); rintro e w26 ⟨rfl, hi, hb, hk⟩; refine ⟨_, rfl, ?_⟩; have n0_ := Aside0.mk (KeepBut.trans (by repeat (first | (with_reducible first | exact HK.out | apply KeepBut.set_ | apply keep_drewN | apply keep_drew | apply keep_alloc) | exact HK.out)) hk (.inl rfl)); have n1_ := Aside0.mk (hb); have n2_ := Aside0.mk (hi); clear HK; clear HB; clear HI0; have HK := n0_; have HB := n1_; have HI0 := n2_; clear n0_ n1_ n2_; (try clear hb); (try clear hb2); (try clear hk); (try clear hi)) | ((with_reducible refine gate_callee (f := 127) rfl ?_); refine goesL_ (some 16) rfl rfl Try.func127 (by kernel_rfl) rfl #[.pointer (some ⟨g, 0, none⟩), .int .i64 4] rfl G.ar ?_; (with_reducible refine (spec_l1Below.calls g s0_0 t781 t782 4 t783 t784 t785 w0 _ ?side1 ?side2 A7.out).mono ?_); (case side1 => repeat (first | (with_reducible first | exact HI0.out | apply IsS111.alloc | apply IsS111.drewN | apply IsS111.drew | apply IsS111.set_1 | apply IsS111.set_2) | exact HI0.out)); (case side2 => repeat (first | (with_reducible first | exact HB.out | apply below_alloc | apply pw_below_drewN | apply below_drew1 | refine below_set ?_ (IsS111.ge HI0.out)) | exact HB.out)); rintro e w27 ⟨rfl, hi, hb, hk⟩; refine ⟨_, rfl, ?_⟩; have n0_ := Aside0.mk (KeepBut.trans (by repeat (first | (with_reducible first | exact HK.out | apply KeepBut.set_ | apply keep_drewN | apply keep_drew | apply keep_alloc) | exact HK.out)) hk (.inl rfl)); have n1_ := Aside0.mk (hb); have n2_ := Aside0.mk (hi); clear HK; clear HB; clear HI0; have HK := n0_; have HB := n1_; have HI0 := n2_; clear n0_ n1_ n2_; (try clear hb); (try clear hb2); (try clear hk); (try clear hi)))
        have n0_ := Aside0.mk (IsS111.drew HI0.out)
        have n1_ := Aside0.mk (keep_drew HK.out)
        have n2_ := Aside0.mk (below_drew1 HB.out)
        clear HI0
        clear HK
        clear HB
        have HI0 := n0_
        have HK := n1_
        have HB := n2_
        clear n0_ n1_ n2_
        refine start_ (n := 14) (S := fun w' => True) (ds := []) #[false, false, false, false, false, false, false, false, false, false, false, false, false, false] (by kernel_rfl) rfl rfl trivial (fun hHeld => ?_); refine with_tabW spec_l1Spoil.tab8 spec_l1Spoil.bits8 (fun HT_ HW_ => ?_)
        generalize w27.drew = w28 at HI0 HK HB hHeld ⊢
        refine pure_ (i := 0) (N := some 29) (v := ?_) (a' := ?_) #[true, false, false, false, false, false, false, false, false, false, false, false, false, false] rfl rfl (any_of HT_.out (by kernel_rfl)) (fun _ _ _ h => h) (Or.inl ⟨by rfl, ?_⟩) ?_ ?_
        rotate_left; (·intro w'; go_simp; with_reducible rfl); rotate_left; (·simp only [Act.put, List.setIfInBounds_toArray, List.set_cons_zero, List.set_cons_succ, i64_w, i32_w]; rfl)
        refine pure_ (i := 1) (N := some 30) (v := ?_) (a' := ?_) #[true, true, false, false, false, false, false, false, false, false, false, false, false, false] rfl rfl (any_of HT_.out (by kernel_rfl)) (fun _ _ _ h => h) (Or.inl ⟨by rfl, ?_⟩) ?_ ?_
        rotate_left; (·intro w'; go_simp; with_reducible rfl); rotate_left; (·simp only [Act.put, List.setIfInBounds_toArray, List.set_cons_zero, List.set_cons_succ, i64_w, i32_w]; rfl)
        refine pure_ (i := 2) (N := some 31) (v := ?_) (a' := ?_) #[true, true, true, false, false, false, false, false, false, false, false, false, false, false] rfl rfl (any_of HT_.out (by kernel_rfl)) (fun _ _ _ h => h) (Or.inl ⟨by rfl, ?_⟩) ?_ ?_
        rotate_left; (·intro w'; go_simp; with_reducible rfl); rotate_left; (·simp only [Act.put, List.setIfInBounds_toArray, List.set_cons_zero, List.set_cons_succ, i64_w, i32_w]; rfl)
        refine pure_ (i := 3) (N := some 32) (v := ?_) (a' := ?_) #[true, true, true, true, false, false, false, false, false, false, false, false, false, false] rfl rfl (any_of HT_.out (by kernel_rfl)) (fun _ _ _ h => h) (Or.inl ⟨by rfl, ?_⟩) ?_ ?_
        rotate_left; (·intro w'; go_simp; with_reducible rfl); rotate_left; (·simp only [Act.put, List.setIfInBounds_toArray, List.set_cons_zero, List.set_cons_succ, i64_w, i32_w]; rfl)
        refine pure_ (i := 9) (N := some 38) (v := ?_) (a' := ?_) #[true, true, true, true, false, false, false, false, false, true, false, false, false, false] rfl rfl (any_of HT_.out (by kernel_rfl)) (fun _ _ _ h => h) (Or.inl ⟨by rfl, ?_⟩) ?_ ?_
        rotate_left; (·intro w'; go_simp; with_reducible rfl); rotate_left; (·simp only [Act.put, List.setIfInBounds_toArray, List.set_cons_zero, List.set_cons_succ, i64_w, i32_w]; rfl)
        refine pure_ (i := 10) (N := some 39) (v := ?_) (a' := ?_) #[true, true, true, true, false, false, false, false, false, true, true, false, false, false] rfl rfl (any_of HT_.out (by kernel_rfl)) (fun _ _ _ h => h) (Or.inl ⟨by rfl, ?_⟩) ?_ ?_
        rotate_left; (·intro w'; go_simp; with_reducible rfl); rotate_left; (·simp only [Act.put, List.setIfInBounds_toArray, List.set_cons_zero, List.set_cons_succ, i64_w, i32_w]; rfl)
        refine pure_ (i := 11) (N := some 40) (v := ?_) (a' := ?_) #[true, true, true, true, false, false, false, false, false, true, true, true, false, false] rfl rfl (any_of HT_.out (by kernel_rfl)) (fun _ _ _ h => h) (Or.inl ⟨by rfl, ?_⟩) ?_ ?_
        rotate_left; (·intro w'; go_simp; with_reducible rfl); rotate_left; (·simp only [Act.put, List.setIfInBounds_toArray, List.set_cons_zero, List.set_cons_succ, i64_w, i32_w]; rfl)
        refine one_ (i := 4) (N := some 33) #[true, true, true, true, true, false, false, false, false, true, true, true, false, false] rfl rfl (one_of HT_.out (by kernel_rfl)) (by decide) (fun K hK => ?_)
        refine goes_ Try.func163 (by kernel_rfl) rfl #[.pointer (some ⟨g, 0, none⟩)] (by rfl) rfl rfl G.ar ?_
        with_reducible refine (spec_l1Byte.calls g s0_0 t784 t785 t786 t787 t788 w0 _ ?side1 ?side2 A21.out).mono ?_
        (case side1 => repeat (first | (with_reducible first | exact HI0.out | apply IsS111.alloc | apply IsS111.drewN | apply IsS111.drew | apply IsS111.set_1 | apply IsS111.set_2) | exact HI0.out))
        (case side2 => repeat (first | (with_reducible first | exact HB.out | apply below_alloc | apply pw_below_drewN | apply below_drew1 | refine below_set ?_ (IsS111.ge HI0.out)) | exact HB.out))
        rintro e w29 ⟨rfl, hi, hb, hk⟩
        refine ⟨_, rfl, ?_⟩
        have n0_ := Aside0.mk (KeepBut.trans (by repeat (first | (with_reducible first | exact HK.out | apply KeepBut.set_ | apply keep_drewN | apply keep_drew | apply keep_alloc) | exact HK.out)) hk (.inl rfl))
        have n1_ := Aside0.mk (hb)
        have n2_ := Aside0.mk (hi)
        clear HK
        clear HB
        clear HI0
        have HK := n0_
        have HB := n1_
        have HI0 := n2_
        clear n0_ n1_ n2_
        (try clear hb)
        (try clear hb2)
        (try clear hk)
        (try clear hi)
        refine hK.out _ _ trivial (fun hHeld => ?_)
        clear hK K
        refine norm_ (a' := ?_) ?_ ?_
        rotate_left
        ·show Act.put _ (some 33) _ = _
         simp only [Act.put, List.setIfInBounds_toArray, List.set_cons_zero, List.set_cons_succ, i64_w, i32_w]
         rfl
        refine pure_ (i := 5) (N := some 34) (v := ?_) (a' := ?_) #[true, true, true, true, true, true, false, false, false, true, true, true, false, false] rfl rfl (any_of HT_.out (by kernel_rfl)) (fun _ _ _ h => h) (Or.inl ⟨by rfl, ?_⟩) ?_ ?_
        rotate_left; (·intro w'; go_simp; with_reducible rfl); rotate_left; (·simp only [Act.put, List.setIfInBounds_toArray, List.set_cons_zero, List.set_cons_succ, i64_w, i32_w]; rfl)
        refine one_ (i := 6) (N := some 35) #[true, true, true, true, true, true, true, false, false, true, true, true, false, false] rfl rfl (one_of HT_.out (by kernel_rfl)) (by decide) (fun K hK => ?_)
        refine Kd.R_lit_step (Kd.int .u8) _ 5 ?hg (N := 35) ?hd (xs := ([(t786) % 256] : List Int)) (inner := [.int .u8 ((t786) % 256)]) (ok := fun _ => True) (okp := fun _ => True) ?hr ?hp (fun _ hk => hk) trivial (Below.refl _ _) (Nat.le_refl _) (by simp) ?_; (case hd => rfl); (case hg => rfl); (case hr => first | (go_simp; done) | (go_simp; rfl)); (case hp => exact (Reps.one (show Kd.M (Kd.int .u8) _ _ _ ((t786) % 256) [.int .u8 ((t786) % 256)] from rfl) (Reps.none _ _)))
        intro v790 w30 ho31 hb hg_ hnew_
        clear hg_ hnew_
        (first | rw [← Ny789.out] at ho31 | (simp only [Int.reduceToNat] at ho31; rw [← Ny789.out] at ho31))
        have n0_ := Aside0.mk (Kd.R_lower ho31 (keep_size (w := w) (g := g) (row := none) (by repeat (first | (with_reducible first | exact HK.out | apply KeepBut.set_ | apply keep_drewN | apply keep_drew | apply keep_alloc) | exact HK.out))))
        have n1_ := Aside0.mk (IsS111.below (by repeat (first | (with_reducible first | exact HI0.out | apply IsS111.alloc | apply IsS111.drewN | apply IsS111.drew | apply IsS111.set_1 | apply IsS111.set_2) | exact HI0.out)) hb)
        have n2_ := Aside0.mk (KeepBut.trans (by repeat (first | (with_reducible first | exact HK.out | apply KeepBut.set_ | apply keep_drewN | apply keep_drew | apply keep_alloc) | exact HK.out)) (KeepBut.of_below hb g none) (.inl rfl))
        have n3_ := Aside0.mk (below_step (by repeat (first | (with_reducible first | exact HB.out | apply below_alloc | apply pw_below_drewN | apply below_drew1 | refine below_set ?_ (IsS111.ge HI0.out)) | exact HB.out)) hb)
        clear HI0
        clear HK
        clear HB
        have HO791 := n0_
        have HI0 := n1_
        have HK := n2_
        have HB := n3_
        clear n0_ n1_ n2_ n3_
        clear hb ho31
        refine hK.out _ _ trivial (fun hHeld => ?_)
        clear hK K
        refine norm_ (a' := ?_) ?_ ?_
        rotate_left
        ·show Act.put _ (some 35) _ = _
         simp only [Act.put, List.setIfInBounds_toArray, List.set_cons_zero, List.set_cons_succ, i64_w, i32_w]
         rfl
        refine one_ (i := 7) (N := some 36) #[true, true, true, true, true, true, true, true, false, true, true, true, false, false] rfl rfl (one_of HT_.out (by kernel_rfl)) (by decide) (fun K hK => ?_)
        have hcv32 := own_string (P := Try.prog) Try.underlying48 Try.underlying5 Try.underlying9 (Kd.own_of_R HO791.out)
        refine value_ (w1 := ?_) (v := ?_) (by rfl) rfl ?_ ?_
        rotate_left 2
        ·go_simp
         constructor
         ·rfl
         ·rfl
        clear hcv32
        refine hK.out _ _ trivial (fun hHeld => ?_)
        clear hK K
        refine norm_ (a' := ?_) ?_ ?_
        rotate_left
        ·show Act.put _ (some 36) _ = _
         simp only [Act.put, List.setIfInBounds_toArray, List.set_cons_zero, List.set_cons_succ, i64_w, i32_w]
         rfl
        refine pure_ (i := 8) (N := some 37) (v := ?_) (a' := ?_) #[true, true, true, true, true, true, true, true, true, true, true, true, false, false] rfl rfl (any_of HT_.out (by kernel_rfl)) (fun _ _ _ h => h) (Or.inl ⟨by rfl, ?_⟩) ?_ ?_
        rotate_left; (·intro w'; go_simp; with_reducible rfl); rotate_left; (·simp only [Act.put, List.setIfInBounds_toArray, List.set_cons_zero, List.set_cons_succ, i64_w, i32_w]; rfl)
        refine pure_ (i := 12) (N := some 41) (v := ?_) (a' := ?_) #[true, true, true, true, true, true, true, true, true, true, true, true, true, false] rfl rfl (any_of HT_.out (by kernel_rfl)) (fun _ _ _ h => h) (Or.inl ⟨by rfl, ?_⟩) ?_ ?_
        rotate_left; (·intro w'; go_simp; with_reducible rfl); rotate_left; (·simp only [Act.put, List.setIfInBounds_toArray, List.set_cons_zero, List.set_cons_succ, i64_w, i32_w]; rfl)
        refine pure_ (i := 13) (N := some 4) (v := ?_) (a' := ?_) #[true, true, true, true, true, true, true, true, true, true, true, true, true, true] rfl rfl (any_of HT_.out (by kernel_rfl)) (fun _ _ _ h => h) (Or.inl ⟨by rfl, ?_⟩) ?_ ?_
        rotate_left; (·intro w'; go_simp; with_reducible rfl); rotate_left; (·simp only [Act.put, List.setIfInBounds_toArray, List.set_cons_zero, List.set_cons_succ, i64_w, i32_w]; rfl)
        refine done_ (done_of HT_.out (by kernel_rfl)) ?_
        try go_wp2
        go_ret
        exact ⟨G.er, by repeat (first | (with_reducible first | exact HI0.out | apply IsS111.alloc | apply IsS111.drewN | apply IsS111.drew | apply IsS111.set_1 | apply IsS111.set_2) | exact HI0.out), by repeat (first | (with_reducible first | exact HB.out | apply below_alloc | apply pw_below_drewN | apply below_drew1 | refine below_set ?_ (IsS111.ge HI0.out)) | exact HB.out), by repeat (first | (with_reducible first | exact HK.out | apply KeepBut.set_ | apply keep_drewN | apply keep_drew | apply keep_alloc) | exact HK.out)⟩
       ·rw [if_neg c25] at H
        exact absurd H (by simp)
      ·rw [if_neg c22] at H
       exact absurd H (by simp)
     ·rw [if_neg c20] at H
      exact absurd H (by simp)
    ·rw [if_neg c19] at H
     exact absurd H (by simp)
   ·rw [if_neg c18] at H
    have c18b0 : (t783 == 1) = false := beq_eq_false_iff_ne.mpr c18
    have c18b1 : (t783 != 1) = true := bne_iff_ne.mpr c18
    by_cases c33 : t783 = 2
    ·rw [if_pos c33] at H
     have c33b0 : (t783 == 2) = true := beq_iff_eq.mpr c33
     have c33b1 : (t783 != 2) = false := bne_eq_false_iff_eq.mpr c33
     clear c33
     by_cases c34 : 0 ≤ t780
     ·rw [if_pos c34] at H
      have c34b0 := eq_true c34
      have c34b1 : decide (0 ≤ t780) = true := decide_eq_true c34
      clear c34
      by_cases c35 : t780 ≤ (a1.size : Int)
      ·rw [if_pos c35] at H
       have c35b0 := eq_true c35
       have c35b1 : decide (t780 ≤ (a1.size : Int)) = true := decide_eq_true c35
       clear c35
       simp only [Option.some.injEq, Prod.mk.injEq] at H
       obtain ⟨rfl, rfl, rfl⟩ := H
       go_enter Try.func133, Try.ntmps133
       go_wp2_with (first | ((with_reducible refine gate_callee (f := 127) rfl ?_); refine goesL_ (some 14) rfl rfl Try.func127 (by kernel_rfl) rfl #[.pointer (some ⟨g, 0, none⟩), .int .i64 (a1.size : Int)] rfl G.ar ?_; (with_reducible refine (spec_l1Below.calls g s0_0 s0_1 s0_2 (a1.size : Int) t780 t781 t782 w0 _ ?side1 ?side2 A6.out).mono ?_); (case side1 => repeat (first | (with_reducible first | exact HI0.out | apply IsS111.alloc | apply IsS111.drewN | apply IsS111.drew | apply IsS111.set_1 | apply IsS111.set_2) | exact HI0.out)); (case side2 => repeat (first | (with_reducible first | exact HB.out | apply below_alloc | apply pw_below_drewN | apply below_drew1 | refine below_set ?_ (IsS111.ge HI0.out)) | exact HB.out)); rintro e w36 ⟨rfl, hi, hb, hk⟩; refine ⟨_, rfl, ?_⟩; have n0_ := Aside0.mk (KeepBut.trans (by repeat (first | (with_reducible first | exact HK.out | apply KeepBut.set_ | apply keep_drewN | apply keep_drew | apply keep_alloc) | exact HK.out)) hk (.inl rfl)); have n1_ := Aside0.mk (hb); have n2_ := Aside0.mk (hi); clear HK; clear HB; clear HI0; have HK := n0_; have HB := n1_; have HI0 := n2_; clear n0_ n1_ n2_; (try clear hb); (try clear hb2); (try clear hk); (try clear hi)) | ((with_reducible refine gate_callee (f := 127) rfl ?_); refine goesL_ (some 16) rfl rfl Try.func127 (by kernel_rfl) rfl #[.pointer (some ⟨g, 0, none⟩), .int .i64 4] rfl G.ar ?_; (with_reducible refine (spec_l1Below.calls g s0_0 t781 t782 4 t783 t784 t785 w0 _ ?side1 ?side2 A7.out).mono ?_); (case side1 => repeat (first | (with_reducible first | exact HI0.out | apply IsS111.alloc | apply IsS111.drewN | apply IsS111.drew | apply IsS111.set_1 | apply IsS111.set_2) | exact HI0.out)); (case side2 => repeat (first | (with_reducible first | exact HB.out | apply below_alloc | apply pw_below_drewN | apply below_drew1 | refine below_set ?_ (IsS111.ge HI0.out)) | exact HB.out)); rintro e w37 ⟨rfl, hi, hb, hk⟩; refine ⟨_, rfl, ?_⟩; have n0_ := Aside0.mk (KeepBut.trans (by repeat (first | (with_reducible first | exact HK.out | apply KeepBut.set_ | apply keep_drewN | apply keep_drew | apply keep_alloc) | exact HK.out)) hk (.inl rfl)); have n1_ := Aside0.mk (hb); have n2_ := Aside0.mk (hi); clear HK; clear HB; clear HI0; have HK := n0_; have HB := n1_; have HI0 := n2_; clear n0_ n1_ n2_; (try clear hb); (try clear hb2); (try clear hk); (try clear hi)))
       go_ret
       exact ⟨G.er, by repeat (first | (with_reducible first | exact HI0.out | apply IsS111.alloc | apply IsS111.drewN | apply IsS111.drew | apply IsS111.set_1 | apply IsS111.set_2) | exact HI0.out), by repeat (first | (with_reducible first | exact HB.out | apply below_alloc | apply pw_below_drewN | apply below_drew1 | refine below_set ?_ (IsS111.ge HI0.out)) | exact HB.out), by repeat (first | (with_reducible first | exact HK.out | apply KeepBut.set_ | apply keep_drewN | apply keep_drew | apply keep_alloc) | exact HK.out)⟩
      ·rw [if_neg c35] at H
       exact absurd H (by simp)
     ·rw [if_neg c34] at H
      exact absurd H (by simp)
    ·rw [if_neg c33] at H
     have c33b0 : (t783 == 2) = false := beq_eq_false_iff_ne.mpr c33
     have c33b1 : (t783 != 2) = true := bne_iff_ne.mpr c33
     by_cases c38 : 0 ≤ t780
     ·rw [if_pos c38] at H
      have c38b0 := eq_true c38
      have c38b1 : decide (0 ≤ t780) = true := decide_eq_true c38
      clear c38
      by_cases c39 : t780 ≤ (a1.size : Int)
      ·rw [if_pos c39] at H
       have c39b0 := eq_true c39
       have c39b1 : decide (t780 ≤ (a1.size : Int)) = true := decide_eq_true c39
       clear c39
       by_cases c40 : t780 < (a1.size : Int)
       ·rw [if_pos c40] at H
        have c40b0 : decide (t780 < (a1.size : Int)) = true := decide_eq_true c40
        clear c40
        obtain ⟨⟨t792, t793, t794⟩, A42, H⟩ := G.bx H
        replace H : ((some (([(Go.bits .xor .i64 (wrap64 (bt a1 t780)) (wrap64 (1 + t792))) % 256] : List Int) : List Int)).bind fun y795 => (if (a1.extract 0 (t780 : Int).toNat).size + (strOfNums y795).size ≤ 9223372036854775807 then (if 0 ≤ (wrap64 (t780 + 1)) then (if (wrap64 (t780 + 1)) ≤ (a1.size : Int) then (if ((a1.extract 0 (t780 : Int).toNat) ++ (strOfNums y795)).size + (a1.extract ((wrap64 (t780 + 1)) : Int).toNat a1.size).size ≤ 9223372036854775807 then (some (((a1.extract 0 (t780 : Int).toNat) ++ (strOfNums y795)) ++ (a1.extract ((wrap64 (t780 + 1)) : Int).toNat a1.size), t793, t794)) else (none)) else (none)) else (none)) else (none))) = some (r1, r2, r3) := H
        obtain ⟨y795, hy795⟩ : ∃ y_ : List Int, y_ = (([(Go.bits .xor .i64 (wrap64 (bt a1 t780)) (wrap64 (1 + t792))) % 256] : List Int)) := ⟨_, rfl⟩
        replace H : (if (a1.extract 0 (t780 : Int).toNat).size + (strOfNums y795).size ≤ 9223372036854775807 then (if 0 ≤ (wrap64 (t780 + 1)) then (if (wrap64 (t780 + 1)) ≤ (a1.size : Int) then (if ((a1.extract 0 (t780 : Int).toNat) ++ (strOfNums y795)).size + (a1.extract ((wrap64 (t780 + 1)) : Int).toNat a1.size).size ≤ 9223372036854775807 then (some (((a1.extract 0 (t780 : Int).toNat) ++ (strOfNums y795)) ++ (a1.extract ((wrap64 (t780 + 1)) : Int).toNat a1.size), t793, t794)) else (none)) else (none)) else (none)) else (none)) = some (r1, r2, r3) := by first | (rw [hy795]; with_reducible exact H) | (have H2_ := (Option.bind_some _ _).symm.trans H; rw [hy795]; with_reducible exact H2_) | (have H2_ := (Option.bind_some _ _).symm.trans H; with_reducible exact H2_) | with_reducible exact H | (rw [hy795]; exact H) | exact H
        have Ny795 := Aside0.mk hy795
        clear hy795
        by_cases c43 : (a1.extract 0 (t780 : Int).toNat).size + (strOfNums y795).size ≤ 9223372036854775807
        ·rw [if_pos c43] at H
         have c43b0 := eq_true c43
         have c43b5 : (9223372036854775807 < t780.toNat + (strOfNums y795).size) = False := eq_false (by have h_ := c43; have q_ := of_eq_true c39b0; simp only [ByteArray.size_extract, ByteArray.size_append] at h_; omega)
         have c43b1 : decide ((a1.extract 0 (t780 : Int).toNat).size + (strOfNums y795).size ≤ 9223372036854775807) = true := decide_eq_true c43
         try have c43b2 : (9223372036854775807 < (a1.extract 0 (t780 : Int).toNat).size + (strOfNums y795).size) = False := eq_false (Nat.not_lt.2 c43)
         obtain ⟨ji44, hji44⟩ : ∃ j_ : Int, (wrap64 (t780 + 1)) = j_ := ⟨_, rfl⟩
         replace H : (if 0 ≤ (ji44) then (if (ji44) ≤ (a1.size : Int) then (if ((a1.extract 0 (t780 : Int).toNat) ++ (strOfNums y795)).size + (a1.extract ((ji44) : Int).toNat a1.size).size ≤ 9223372036854775807 then (some (((a1.extract 0 (t780 : Int).toNat) ++ (strOfNums y795)) ++ (a1.extract ((ji44) : Int).toNat a1.size), t793, t794)) else (none)) else (none)) else (none)) = some (r1, r2, r3) := by first | (rw [hji44] at H; exact H) | (simp only [hji44] at H ⊢; exact H)
         (try rw [hji44] at A6)
         (try rw [hji44] at A7)
         (try rw [hji44] at A42)
         try clear hji11w
         have hji44w : (IntKind.i64.wrap (t780 + 1)) = ji44 := (i64_w _).trans hji44
         by_cases c45 : 0 ≤ (ji44)
         ·rw [if_pos c45] at H
          have c45b0 := eq_true c45
          have c45b1 : decide (0 ≤ (ji44)) = true := decide_eq_true c45
          clear c45
          by_cases c46 : (ji44) ≤ (a1.size : Int)
          ·rw [if_pos c46] at H
           have c46b0 := eq_true c46
           have c46b1 : decide ((ji44) ≤ (a1.size : Int)) = true := decide_eq_true c46
           clear c46
           by_cases c47 : ((a1.extract 0 (t780 : Int).toNat) ++ (strOfNums y795)).size + (a1.extract ((ji44) : Int).toNat a1.size).size ≤ 9223372036854775807
           ·rw [if_pos c47] at H
            have c47b0 := eq_true c47
            have c47b5 : (9223372036854775807 < (t780.toNat + (strOfNums y795).size) + (a1.size - ji44.toNat)) = False := eq_false (by have h_ := c47; have q_ := of_eq_true c39b0; simp only [ByteArray.size_extract, ByteArray.size_append] at h_; omega)
            have c47b1 : decide (((a1.extract 0 (t780 : Int).toNat) ++ (strOfNums y795)).size + (a1.extract ((ji44) : Int).toNat a1.size).size ≤ 9223372036854775807) = true := decide_eq_true c47
            try have c47b2 : (9223372036854775807 < ((a1.extract 0 (t780 : Int).toNat) ++ (strOfNums y795)).size + (a1.extract ((ji44) : Int).toNat a1.size).size) = False := eq_false (Nat.not_lt.2 c47)
            simp only [Option.some.injEq, Prod.mk.injEq] at H
            obtain ⟨rfl, rfl, rfl⟩ := H
            go_enter Try.func133, Try.ntmps133
            try go_wp2_with (first | ((with_reducible refine gate_callee (f := 127) rfl ?_); refine goesL_ (some 14) rfl rfl Try.func127 (by kernel_rfl) rfl #[.pointer (some ⟨g, 0, none⟩), .int .i64 (a1.size : Int)] rfl G.ar ?_; (with_reducible refine (spec_l1Below.calls g s0_0 s0_1 s0_2 (a1.size : Int) t780 t781 t782 w0 _ ?side1 ?side2 A6.out).mono ?_); (case side1 => repeat (first | (with_reducible first | exact HI0.out | apply IsS111.alloc | apply IsS111.drewN | apply IsS111.drew | apply IsS111.set_1 | apply IsS111.set_2) | exact HI0.out)); (case side2 => repeat (first | (with_reducible first | exact HB.out | apply below_alloc | apply pw_below_drewN | apply below_drew1 | refine below_set ?_ (IsS111.ge HI0.out)) | exact HB.out)); rintro e w48 ⟨rfl, hi, hb, hk⟩; refine ⟨_, rfl, ?_⟩; have n0_ := Aside0.mk (KeepBut.trans (by repeat (first | (with_reducible first | exact HK.out | apply KeepBut.set_ | apply keep_drewN | apply keep_drew | apply keep_alloc) | exact HK.out)) hk (.inl rfl)); have n1_ := Aside0.mk (hb); have n2_ := Aside0.mk (hi); clear HK; clear HB; clear HI0; have HK := n0_; have HB := n1_; have HI0 := n2_; clear n0_ n1_ n2_; (try clear hb); (try clear hb2); (try clear hk); (try clear hi)) | ((with_reducible refine gate_callee (f := 127) rfl ?_); refine goesL_ (some 16) rfl rfl Try.func127 (by kernel_rfl) rfl #[.pointer (some ⟨g, 0, none⟩), .int .i64 4] rfl G.ar ?_; (with_reducible refine (spec_l1Below.calls g s0_0 t781 t782 4 t783 t784 t785 w0 _ ?side1 ?side2 A7.out).mono ?_); (case side1 => repeat (first | (with_reducible first | exact HI0.out | apply IsS111.alloc | apply IsS111.drewN | apply IsS111.drew | apply IsS111.set_1 | apply IsS111.set_2) | exact HI0.out)); (case side2 => repeat (first | (with_reducible first | exact HB.out | apply below_alloc | apply pw_below_drewN | apply below_drew1 | refine below_set ?_ (IsS111.ge HI0.out)) | exact HB.out)); rintro e w49 ⟨rfl, hi, hb, hk⟩; refine ⟨_, rfl, ?_⟩; have n0_ := Aside0.mk (KeepBut.trans (by repeat (first | (with_reducible first | exact HK.out | apply KeepBut.set_ | apply keep_drewN | apply keep_drew | apply keep_alloc) | exact HK.out)) hk (.inl rfl)); have n1_ := Aside0.mk (hb); have n2_ := Aside0.mk (hi); clear HK; clear HB; clear HI0; have HK := n0_; have HB := n1_; have HI0 := n2_; clear n0_ n1_ n2_; (try clear hb); (try clear hb2); (try clear hk); (try clear hi)))
            have n0_ := Aside0.mk (IsS111.drew HI0.out)
            have n1_ := Aside0.mk (keep_drew HK.out)
            have n2_ := Aside0.mk (below_drew1 HB.out)
            clear HI0
            clear HK
            clear HB
            have HI0 := n0_
            have HK := n1_
            have HB := n2_
            clear n0_ n1_ n2_
            have p41 : 0 ≤ (t780 : Int) := G.odt
            have q41 : t780 < (a1.size : Int) := G.odt
            have hx41 := bt_at a1 t780
            replace p41 := eq_true p41
            replace q41 := eq_true q41
            refine start_ (n := 21) (S := fun w' => True) (ds := []) #[false, false, false, false, false, false, false, false, false, false, false, false, false, false, false, false, false, false, false, false, false] (by kernel_rfl) rfl rfl trivial (fun hHeld => ?_); refine with_tabW spec_l1Spoil.tab11 spec_l1Spoil.bits11 (fun HT_ HW_ => ?_)
            generalize w49.drew = w50 at HI0 HK HB hHeld ⊢
            refine pure_ (i := 0) (N := some 47) (v := ?_) (a' := ?_) #[true, false, false, false, false, false, false, false, false, false, false, false, false, false, false, false, false, false, false, false, false] rfl rfl (any_of HT_.out (by kernel_rfl)) (fun _ _ _ h => h) (Or.inl ⟨by rfl, ?_⟩) ?_ ?_
            rotate_left; (·intro w'; go_simp; with_reducible rfl); rotate_left; (·simp only [Act.put, List.setIfInBounds_toArray, List.set_cons_zero, List.set_cons_succ, i64_w, i32_w]; rfl)
            refine pure_ (i := 1) (N := some 48) (v := ?_) (a' := ?_) #[true, true, false, false, false, false, false, false, false, false, false, false, false, false, false, false, false, false, false, false, false] rfl rfl (any_of HT_.out (by kernel_rfl)) (fun _ _ _ h => h) (Or.inl ⟨by rfl, ?_⟩) ?_ ?_
            rotate_left; (·intro w'; go_simp; with_reducible rfl); rotate_left; (·simp only [Act.put, List.setIfInBounds_toArray, List.set_cons_zero, List.set_cons_succ, i64_w, i32_w]; rfl)
            refine pure_ (i := 2) (N := some 49) (v := ?_) (a' := ?_) #[true, true, true, false, false, false, false, false, false, false, false, false, false, false, false, false, false, false, false, false, false] rfl rfl (any_of HT_.out (by kernel_rfl)) (fun _ _ _ h => h) (Or.inl ⟨by rfl, ?_⟩) ?_ ?_
            rotate_left; (·intro w'; go_simp; with_reducible rfl); rotate_left; (·simp only [Act.put, List.setIfInBounds_toArray, List.set_cons_zero, List.set_cons_succ, i64_w, i32_w]; rfl)
            refine pure_ (i := 3) (N := some 50) (v := ?_) (a' := ?_) #[true, true, true, true, false, false, false, false, false, false, false, false, false, false, false, false, false, false, false, false, false] rfl rfl (any_of HT_.out (by kernel_rfl)) (fun _ _ _ h => h) (Or.inl ⟨by rfl, ?_⟩) ?_ ?_
            rotate_left; (·intro w'; go_simp; with_reducible rfl); rotate_left; (·simp only [Act.put, List.setIfInBounds_toArray, List.set_cons_zero, List.set_cons_succ, i64_w, i32_w]; rfl)
            refine pure_ (i := 4) (N := some 51) (v := ?_) (a' := ?_) #[true, true, true, true, true, false, false, false, false, false, false, false, false, false, false, false, false, false, false, false, false] rfl rfl (any_of HT_.out (by kernel_rfl)) (fun _ _ _ h => h) (Or.inl ⟨by rfl, ?_⟩) ?_ ?_
            rotate_left; (·intro w'; go_simp; with_reducible rfl); rotate_left; (·simp only [Act.put, List.setIfInBounds_toArray, List.set_cons_zero, List.set_cons_succ, i64_w, i32_w]; rfl)
            refine pure_ (i := 7) (N := some 54) (v := ?_) (a' := ?_) #[true, true, true, true, true, false, false, true, false, false, false, false, false, false, false, false, false, false, false, false, false] rfl rfl (any_of HT_.out (by kernel_rfl)) (fun _ _ _ h => h) (Or.inl ⟨by rfl, ?_⟩) ?_ ?_
            rotate_left; (·intro w'; go_simp; with_reducible rfl); rotate_left; (·simp only [Act.put, List.setIfInBounds_toArray, List.set_cons_zero, List.set_cons_succ, i64_w, i32_w]; rfl)
            refine pure_ (i := 15) (N := some 62) (v := ?_) (a' := ?_) #[true, true, true, true, true, false, false, true, false, false, false, false, false, false, false, true, false, false, false, false, false] rfl rfl (any_of HT_.out (by kernel_rfl)) (fun _ _ _ h => h) (Or.inl ⟨by rfl, ?_⟩) ?_ ?_
            rotate_left; (·intro w'; go_simp; with_reducible rfl); rotate_left; (·simp only [Act.put, List.setIfInBounds_toArray, List.set_cons_zero, List.set_cons_succ, i64_w, i32_w]; rfl)
            refine pure_ (i := 16) (N := some 63) (v := ?_) (a' := ?_) #[true, true, true, true, true, false, false, true, false, false, false, false, false, false, false, true, true, false, false, false, false] rfl rfl (any_of HT_.out (by kernel_rfl)) (fun _ _ _ h => h) (Or.inl ⟨by rfl, ?_⟩) ?_ ?_
            rotate_left; (·intro w'; go_simp; with_reducible rfl); rotate_left; (·simp only [Act.put, List.setIfInBounds_toArray, List.set_cons_zero, List.set_cons_succ, i64_w, i32_w]; rfl)
            refine pure_ (i := 17) (N := some 64) (v := ?_) (a' := ?_) #[true, true, true, true, true, false, false, true, false, false, false, false, false, false, false, true, true, true, false, false, false] rfl rfl (any_of HT_.out (by kernel_rfl)) (fun _ _ _ h => h) (Or.inl ⟨by rfl, ?_⟩) ?_ ?_
            rotate_left; (·intro w'; go_simp; with_reducible rfl); rotate_left; (·simp only [Act.put, List.setIfInBounds_toArray, List.set_cons_zero, List.set_cons_succ, i64_w, i32_w]; rfl)
            refine pure_ (i := 18) (N := some 65) (v := ?_) (a' := ?_) #[true, true, true, true, true, false, false, true, false, false, false, false, false, false, false, true, true, true, true, false, false] rfl rfl (any_of HT_.out (by kernel_rfl)) (fun _ _ _ h => h) (Or.inl ⟨by rfl, ?_⟩) ?_ ?_
            rotate_left; (·intro w'; go_simp; with_reducible rfl); rotate_left; (·simp only [Act.put, List.setIfInBounds_toArray, List.set_cons_zero, List.set_cons_succ, i64_w, i32_w]; rfl)
            refine take_ (i := 5) (N := some 52) (v := ?_) (a' := ?_) #[true, true, true, true, true, true, false, true, false, false, false, false, false, false, false, true, true, true, true, false, false] rfl rfl (take_ofW HT_.out HW_.out (by kernel_rfl)) (fun _ _ _ h => h) (Or.inl ⟨by rfl, ?_⟩) hHeld ?_ ?_
            rotate_left; (·intro w' _; go_simp; with_reducible rfl); rotate_left; (·simp only [Act.put, List.setIfInBounds_toArray, List.set_cons_zero, List.set_cons_succ, i64_w, i32_w]; rfl)
            refine pure_ (i := 6) (N := some 53) (v := ?_) (a' := ?_) #[true, true, true, true, true, true, true, true, false, false, false, false, false, false, false, true, true, true, true, false, false] rfl rfl (any_of HT_.out (by kernel_rfl)) (fun _ _ _ h => h) (Or.inl ⟨by rfl, ?_⟩) ?_ ?_
            rotate_left; (·intro w'; go_simp; with_reducible rfl); rotate_left; (·simp only [Act.put, List.setIfInBounds_toArray, List.set_cons_zero, List.set_cons_succ, i64_w, i32_w]; rfl)
            refine one_ (i := 8) (N := some 55) #[true, true, true, true, true, true, true, true, true, false, false, false, false, false, false, true, true, true, true, false, false] rfl rfl (one_of HT_.out (by kernel_rfl)) (by decide) (fun K hK => ?_)
            refine goes_ Try.func127 (by kernel_rfl) rfl #[.pointer (some ⟨g, 0, none⟩), .int .i64 255] (by rfl) rfl rfl G.ar ?_
            with_reducible refine (spec_l1Below.calls g s0_0 t784 t785 255 t792 t793 t794 w0 _ ?side1 ?side2 A42.out).mono ?_
            (case side1 => repeat (first | (with_reducible first | exact HI0.out | apply IsS111.alloc | apply IsS111.drewN | apply IsS111.drew | apply IsS111.set_1 | apply IsS111.set_2) | exact HI0.out))
            (case side2 => repeat (first | (with_reducible first | exact HB.out | apply below_alloc | apply pw_below_drewN | apply below_drew1 | refine below_set ?_ (IsS111.ge HI0.out)) | exact HB.out))
            rintro e w51 ⟨rfl, hi, hb, hk⟩
            refine ⟨_, rfl, ?_⟩
            have n0_ := Aside0.mk (KeepBut.trans (by repeat (first | (with_reducible first | exact HK.out | apply KeepBut.set_ | apply keep_drewN | apply keep_drew | apply keep_alloc) | exact HK.out)) hk (.inl rfl))
            have n1_ := Aside0.mk (hb)
            have n2_ := Aside0.mk (hi)
            clear HK
            clear HB
            clear HI0
            have HK := n0_
            have HB := n1_
            have HI0 := n2_
            clear n0_ n1_ n2_
            (try clear hb)
            (try clear hb2)
            (try clear hk)
            (try clear hi)
            refine hK.out _ _ trivial (fun hHeld => ?_)
            clear hK K
            refine norm_ (a' := ?_) ?_ ?_
            rotate_left
            ·show Act.put _ (some 55) _ = _
             simp only [Act.put, List.setIfInBounds_toArray, List.set_cons_zero, List.set_cons_succ, i64_w, i32_w]
             rfl
            refine pure_ (i := 9) (N := some 56) (v := ?_) (a' := ?_) #[true, true, true, true, true, true, true, true, true, true, false, false, false, false, false, true, true, true, true, false, false] rfl rfl (any_of HT_.out (by kernel_rfl)) (fun _ _ _ h => h) (Or.inl ⟨by rfl, ?_⟩) ?_ ?_
            rotate_left; (·intro w'; go_simp; with_reducible rfl); rotate_left; (·simp only [Act.put, List.setIfInBounds_toArray, List.set_cons_zero, List.set_cons_succ, i64_w, i32_w]; rfl)
            refine pure_ (i := 10) (N := some 57) (v := ?_) (a' := ?_) #[true, true, true, true, true, true, true, true, true, true, true, false, false, false, false, true, true, true, true, false, false] rfl rfl (any_of HT_.out (by kernel_rfl)) (fun _ _ _ h => h) (Or.inl ⟨by rfl, ?_⟩) ?_ ?_
            rotate_left; (·intro w'; go_simp; with_reducible rfl); rotate_left; (·simp only [Act.put, List.setIfInBounds_toArray, List.set_cons_zero, List.set_cons_succ, i64_w, i32_w]; rfl)
            refine pure_ (i := 11) (N := some 58) (v := ?_) (a' := ?_) #[true, true, true, true, true, true, true, true, true, true, true, true, false, false, false, true, true, true, true, false, false] rfl rfl (any_of HT_.out (by kernel_rfl)) (fun _ _ _ h => h) (Or.inl ⟨by rfl, ?_⟩) ?_ ?_
            rotate_left; (·intro w'; go_simp; with_reducible rfl); rotate_left; (·simp only [Act.put, List.setIfInBounds_toArray, List.set_cons_zero, List.set_cons_succ, i64_w, i32_w]; rfl)
            refine one_ (i := 12) (N := some 59) #[true, true, true, true, true, true, true, true, true, true, true, true, true, false, false, true, true, true, true, false, false] rfl rfl (one_of HT_.out (by kernel_rfl)) (by decide) (fun K hK => ?_)
            refine Kd.R_lit_step (Kd.int .u8) _ 5 ?hg (N := 59) ?hd (xs := ([(Go.bits .xor .i64 (wrap64 (bt a1 t780)) (wrap64 (1 + t792))) % 256] : List Int)) (inner := [.int .u8 ((Go.bits .xor .i64 (wrap64 (bt a1 t780)) (wrap64 (1 + t792))) % 256)]) (ok := fun _ => True) (okp := fun _ => True) ?hr ?hp (fun _ hk => hk) trivial (Below.refl _ _) (Nat.le_refl _) (by simp) ?_; (case hd => rfl); (case hg => rfl); (case hr => first | (go_simp; done) | (go_simp; rfl)); (case hp => exact (Reps.one (show Kd.M (Kd.int .u8) _ _ _ ((Go.bits .xor .i64 (wrap64 (bt a1 t780)) (wrap64 (1 + t792))) % 256) [.int .u8 ((Go.bits .xor .i64 (wrap64 (bt a1 t780)) (wrap64 (1 + t792))) % 256)] from rfl) (Reps.none _ _)))
            intro v796 w52 ho53 hb hg_ hnew_
            clear hg_ hnew_
            (first | rw [← Ny795.out] at ho53 | (simp only [Int.reduceToNat] at ho53; rw [← Ny795.out] at ho53))
            have n0_ := Aside0.mk (Kd.R_lower ho53 (keep_size (w := w) (g := g) (row := none) (by repeat (first | (with_reducible first | exact HK.out | apply KeepBut.set_ | apply keep_drewN | apply keep_drew | apply keep_alloc) | exact HK.out))))
            have n1_ := Aside0.mk (IsS111.below (by repeat (first | (with_reducible first | exact HI0.out | apply IsS111.alloc | apply IsS111.drewN | apply IsS111.drew | apply IsS111.set_1 | apply IsS111.set_2) | exact HI0.out)) hb)
            have n2_ := Aside0.mk (KeepBut.trans (by repeat (first | (with_reducible first | exact HK.out | apply KeepBut.set_ | apply keep_drewN | apply keep_drew | apply keep_alloc) | exact HK.out)) (KeepBut.of_below hb g none) (.inl rfl))
            have n3_ := Aside0.mk (below_step (by repeat (first | (with_reducible first | exact HB.out | apply below_alloc | apply pw_below_drewN | apply below_drew1 | refine below_set ?_ (IsS111.ge HI0.out)) | exact HB.out)) hb)
            clear HI0
            clear HK
            clear HB
            have HO797 := n0_
            have HI0 := n1_
            have HK := n2_
            have HB := n3_
            clear n0_ n1_ n2_ n3_
            clear hb ho53
            refine hK.out _ _ trivial (fun hHeld => ?_)
            clear hK K
            refine norm_ (a' := ?_) ?_ ?_
            rotate_left
            ·show Act.put _ (some 59) _ = _
             simp only [Act.put, List.setIfInBounds_toArray, List.set_cons_zero, List.set_cons_succ, i64_w, i32_w]
             rfl
            refine one_ (i := 13) (N := some 60) #[true, true, true, true, true, true, true, true, true, true, true, true, true, true, false, true, true, true, true, false, false] rfl rfl (one_of HT_.out (by kernel_rfl)) (by decide) (fun K hK => ?_)
            have hcv54 := own_string (P := Try.prog) Try.underlying48 Try.underlying5 Try.underlying9 (Kd.own_of_R HO797.out)
            refine value_ (w1 := ?_) (v := ?_) (by rfl) rfl ?_ ?_
            rotate_left 2
            ·go_simp
             constructor
             ·rfl
             ·rfl
            clear hcv54
            refine hK.out _ _ trivial (fun hHeld => ?_)
            clear hK K
            refine norm_ (a' := ?_) ?_ ?_
            rotate_left
            ·show Act.put _ (some 60) _ = _
             simp only [Act.put, List.setIfInBounds_toArray, List.set_cons_zero, List.set_cons_succ, i64_w, i32_w]
             rfl
            refine pure_ (i := 14) (N := some 61) (v := ?_) (a' := ?_) #[true, true, true, true, true, true, true, true, true, true, true, true, true, true, true, true, true, true, true, false, false] rfl rfl (any_of HT_.out (by kernel_rfl)) (fun _ _ _ h => h) (Or.inl ⟨by rfl, ?_⟩) ?_ ?_
            rotate_left; (·intro w'; go_simp; with_reducible rfl); rotate_left; (·simp only [Act.put, List.setIfInBounds_toArray, List.set_cons_zero, List.set_cons_succ, i64_w, i32_w]; rfl)
            refine pure_ (i := 19) (N := some 66) (v := ?_) (a' := ?_) #[true, true, true, true, true, true, true, true, true, true, true, true, true, true, true, true, true, true, true, true, false] rfl rfl (any_of HT_.out (by kernel_rfl)) (fun _ _ _ h => h) (Or.inl ⟨by rfl, ?_⟩) ?_ ?_
            rotate_left; (·intro w'; go_simp; with_reducible rfl); rotate_left; (·simp only [Act.put, List.setIfInBounds_toArray, List.set_cons_zero, List.set_cons_succ, i64_w, i32_w]; rfl)
            refine pure_ (i := 20) (N := some 4) (v := ?_) (a' := ?_) #[true, true, true, true, true, true, true, true, true, true, true, true, true, true, true, true, true, true, true, true, true] rfl rfl (any_of HT_.out (by kernel_rfl)) (fun _ _ _ h => h) (Or.inl ⟨by rfl, ?_⟩) ?_ ?_
            rotate_left; (·intro w'; go_simp; with_reducible rfl); rotate_left; (·simp only [Act.put, List.setIfInBounds_toArray, List.set_cons_zero, List.set_cons_succ, i64_w, i32_w]; rfl)
            refine done_ (done_of HT_.out (by kernel_rfl)) ?_
            try go_wp2
            go_ret
            exact ⟨by first | rfl | (simp [errW_none, errW_some] <;> rfl) | (simp only [← hji44]; first | rfl | (simp [errW_none, errW_some] <;> rfl)) | (simp [*, errW_none, errW_some] <;> rfl), by repeat (first | (with_reducible first | exact HI0.out | apply IsS111.alloc | apply IsS111.drewN | apply IsS111.drew | apply IsS111.set_1 | apply IsS111.set_2) | exact HI0.out), by repeat (first | (with_reducible first | exact HB.out | apply below_alloc | apply pw_below_drewN | apply below_drew1 | refine below_set ?_ (IsS111.ge HI0.out)) | exact HB.out), by repeat (first | (with_reducible first | exact HK.out | apply KeepBut.set_ | apply keep_drewN | apply keep_drew | apply keep_alloc) | exact HK.out)⟩
           ·rw [if_neg c47] at H
            exact absurd H (by simp)
          ·rw [if_neg c46] at H
           exact absurd H (by simp)
         ·rw [if_neg c45] at H
          exact absurd H (by simp)
        ·rw [if_neg c43] at H
         exact absurd H (by simp)
       ·rw [if_neg c40] at H
        exact absurd H (by simp)
      ·rw [if_neg c39] at H
       exact absurd H (by simp)
     ·rw [if_neg c38] at H
      exact absurd H (by simp)

/-! ### spec_DrawParseWord: own walk, a loose contract -/
-- lib: GDraw
section
open Go.Proofs.Ytolikggioekalab.G
def FWok : Prop := ∀ u : List Int, u.length ≤ 200 → ∃ K s, spec_FormatWord.f K u = some s ∧ s.size ≤ 200
theorem strOfNums_size (xs : List Int) : (strOfNums xs).size = xs.length := by simp [strOfNums, ByteArray.size]
theorem ext_size (s : ByteArray) (a b : Nat) : (s.extract a b).size ≤ s.size := by simp [ByteArray.size_extract]; omega
theorem app_size (s t : ByteArray) : (s ++ t).size = s.size + t.size := by simp
theorem text_some {l : List Int} (st : Int) (hl : l.length ≤ 1048576) (d : Nat) : ∀ (acc : List Int) (m i h : Int), 0 ≤ i → i ≤ 1048576 → m ≤ d → m ≤ 256 → acc.length + m.toNat ≤ 250 → ∀ K, d < K → ∃ r j k, spec_l1Text.l0 K acc st m l i h = some (r, j, k) ∧ r.size ≤ 250 := by
 induction d with
 | zero =>
  intro acc m i h h0 h1 h2 h3 h4 K hK
  obtain ⟨K, rfl⟩ : ∃ K', K = K' + 1 := ⟨K - 1, by omega⟩
  simp only [spec_l1Text.l0]
  rw [if_neg (by omega)]
  exact ⟨_, _, _, rfl, by rw [strOfNums_size]; omega⟩
 | succ d ih =>
  intro acc m i h h0 h1 h2 h3 h4 K hK
  obtain ⟨K, rfl⟩ : ∃ K', K = K' + 1 := ⟨K - 1, by omega⟩
  simp only [spec_l1Text.l0]
  by_cases c : m > 0
  ·obtain ⟨r, j, k, e, g1, g2, g3, g4⟩ := byte_some (h := h) hl h0 h1
   have i2 : ∀ x : Int, ∃ r j' k', spec_l1Text.l0 K (acc ++ [x]) st (m - 1) l j k = some (r, j', k') ∧ r.size ≤ 250 := fun x => ih (acc ++ [x]) (m - 1) j k g3 g4 (by omega) (by omega) (by rw [List.length_append, List.length_singleton]; omega) K (by omega)
   rw [if_pos c, e]
   simp only [Option.bind_some]
   simp only [show wrap64 (m - 1) = m - 1 by unfold wrap64; omega, if_pos (show acc.length < 140737488355328 by omega)]
   split
   ·split
    ·exact i2 _
    ·exact i2 _
   ·split
    ·exact i2 _
    ·exact i2 _
  ·rw [if_neg c]
   exact ⟨_, _, _, rfl, by rw [strOfNums_size]; omega⟩
theorem pick_any {l : List Int} {i h : Int} (xs : List ByteArray) (hl : l.length ≤ 1048576) (h0 : 0 ≤ i) (h1 : i ≤ 1048576) (hx : 1 ≤ xs.length) (hn : xs.length ≤ 256) (m : Nat) (hm : ∀ x ∈ xs, x.size ≤ m) : ∃ r j k, spec_l1Pick.f l i h xs = some (r, j, k) ∧ r.size ≤ m := by
 obtain ⟨r, j, k, e, g1, g3, g4, g5⟩ := below_any (h := h) (xs.length : Int) hl h0 h1 (by omega)
 have g := g3 (by omega)
 unfold spec_l1Pick.f
 rw [e]
 simp only [Option.bind_some]
 rw [if_pos g1, if_pos g]
 exact ⟨_, _, _, rfl, hm _ (mem_getD (by omega))⟩
theorem spoil_any {l : List Int} {i h : Int} (s : ByteArray) (hs : s.size ≤ 200) (hl : l.length ≤ 1048576) (h0 : 0 ≤ i) (h1 : i ≤ 1048576) : ∃ K r j k, spec_l1Spoil.f K l i h s = some (r, j, k) ∧ r.size ≤ 250 := by
 by_cases c0 : (s.size : Int) = 0
 ·obtain ⟨a, j1, k1, e1, a1, a2, a3, a4⟩ := below_any (h := h) 4 hl h0 h1 (by omega)
  obtain ⟨m, j2, k2, e2, m1, m2, m3, m4⟩ := below_any (h := k1) 4 hl a3 a4 (by omega)
  have hm := m2 (by omega)
  obtain ⟨K, hK⟩ : ∃ K : Nat, 10 < K := ⟨20, by omega⟩
  obtain ⟨r, j, k, e, hr⟩ := text_some a hl 10 [] m j2 k2 m3 m4 (by omega) (by omega) (by simp; omega) K hK
  refine ⟨K, r, j, k, ?_, hr⟩
  unfold spec_l1Spoil.f
  rw [if_pos c0]
  unfold spec_l1Text.f
  rw [e1]
  simp only [Option.bind_some]
  rw [show wrap64 (3 + 1) = 4 by unfold wrap64; omega, e2]
  simp only [Option.bind_some]
  rw [e]
  rfl
 ·obtain ⟨n, j1, k1, e1, n1, n2, n3, n4⟩ := below_any (h := h) (s.size : Int) hl h0 h1 (by omega)
  have hn := n2 (by omega)
  obtain ⟨a, j2, k2, e2, a1, a2, a3, a4⟩ := below_any (h := k1) 4 hl n3 n4 (by omega)
  obtain ⟨x, j3, k3, e3, x1, x2, x3, x4⟩ := byte_some (h := k2) hl a3 a4
  obtain ⟨y, j4, k4, e4, y1, y2, y3, y4⟩ := below_any (h := k2) 255 hl a3 a4 (by omega)
  have w1 : wrap64 (n + 1) = n + 1 := by unfold wrap64; omega
  have z1 := ext_size s 0 n.toNat
  have z2 := ext_size s (n + 1).toNat s.size
  have z3 := ext_size s n.toNat s.size
  refine ⟨0, ?_⟩
  unfold spec_l1Spoil.f
  rw [if_neg c0, e1]
  simp only [Option.bind_some]
  rw [e2]
  simp only [Option.bind_some, w1]
  by_cases c1 : a = 0
  ·rw [if_pos c1, if_pos n1, if_pos (by omega), if_pos (by omega), if_pos (by omega), if_pos (by omega)]
   refine ⟨_, _, _, rfl, ?_⟩
   rw [app_size]
   have h_ : (s.extract 0 n.toNat).size + (s.extract (n + 1).toNat s.size).size ≤ s.size := by simp only [ByteArray.size_extract]; omega
   omega
  ·rw [if_neg c1]
   by_cases c2 : a = 1
   ·rw [if_pos c2, if_pos n1, if_pos (by omega), e3]
    simp only [Option.bind_some]
    rw [if_pos (by rw [strOfNums_size]; simp only [List.length_singleton]; omega), if_pos (by rw [app_size, strOfNums_size]; simp only [List.length_singleton]; omega)]
    refine ⟨_, _, _, rfl, ?_⟩
    rw [app_size, app_size, strOfNums_size]
    have h_ : (s.extract 0 n.toNat).size + (s.extract n.toNat s.size).size ≤ s.size := by simp only [ByteArray.size_extract]; omega
    simp only [List.length_singleton]
    omega
   ·rw [if_neg c2]
    by_cases c3 : a = 2
    ·rw [if_pos c3, if_pos n1, if_pos (by omega)]
     exact ⟨_, _, _, rfl, by omega⟩
    ·rw [if_neg c3, if_pos n1, if_pos (by omega), if_pos hn, e4]
     simp only [Option.bind_some]
     rw [if_pos (by rw [strOfNums_size]; simp only [List.length_singleton]; omega), if_pos (by omega), if_pos (by omega), if_pos (by rw [app_size, strOfNums_size]; simp only [List.length_singleton]; omega)]
     refine ⟨_, _, _, rfl, ?_⟩
     rw [app_size, app_size, strOfNums_size]
     have h_ : (s.extract 0 n.toNat).size + (s.extract (n + 1).toNat s.size).size ≤ s.size := by simp only [ByteArray.size_extract]; omega
     simp only [List.length_singleton]
     omega
def spec_DrawParseWord.Ok (t : ByteArray) : Prop := t.size ≤ 250
theorem spec_DrawParseWord.tells (hFWok : FWok) (t798 : List Int) (t799 t800 : Int) (hl : t798.length ≤ 1048576) (h0 : 0 ≤ t799) (h1 : t799 ≤ 1048576) : ∃ (k : Nat) (r : ByteArray), ((spec_l7Word.f k t798 t799 t800 16).bind fun bt802 => ((spec_FormatWord.f k bt802.1).bind fun t807 => ((spec_l1Below.f t798 bt802.2.1 bt802.2.2 4).bind fun bt808 => (if bt808.1 = 0 then ((spec_l1Spoil.f k t798 bt808.2.1 bt808.2.2 t807).bind fun bt811 => (some bt811.1)) else (if bt808.1 = 1 then ((spec_l1Pick.f t798 bt808.2.1 bt808.2.2 (([(⟨#[]⟩ : ByteArray), (⟨#[101, 109, 112, 116, 121]⟩ : ByteArray), (⟨#[103]⟩ : ByteArray), (⟨#[65]⟩ : ByteArray), (⟨#[48, 49, 32, 49]⟩ : ByteArray), (⟨#[101, 109, 112, 116, 121, 121]⟩ : ByteArray), (⟨#[101]⟩ : ByteArray)] : List ByteArray))).bind fun bt817 => (some bt817.1)) else (some t807)))))) = some r ∧ r.size ≤ 250 := by
 obtain ⟨K1, u, j1, k1, e1, a1, a2, a3⟩ := word_any (h := t800) 16 hl h0 h1 (by omega)
 obtain ⟨K2, s, e2, hs⟩ := hFWok u (by omega)
 obtain ⟨n, j3, k3, e3, n1, n2, n3, n4⟩ := below_any (h := k1) 4 hl a2 a3 (by omega)
 by_cases c1 : n = 0
 ·obtain ⟨K4, r, j4, k4, e4, hr⟩ := spoil_any (h := k3) s hs hl n3 n4
  refine ⟨K1 + K2 + K4, r, ?_, hr⟩
  rw [up_some (fun k => spec_l7Word.mono _ _ _ _ k) e1 (K1 + K2 + K4) (by omega)]
  simp only [Option.bind_some]
  rw [up_some (fun k => spec_FormatWord.mono _ k) e2 (K1 + K2 + K4) (by omega)]
  simp only [Option.bind_some]
  rw [e3]
  simp only [Option.bind_some]
  rw [if_pos c1, up_some (fun k => spec_l1Spoil.mono _ _ _ _ k) e4 (K1 + K2 + K4) (by omega)]
  rfl
 ·by_cases c2 : n = 1
  ·obtain ⟨q, j5, k5, e5, hq⟩ := pick_any (h := k3) ([(⟨#[]⟩ : ByteArray), (⟨#[101, 109, 112, 116, 121]⟩ : ByteArray), (⟨#[103]⟩ : ByteArray), (⟨#[65]⟩ : ByteArray), (⟨#[48, 49, 32, 49]⟩ : ByteArray), (⟨#[101, 109, 112, 116, 121, 121]⟩ : ByteArray), (⟨#[101]⟩ : ByteArray)] : List ByteArray) hl n3 n4 (by decide) (by decide) 6 (by decide)
   refine ⟨K1 + K2, q, ?_, by omega⟩
   rw [up_some (fun k => spec_l7Word.mono _ _ _ _ k) e1 (K1 + K2) (by omega)]
   simp only [Option.bind_some]
   rw [up_some (fun k => spec_FormatWord.mono _ k) e2 (K1 + K2) (by omega)]
   simp only [Option.bind_some]
   rw [e3]
   simp only [Option.bind_some]
   rw [if_neg c1, if_pos c2, e5]
   rfl
  ·refine ⟨K1 + K2, s, ?_, by omega⟩
   rw [up_some (fun k => spec_l7Word.mono _ _ _ _ k) e1 (K1 + K2) (by omega)]
   simp only [Option.bind_some]
   rw [up_some (fun k => spec_FormatWord.mono _ k) e2 (K1 + K2) (by omega)]
   simp only [Option.bind_some]
   rw [e3]
   simp only [Option.bind_some]
   rw [if_neg c1, if_neg c2]
set_option maxHeartbeats 8000000 in
set_option maxRecDepth 100000 in
theorem spec_DrawParseWord.any (A0 : Option Addr) (c0 : Nat) (l0 : List Int) (w : World) (hr0 : Kd.C (Kd.int .u8) w A0 l0.length l0) (hc0 : l0.length ≤ c0) (hl0 : l0.length ≤ 1048576) (hFWok : FWok) :
  Calls Try.prog 64 #[.slice A0 l0.length c0] w fun e w' => ∃ (r : ByteArray), (r.size ≤ 250) ∧ e = .returned (.string r) ∧ Below w.heap.size w w' := by
 have HR0 := Aside0.mk hr0
 have HC0 := Aside0.mk hc0
 clear hr0 hc0
 have HB := Aside0.mk (Below.refl w.heap.size w)
 have HL_ := Aside0.mk hl0
 clear hl0
 have HFWok_ := Aside0.mk hFWok
 clear hFWok
 go_enter Try.func64, Try.ntmps64
 go_upto_region 2 with (first | (go_at_call 122; (with_reducible refine (spec_l1New.any A0 c0 l0 w HR0.out HC0.out HL_.out).mono ?_); rintro e w_a ⟨g801, rfl, hc, hb⟩; have HCu_ := Aside0.mk hc; clear HB; have HB := Aside0.mk hb; clear hc hb))
 obtain ⟨⟨t798, t799, t800, hi_, hl_, h0_, h1_⟩, hB_⟩ := HCu_.out
 have HI801 := Aside0.mk hi_
 clear HB HCu_
 have HB := Aside0.mk hB_
 obtain ⟨k, r, H, hok_⟩ := spec_DrawParseWord.tells HFWok_.out t798 t799 t800 hl_ h0_ h1_
 have HOK_ := Aside0.mk hok_
 clear hok_ hi_ hl_ h0_ h1_ hB_
 obtain ⟨⟨t802, t805, t806⟩, A3, H⟩ := G.bx H
 replace H : ((spec_FormatWord.f k t802).bind fun t807 => ((spec_l1Below.f t798 t805 t806 4).bind fun bt808 => (if bt808.1 = 0 then ((spec_l1Spoil.f k t798 bt808.2.1 bt808.2.2 t807).bind fun bt811 => (some bt811.1)) else (if bt808.1 = 1 then ((spec_l1Pick.f t798 bt808.2.1 bt808.2.2 (([(⟨#[]⟩ : ByteArray), (⟨#[101, 109, 112, 116, 121]⟩ : ByteArray), (⟨#[103]⟩ : ByteArray), (⟨#[65]⟩ : ByteArray), (⟨#[48, 49, 32, 49]⟩ : ByteArray), (⟨#[101, 109, 112, 116, 121, 121]⟩ : ByteArray), (⟨#[101]⟩ : ByteArray)] : List ByteArray))).bind fun bt817 => (some bt817.1)) else (some t807))))) = some r := H
 obtain ⟨t807, A4, H⟩ := G.bx H
 obtain ⟨⟨t808, t809, t810⟩, A5, H⟩ := G.bx H
 replace H : (if t808 = 0 then ((spec_l1Spoil.f k t798 t809 t810 t807).bind fun bt811 => (some bt811.1)) else (if t808 = 1 then ((spec_l1Pick.f t798 t809 t810 (([(⟨#[]⟩ : ByteArray), (⟨#[101, 109, 112, 116, 121]⟩ : ByteArray), (⟨#[103]⟩ : ByteArray), (⟨#[65]⟩ : ByteArray), (⟨#[48, 49, 32, 49]⟩ : ByteArray), (⟨#[101, 109, 112, 116, 121, 121]⟩ : ByteArray), (⟨#[101]⟩ : ByteArray)] : List ByteArray))).bind fun bt817 => (some bt817.1)) else (some t807))) = some r := H
 by_cases c6 : t808 = 0
 ·rw [if_pos c6] at H
  have c6b0 : (t808 == 0) = true := beq_iff_eq.mpr c6
  have c6b1 : (t808 != 0) = false := bne_eq_false_iff_eq.mpr c6
  clear c6
  obtain ⟨⟨t811, t812, t813⟩, A7, H⟩ := G.bx H
  replace H : (some t811) = some r := H
  obtain rfl := Option.some.inj H
  go_wp2_with (first | ((with_reducible refine gate_callee (f := 128) rfl ?_); refine goesL_ (some 8) rfl rfl Try.func128 (by kernel_rfl) rfl #[.pointer (some ⟨g801, 0, none⟩), .int .i64 16] rfl G.ar ?_; (with_reducible refine (spec_l7Word.calls k g801 t798 t799 t800 16 t802 t805 t806 w _ ?side1 ?side2 A3.out).mono ?_); (case side1 => repeat (first | (with_reducible first | exact HI801.out | apply IsS111.alloc | apply IsS111.drewN | apply IsS111.drew | apply IsS111.set_1 | apply IsS111.set_2) | exact HI801.out)); (case side2 => repeat (first | (with_reducible first | exact HB.out | apply below_alloc | apply pw_below_drewN | apply below_drew1 | refine below_set ?_ (IsS111.ge HI801.out)) | exact HB.out)); rintro e w9 ⟨v803, rfl, ho0, hi, hb, hk⟩; refine ⟨_, rfl, ?_⟩; have n0_ := Aside0.mk (Kd.R_lower ho0 (below_size (by repeat (first | (with_reducible first | exact HB.out | apply below_alloc | apply pw_below_drewN | apply below_drew1 | refine below_set ?_ (IsS111.ge HI801.out)) | exact HB.out)))); have n1_ := Aside0.mk (hb); have n2_ := Aside0.mk (hi); clear HB; clear HI801; have HO804 := n0_; have HB := n1_; have HI801 := n2_; clear n0_ n1_ n2_; (try clear hb); (try clear hb2); (try clear hk); (try clear hi); (try clear ho0); obtain ⟨Ao10, co10, eo10⟩ := Kd.R_slice HO804.out; subst eo10) | ((with_reducible refine gate_callee (f := 66) rfl ?_); refine goesL_ (some 9) rfl rfl Try.func66 (by kernel_rfl) rfl #[.slice Ao10 t802.length co10] rfl G.ar ?_; (with_reducible refine (spec_FormatWord.calls k _ _ t802 t807 _ ?side1 ?side2 A4.out).mono ?_); (case side1 => repeat (first | exact (Kd.R_reads' HO804.out).2.2 | (with_reducible refine Kd.C_alloc ?_ _) | (with_reducible refine Kd.C_drewN ?_ _) | (with_reducible refine Kd.C_drew ?_))); (case side2 => exact (Kd.R_reads' HO804.out).2.1); rintro e w' ⟨rfl, ⟨nd, rfl⟩⟩; refine ⟨_, rfl, ?_⟩) | ((with_reducible refine gate_callee (f := 127) rfl ?_); refine goesL_ (some 11) rfl rfl Try.func127 (by kernel_rfl) rfl #[.pointer (some ⟨g801, 0, none⟩), .int .i64 4] rfl G.ar ?_; (with_reducible refine (spec_l1Below.calls g801 t798 t805 t806 4 t808 t809 t810 w _ ?side1 ?side2 A5.out).mono ?_); (case side1 => repeat (first | (with_reducible first | exact HI801.out | apply IsS111.alloc | apply IsS111.drewN | apply IsS111.drew | apply IsS111.set_1 | apply IsS111.set_2) | exact HI801.out)); (case side2 => repeat (first | (with_reducible first | exact HB.out | apply below_alloc | apply pw_below_drewN | apply below_drew1 | refine below_set ?_ (IsS111.ge HI801.out)) | exact HB.out)); rintro e w11 ⟨rfl, hi, hb, hk⟩; refine ⟨_, rfl, ?_⟩; have n0_ := Aside0.mk (Kd.R_mono (Kd.R_keep (IsS111.apart (show IsS111 w _ g801 t798 t805 t806 from by repeat (first | (with_reducible first | exact HI801.out | apply IsS111.alloc | apply IsS111.drewN | apply IsS111.drew | apply IsS111.set_1 | apply IsS111.set_2) | exact HI801.out)) (G.kR HO804.out) (by decide)) hk (fun _ h => h.2)) (fun _ h => h.1)); have n1_ := Aside0.mk (hb); have n2_ := Aside0.mk (hi); clear HO804; clear HB; clear HI801; have HO804 := n0_; have HB := n1_; have HI801 := n2_; clear n0_ n1_ n2_; (try clear hb); (try clear hb2); (try clear hk); (try clear hi)) | ((with_reducible refine gate_callee (f := 133) rfl ?_); refine goesL_ (some 16) rfl rfl Try.func133 (by kernel_rfl) rfl #[.pointer (some ⟨g801, 0, none⟩), .string t807] rfl G.ar ?_; (with_reducible refine (spec_l1Spoil.calls k g801 t798 t809 t810 t807 t811 t812 t813 w _ ?side1 ?side2 A7.out).mono ?_); (case side1 => repeat (first | (with_reducible first | exact HI801.out | apply IsS111.alloc | apply IsS111.drewN | apply IsS111.drew | apply IsS111.set_1 | apply IsS111.set_2) | exact HI801.out)); (case side2 => repeat (first | (with_reducible first | exact HB.out | apply below_alloc | apply pw_below_drewN | apply below_drew1 | refine below_set ?_ (IsS111.ge HI801.out)) | exact HB.out)); rintro e w12 ⟨rfl, hi, hb, hk⟩; refine ⟨_, rfl, ?_⟩; have n0_ := Aside0.mk (Kd.R_mono (Kd.R_keep (IsS111.apart (show IsS111 w _ g801 t798 t809 t810 from by repeat (first | (with_reducible first | exact HI801.out | apply IsS111.alloc | apply IsS111.drewN | apply IsS111.drew | apply IsS111.set_1 | apply IsS111.set_2) | exact HI801.out)) (G.kR HO804.out) (by decide)) hk (fun _ h => h.2)) (fun _ h => h.1)); have n1_ := Aside0.mk (hb); have n2_ := Aside0.mk (hi); clear HO804; clear HB; clear HI801; have HO804 := n0_; have HB := n1_; have HI801 := n2_; clear n0_ n1_ n2_; (try clear hb); (try clear hb2); (try clear hk); (try clear hi)))
  go_ret
  first | exact ⟨_, HOK_.out, G.er, by repeat (first | (with_reducible first | exact HB.out | apply below_alloc | apply pw_below_drewN | apply below_drew1 | refine below_set ?_ (IsS111.ge HI801.out)) | exact HB.out)⟩ | exact ⟨_, HOK_.out, G.er, by repeat (first | (with_reducible first | exact HB.out | apply below_alloc | apply pw_below_drewN | apply below_drew1 | refine below_set ?_ (IsS111.ge HI801.out)) | exact HB.out)⟩
 ·rw [if_neg c6] at H
  have c6b0 : (t808 == 0) = false := beq_eq_false_iff_ne.mpr c6
  have c6b1 : (t808 != 0) = true := bne_iff_ne.mpr c6
  by_cases c13 : t808 = 1
  ·rw [if_pos c13] at H
   have c13b0 : (t808 == 1) = true := beq_iff_eq.mpr c13
   have c13b1 : (t808 != 1) = false := bne_eq_false_iff_eq.mpr c13
   clear c13
   obtain ⟨y814, hy814⟩ : ∃ y_ : List ByteArray, y_ = (([(⟨#[]⟩ : ByteArray), (⟨#[101, 109, 112, 116, 121]⟩ : ByteArray), (⟨#[103]⟩ : ByteArray), (⟨#[65]⟩ : ByteArray), (⟨#[48, 49, 32, 49]⟩ : ByteArray), (⟨#[101, 109, 112, 116, 121, 121]⟩ : ByteArray), (⟨#[101]⟩ : ByteArray)] : List ByteArray)) := ⟨_, rfl⟩
   replace H : ((spec_l1Pick.f t798 t809 t810 y814).bind fun bt817 => (some bt817.1)) = some r := by first | (rw [hy814]; with_reducible exact H) | (have H2_ := (Option.bind_some _ _).symm.trans H; rw [hy814]; with_reducible exact H2_) | (have H2_ := (Option.bind_some _ _).symm.trans H; with_reducible exact H2_) | with_reducible exact H | (rw [hy814]; exact H) | exact H
   have Ny814 := Aside0.mk hy814
   clear hy814
   obtain ⟨⟨t817, t818, t819⟩, A14, H⟩ := G.bx H
   replace H : (some t817) = some r := H
   obtain rfl := Option.some.inj H
   go_wp2_with (first | ((with_reducible refine gate_callee (f := 128) rfl ?_); refine goesL_ (some 8) rfl rfl Try.func128 (by kernel_rfl) rfl #[.pointer (some ⟨g801, 0, none⟩), .int .i64 16] rfl G.ar ?_; (with_reducible refine (spec_l7Word.calls k g801 t798 t799 t800 16 t802 t805 t806 w _ ?side1 ?side2 A3.out).mono ?_); (case side1 => repeat (first | (with_reducible first | exact HI801.out | apply IsS111.alloc | apply IsS111.drewN | apply IsS111.drew | apply IsS111.set_1 | apply IsS111.set_2) | exact HI801.out)); (case side2 => repeat (first | (with_reducible first | exact HB.out | apply below_alloc | apply pw_below_drewN | apply below_drew1 | refine below_set ?_ (IsS111.ge HI801.out)) | exact HB.out)); rintro e w16 ⟨v803, rfl, ho0, hi, hb, hk⟩; refine ⟨_, rfl, ?_⟩; have n0_ := Aside0.mk (Kd.R_lower ho0 (below_size (by repeat (first | (with_reducible first | exact HB.out | apply below_alloc | apply pw_below_drewN | apply below_drew1 | refine below_set ?_ (IsS111.ge HI801.out)) | exact HB.out)))); have n1_ := Aside0.mk (hb); have n2_ := Aside0.mk (hi); clear HB; clear HI801; have HO804 := n0_; have HB := n1_; have HI801 := n2_; clear n0_ n1_ n2_; (try clear hb); (try clear hb2); (try clear hk); (try clear hi); (try clear ho0); obtain ⟨Ao17, co17, eo17⟩ := Kd.R_slice HO804.out; subst eo17) | ((with_reducible refine gate_callee (f := 66) rfl ?_); refine goesL_ (some 9) rfl rfl Try.func66 (by kernel_rfl) rfl #[.slice Ao17 t802.length co17] rfl G.ar ?_; (with_reducible refine (spec_FormatWord.calls k _ _ t802 t807 _ ?side1 ?side2 A4.out).mono ?_); (case side1 => repeat (first | exact (Kd.R_reads' HO804.out).2.2 | (with_reducible refine Kd.C_alloc ?_ _) | (with_reducible refine Kd.C_drewN ?_ _) | (with_reducible refine Kd.C_drew ?_))); (case side2 => exact (Kd.R_reads' HO804.out).2.1); rintro e w' ⟨rfl, ⟨nd, rfl⟩⟩; refine ⟨_, rfl, ?_⟩) | ((with_reducible refine gate_callee (f := 127) rfl ?_); refine goesL_ (some 11) rfl rfl Try.func127 (by kernel_rfl) rfl #[.pointer (some ⟨g801, 0, none⟩), .int .i64 4] rfl G.ar ?_; (with_reducible refine (spec_l1Below.calls g801 t798 t805 t806 4 t808 t809 t810 w _ ?side1 ?side2 A5.out).mono ?_); (case side1 => repeat (first | (with_reducible first | exact HI801.out | apply IsS111.alloc | apply IsS111.drewN | apply IsS111.drew | apply IsS111.set_1 | apply IsS111.set_2) | exact HI801.out)); (case side2 => repeat (first | (with_reducible first | exact HB.out | apply below_alloc | apply pw_below_drewN | apply below_drew1 | refine below_set ?_ (IsS111.ge HI801.out)) | exact HB.out)); rintro e w18 ⟨rfl, hi, hb, hk⟩; refine ⟨_, rfl, ?_⟩; have n0_ := Aside0.mk (Kd.R_mono (Kd.R_keep (IsS111.apart (show IsS111 w _ g801 t798 t805 t806 from by repeat (first | (with_reducible first | exact HI801.out | apply IsS111.alloc | apply IsS111.drewN | apply IsS111.drew | apply IsS111.set_1 | apply IsS111.set_2) | exact HI801.out)) (G.kR HO804.out) (by decide)) hk (fun _ h => h.2)) (fun _ h => h.1)); have n1_ := Aside0.mk (hb); have n2_ := Aside0.mk (hi); clear HO804; clear HB; clear HI801; have HO804 := n0_; have HB := n1_; have HI801 := n2_; clear n0_ n1_ n2_; (try clear hb); (try clear hb2); (try clear hk); (try clear hi)) | ((with_reducible refine gate_dst (N := 20) rfl ?_); refine Kd.R_lit Kd.string _ 9 ?hg (N := 20) ?hd (xs := ([(⟨#[]⟩ : ByteArray), (⟨#[101, 109, 112, 116, 121]⟩ : ByteArray), (⟨#[103]⟩ : ByteArray), (⟨#[65]⟩ : ByteArray), (⟨#[48, 49, 32, 49]⟩ : ByteArray), (⟨#[101, 109, 112, 116, 121, 121]⟩ : ByteArray), (⟨#[101]⟩ : ByteArray)] : List ByteArray)) (inner := [.string (⟨#[]⟩ : ByteArray), .string (⟨#[101, 109, 112, 116, 121]⟩ : ByteArray), .string (⟨#[103]⟩ : ByteArray), .string (⟨#[65]⟩ : ByteArray), .string (⟨#[48, 49, 32, 49]⟩ : ByteArray), .string (⟨#[101, 109, 112, 116, 121, 121]⟩ : ByteArray), .string (⟨#[101]⟩ : ByteArray)]) (ok := fun _ => True) (okp := fun _ => True) ?hr ?hp (fun _ hk => hk) trivial (Below.refl _ _) (Nat.le_refl _) (by simp) ?_; (case hd => rfl); (case hg => rfl); (case hr => first | (go_simp; done) | (go_simp; rfl)); (case hp => exact (Reps.one (show Kd.M Kd.string _ _ _ (⟨#[]⟩ : ByteArray) [.string (⟨#[]⟩ : ByteArray)] from rfl) (Reps.one (show Kd.M Kd.string _ _ _ (⟨#[101, 109, 112, 116, 121]⟩ : ByteArray) [.string (⟨#[101, 109, 112, 116, 121]⟩ : ByteArray)] from rfl) (Reps.one (show Kd.M Kd.string _ _ _ (⟨#[103]⟩ : ByteArray) [.string (⟨#[103]⟩ : ByteArray)] from rfl) (Reps.one (show Kd.M Kd.string _ _ _ (⟨#[65]⟩ : ByteArray) [.string (⟨#[65]⟩ : ByteArray)] from rfl) (Reps.one (show Kd.M Kd.string _ _ _ (⟨#[48, 49, 32, 49]⟩ : ByteArray) [.string (⟨#[48, 49, 32, 49]⟩ : ByteArray)] from rfl) (Reps.one (show Kd.M Kd.string _ _ _ (⟨#[101, 109, 112, 116, 121, 121]⟩ : ByteArray) [.string (⟨#[101, 109, 112, 116, 121, 121]⟩ : ByteArray)] from rfl) (Reps.one (show Kd.M Kd.string _ _ _ (⟨#[101]⟩ : ByteArray) [.string (⟨#[101]⟩ : ByteArray)] from rfl) (Reps.none _ _))))))))); intro v815 w19 ho20 hb hg_ hnew_; clear hg_ hnew_; (first | rw [← Ny814.out] at ho20 | (simp only [Int.reduceToNat] at ho20; rw [← Ny814.out] at ho20)); have n0_ := Aside0.mk (Kd.R_below (G.kR HO804.out) hb); have n1_ := Aside0.mk (Kd.R_lower ho20 (below_size (by repeat (first | (with_reducible first | exact HB.out | apply below_alloc | apply pw_below_drewN | apply below_drew1 | refine below_set ?_ (IsS111.ge HI801.out)) | exact HB.out)))); have n2_ := Aside0.mk (IsS111.below (by repeat (first | (with_reducible first | exact HI801.out | apply IsS111.alloc | apply IsS111.drewN | apply IsS111.drew | apply IsS111.set_1 | apply IsS111.set_2) | exact HI801.out)) hb); have n3_ := Aside0.mk (below_step (by repeat (first | (with_reducible first | exact HB.out | apply below_alloc | apply pw_below_drewN | apply below_drew1 | refine below_set ?_ (IsS111.ge HI801.out)) | exact HB.out)) hb); clear HO804; clear HI801; clear HB; have HO804 := n0_; have HO816 := n1_; have HI801 := n2_; have HB := n3_; clear n0_ n1_ n2_ n3_; clear hb ho20; obtain ⟨Ao21, co21, eo21⟩ := Kd.R_slice HO816.out; subst eo21) | ((with_reducible refine gate_callee (f := 134) rfl ?_); refine goesL_ (some 21) rfl rfl Try.func134 (by kernel_rfl) rfl #[.pointer (some ⟨g801, 0, none⟩), .slice Ao21 y814.length co21] rfl G.ar ?_; (with_reducible refine (spec_l1Pick.calls g801 t798 t809 t810 _ _ y814 t817 t818 t819 w _ ?side1 ?side2 ?side3 ?side4 ?side5 A14.out).mono ?_); (case side1 => repeat (first | (with_reducible first | exact HI801.out | apply IsS111.alloc | apply IsS111.drewN | apply IsS111.drew | apply IsS111.set_1 | apply IsS111.set_2) | exact HI801.out)); (case side2 => repeat (first | (with_reducible first | exact HB.out | apply below_alloc | apply pw_below_drewN | apply below_drew1 | refine below_set ?_ (IsS111.ge HI801.out)) | exact HB.out)); (case side3 => repeat (first | exact (Kd.R_reads' HO816.out).2.2 | (with_reducible refine Kd.C_alloc ?_ _) | (with_reducible refine Kd.C_drewN ?_ _) | (with_reducible refine Kd.C_drew ?_))); (case side4 => exact (Kd.R_reads' HO816.out).2.1); (case side5 => exact far_slice (IsS111.own_ne HI801.out HO816.out (by decide))); rintro e w22 ⟨rfl, hi, hb, hk⟩; refine ⟨_, rfl, ?_⟩; have n0_ := Aside0.mk (Kd.R_mono (Kd.R_keep (IsS111.apart (show IsS111 w _ g801 t798 t809 t810 from by repeat (first | (with_reducible first | exact HI801.out | apply IsS111.alloc | apply IsS111.drewN | apply IsS111.drew | apply IsS111.set_1 | apply IsS111.set_2) | exact HI801.out)) (G.kR HO804.out) (by decide)) hk (fun _ h => h.2)) (fun _ h => h.1)); have n1_ := Aside0.mk (Kd.R_mono (Kd.R_keep (IsS111.apart (show IsS111 w _ g801 t798 t809 t810 from by repeat (first | (with_reducible first | exact HI801.out | apply IsS111.alloc | apply IsS111.drewN | apply IsS111.drew | apply IsS111.set_1 | apply IsS111.set_2) | exact HI801.out)) (G.kR HO816.out) (by decide)) hk (fun _ h => h.2)) (fun _ h => h.1)); have n2_ := Aside0.mk (hb); have n3_ := Aside0.mk (hi); clear HO804; clear HO816; clear HB; clear HI801; have HO804 := n0_; have HO816 := n1_; have HB := n2_; have HI801 := n3_; clear n0_ n1_ n2_ n3_; (try clear hb); (try clear hb2); (try clear hk); (try clear hi)))
   go_ret
   first | exact ⟨_, HOK_.out, G.er, by repeat (first | (with_reducible first | exact HB.out | apply below_alloc | apply pw_below_drewN | apply below_drew1 | refine below_set ?_ (IsS111.ge HI801.out)) | exact HB.out)⟩ | exact ⟨_, HOK_.out, G.er, by repeat (first | (with_reducible first | exact HB.out | apply below_alloc | apply pw_below_drewN | apply below_drew1 | refine below_set ?_ (IsS111.ge HI801.out)) | exact HB.out)⟩
  ·rw [if_neg c13] at H
   have c13b0 : (t808 == 1) = false := beq_eq_false_iff_ne.mpr c13
   have c13b1 : (t808 != 1) = true := bne_iff_ne.mpr c13
   obtain rfl := Option.some.inj H
   go_wp2_with (first | ((with_reducible refine gate_callee (f := 128) rfl ?_); refine goesL_ (some 8) rfl rfl Try.func128 (by kernel_rfl) rfl #[.pointer (some ⟨g801, 0, none⟩), .int .i64 16] rfl G.ar ?_; (with_reducible refine (spec_l7Word.calls k g801 t798 t799 t800 16 t802 t805 t806 w _ ?side1 ?side2 A3.out).mono ?_); (case side1 => repeat (first | (with_reducible first | exact HI801.out | apply IsS111.alloc | apply IsS111.drewN | apply IsS111.drew | apply IsS111.set_1 | apply IsS111.set_2) | exact HI801.out)); (case side2 => repeat (first | (with_reducible first | exact HB.out | apply below_alloc | apply pw_below_drewN | apply below_drew1 | refine below_set ?_ (IsS111.ge HI801.out)) | exact HB.out)); rintro e w24 ⟨v803, rfl, ho0, hi, hb, hk⟩; refine ⟨_, rfl, ?_⟩; have n0_ := Aside0.mk (Kd.R_lower ho0 (below_size (by repeat (first | (with_reducible first | exact HB.out | apply below_alloc | apply pw_below_drewN | apply below_drew1 | refine below_set ?_ (IsS111.ge HI801.out)) | exact HB.out)))); have n1_ := Aside0.mk (hb); have n2_ := Aside0.mk (hi); clear HB; clear HI801; have HO804 := n0_; have HB := n1_; have HI801 := n2_; clear n0_ n1_ n2_; (try clear hb); (try clear hb2); (try clear hk); (try clear hi); (try clear ho0); obtain ⟨Ao25, co25, eo25⟩ := Kd.R_slice HO804.out; subst eo25) | ((with_reducible refine gate_callee (f := 66) rfl ?_); refine goesL_ (some 9) rfl rfl Try.func66 (by kernel_rfl) rfl #[.slice Ao25 t802.length co25] rfl G.ar ?_; (with_reducible refine (spec_FormatWord.calls k _ _ t802 t807 _ ?side1 ?side2 A4.out).mono ?_); (case side1 => repeat (first | exact (Kd.R_reads' HO804.out).2.2 | (with_reducible refine Kd.C_alloc ?_ _) | (with_reducible refine Kd.C_drewN ?_ _) | (with_reducible refine Kd.C_drew ?_))); (case side2 => exact (Kd.R_reads' HO804.out).2.1); rintro e w' ⟨rfl, ⟨nd, rfl⟩⟩; refine ⟨_, rfl, ?_⟩) | ((with_reducible refine gate_callee (f := 127) rfl ?_); refine goesL_ (some 11) rfl rfl Try.func127 (by kernel_rfl) rfl #[.pointer (some ⟨g801, 0, none⟩), .int .i64 4] rfl G.ar ?_; (with_reducible refine (spec_l1Below.calls g801 t798 t805 t806 4 t808 t809 t810 w _ ?side1 ?side2 A5.out).mono ?_); (case side1 => repeat (first | (with_reducible first | exact HI801.out | apply IsS111.alloc | apply IsS111.drewN | apply IsS111.drew | apply IsS111.set_1 | apply IsS111.set_2) | exact HI801.out)); (case side2 => repeat (first | (with_reducible first | exact HB.out | apply below_alloc | apply pw_below_drewN | apply below_drew1 | refine below_set ?_ (IsS111.ge HI801.out)) | exact HB.out)); rintro e w26 ⟨rfl, hi, hb, hk⟩; refine ⟨_, rfl, ?_⟩; have n0_ := Aside0.mk (Kd.R_mono (Kd.R_keep (IsS111.apart (show IsS111 w _ g801 t798 t805 t806 from by repeat (first | (with_reducible first | exact HI801.out | apply IsS111.alloc | apply IsS111.drewN | apply IsS111.drew | apply IsS111.set_1 | apply IsS111.set_2) | exact HI801.out)) (G.kR HO804.out) (by decide)) hk (fun _ h => h.2)) (fun _ h => h.1)); have n1_ := Aside0.mk (hb); have n2_ := Aside0.mk (hi); clear HO804; clear HB; clear HI801; have HO804 := n0_; have HB := n1_; have HI801 := n2_; clear n0_ n1_ n2_; (try clear hb); (try clear hb2); (try clear hk); (try clear hi)))
   go_ret
   first | exact ⟨_, HOK_.out, G.er, by repeat (first | (with_reducible first | exact HB.out | apply below_alloc | apply pw_below_drewN | apply below_drew1 | refine below_set ?_ (IsS111.ge HI801.out)) | exact HB.out)⟩ | exact ⟨_, HOK_.out, G.er, by repeat (first | (with_reducible first | exact HB.out | apply below_alloc | apply pw_below_drewN | apply below_drew1 | refine below_set ?_ (IsS111.ge HI801.out)) | exact HB.out)⟩
end

end Go.Proofs.Ytolikggioekalab.PFnWords
