/- The Go functions that the law FnWords reaches (part 17): each as a Lean function, and that its code comes to these answers. No condition beyond those written. -/
import Derived.Test.YtolikggioekalabVGSlim
import Derived.Test.YtolikggioekalabVGDraw
import Derived.Test.YtolikggioekalabVMFnWordsx16
import Derived.Test.YtolikggioekalabVMFnWordsx15
import Derived.Test.YtolikggioekalabVMFnWordsx12
import Derived.Test.YtolikggioekalabVMFnWordsx11
import Derived.Test.YtolikggioekalabVMFnWordsx10
import Derived.Test.YtolikggioekalabVMFnWordsx9
import Derived.Test.YtolikggioekalabVMFnWordsx7
import Derived.Test.YtolikggioekalabVMFnWordsx6
import Derived.Test.YtolikggioekalabVMFnWordsx2
import Derived.Test.YtolikggioekalabVMFnWordsx1
import Derived.Test.YtolikggioekalabVMFnWordsx0
import Derived.Test.YtolikggioekalabVMFnWordsx3
import Derived.Test.YtolikggioekalabVMFnWordsx4
import Derived.Test.YtolikggioekalabVMFnWordsx5
import Derived.Test.YtolikggioekalabVMFnWordsx8
import Derived.Test.YtolikggioekalabVMFnWordsx13
import Derived.Test.YtolikggioekalabVMFnWordsx14
namespace Go.Proofs.Ytolikggioekalab.PFnWords
open Go.RowKit Go.Proofs.YtolikggioekalabW.PrintWords Go.Proofs.YtolikggioekalabW.PrintLast Go.Proofs.YtolikggioekalabW.PrintMore
attribute [local go_sem] max2_int min2_int max_two min_two max_three min_three max_four min_four   -- for this text's walks alone
set_option linter.unusedVariables false
set_option linter.unusedSimpArgs false

/-! ### spec_ParseWord: function 65 -/
def spec_ParseWord.l0 : Nat → ByteArray → List Int → Int → Option (List Int × Bool)
 | 0, _, _, _ => none
 | k + 1, x0, x4, x5 => if x5 < (x0.size : Int) then (if x0.toList = ([101, 109, 112, 116, 121] : List UInt8) then ((spec_FormatWord.f k x4).bind fun t823 => (if t823.toList = x0.toList then (if x0.toList = ([] : List UInt8) then (some ((([] : List Int)), false)) else (some (x4, true))) else (some ((([] : List Int)), false)))) else (if 0 ≤ x5 then ((spec_l3Letter.f k (bt x0 x5)).bind fun t830 => (if x4.length < 17592186044416 then (spec_ParseWord.l0 k x0 (x4 ++ [t830]) (wrap64 (x5 + 1))) else (none))) else (none))) else ((spec_FormatWord.f k x4).bind fun t834 => (if t834.toList = x0.toList then (if x0.toList = ([] : List UInt8) then (some ((([] : List Int)), false)) else (some (x4, true))) else (some ((([] : List Int)), false))))
def spec_ParseWord.f (k : Nat) (a0 : ByteArray) : Option (List Int × Bool) := spec_ParseWord.l0 k a0 (([] : List Int)) 0
set_option maxHeartbeats 8000000 in
set_option maxRecDepth 100000 in
theorem spec_ParseWord.calls (k : Nat) (a0 : ByteArray) (r1 : List Int) (r2 : Bool) (w : World) (h : spec_ParseWord.f k a0 = some (r1, r2)) :
  Calls Try.prog 65 #[.string a0] w fun e w' => ∃ v0_ : Value, e = .returned (.tuple #[v0_, .bool r2]) ∧ Kd.R (Kd.int .i64) 3 w' w.heap.size (fun _ => True) v0_ r1 ∧ Below w.heap.size w w' := by
 have HB := Aside0.mk (Below.refl w.heap.size w)
 have H : (spec_ParseWord.l0 k a0 (([] : List Int)) 0) = some (r1, r2) := h
 clear h
 obtain ⟨y820, hy820⟩ : ∃ y_ : List Int, y_ = (([] : List Int)) := ⟨_, rfl⟩
 replace H : (spec_ParseWord.l0 k a0 y820 0) = some (r1, r2) := by first | (rw [hy820]; with_reducible exact H) | (have H2_ := (Option.bind_some _ _).symm.trans H; rw [hy820]; with_reducible exact H2_) | (have H2_ := (Option.bind_some _ _).symm.trans H; with_reducible exact H2_) | with_reducible exact H | (rw [hy820]; exact H) | exact H
 have Ny820 := Aside0.mk hy820
 clear hy820
 have H' := Aside0.mk H
 clear H
 go_enter Try.func65, Try.ntmps65
 go_wp2_with (first | ((with_reducible refine gate_dst (N := 6) rfl ?_); refine Kd.R_lit (Kd.int .i64) _ 3 ?hg (N := 6) ?hd (xs := ([] : List Int)) (inner := []) (ok := fun _ => True) (okp := fun _ => True) ?hr ?hp (fun _ hk => hk) trivial (Below.refl _ _) (Nat.le_refl _) (by simp) ?_; (case hd => rfl); (case hg => rfl); (case hr => first | (go_simp; done) | (go_simp; rfl)); (case hp => exact (Reps.none _ _)); intro v821 w2 ho3 hb hg_ hnew_; clear hg_ hnew_; (first | rw [← Ny820.out] at ho3 | (simp only [Int.reduceToNat] at ho3; rw [← Ny820.out] at ho3)); have n0_ := Aside0.mk (Kd.R_lower ho3 (below_size G.bel)); have n1_ := Aside0.mk (below_step G.bel hb); clear HB; have HO822 := n0_; have HB := n1_; clear n0_ n1_; clear hb ho3))
 go_loopg [4, 5] k (fun kq v4 v5 w' => ∃ (x4_1 : List Int) (x5_1 : Int), v5 = .int .i64 x5_1 ∧ Aside0 (spec_ParseWord.l0 kq a0 x4_1 x5_1 = some (r1, r2)) ∧ Aside0 (kq ≤ k) ∧ Aside0 (Kd.R (Kd.int .i64) 3 w' w.heap.size (fun _ => True) v4 x4_1) ∧ Aside0 (Below w.heap.size w w'))
 case atStart => exact ⟨(y820), (0), G.tr, H', ⟨Nat.le_refl _⟩, ⟨G.kR HO822.out⟩, ⟨G.bel⟩⟩
 case round =>
  clear H'
  try clear p2
  obtain ⟨x4_1, x5_1, rfl, HA, HK1, HO_4, HB⟩ := hrel
  cases gk with
  | zero => exact absurd HA.out (by simp [spec_ParseWord.l0])
  | succ k1 =>
   have H := HA.out
   clear HA
   simp only [spec_ParseWord.l0] at H
   by_cases c4 : x5_1 < (a0.size : Int)
   ·rw [if_pos c4] at H
    have c4b0 : decide (x5_1 < (a0.size : Int)) = true := decide_eq_true c4
    clear c4
    by_cases c5 : a0.toList = ([101, 109, 112, 116, 121] : List UInt8)
    ·rw [if_pos c5] at H
     have c5b0 : (a0.toList == ([101, 109, 112, 116, 121] : List UInt8)) = true := beq_iff_eq.mpr c5
     have c5b1 : (a0.toList != ([101, 109, 112, 116, 121] : List UInt8)) = false := bne_eq_false_iff_eq.mpr c5
     clear c5
     obtain ⟨t823, A6, H⟩ := G.bx H
     by_cases c7 : t823.toList = a0.toList
     ·rw [if_pos c7] at H
      have c7b0 : (t823.toList == a0.toList) = true := beq_iff_eq.mpr c7
      have c7b1 : (t823.toList != a0.toList) = false := bne_eq_false_iff_eq.mpr c7
      clear c7
      by_cases c8 : a0.toList = ([] : List UInt8)
      ·rw [if_pos c8] at H
       have c8b0 : (a0.toList == ([] : List UInt8)) = true := beq_iff_eq.mpr c8
       have c8b1 : (a0.toList != ([] : List UInt8)) = false := bne_eq_false_iff_eq.mpr c8
       clear c8
       obtain ⟨y824, hy824⟩ : ∃ y_ : List Int, y_ = (([] : List Int)) := ⟨_, rfl⟩
       replace H : (some (y824, false)) = some (r1, r2) := by first | (rw [hy824]; with_reducible exact H) | (have H2_ := (Option.bind_some _ _).symm.trans H; rw [hy824]; with_reducible exact H2_) | (have H2_ := (Option.bind_some _ _).symm.trans H; with_reducible exact H2_) | with_reducible exact H | (rw [hy824]; exact H) | exact H
       have Ny824 := Aside0.mk hy824
       clear hy824
       simp only [Option.some.injEq, Prod.mk.injEq] at H
       obtain ⟨rfl, rfl⟩ := H
       obtain ⟨Ao9, co9, eo9⟩ := Kd.R_slice HO_4.out
       subst eo9
       go_wp2_with (first | ((with_reducible refine gate_callee (f := 66) rfl ?_); refine goesL_ (some 25) rfl rfl Try.func66 (by kernel_rfl) rfl #[.slice Ao9 x4_1.length co9] rfl G.ar ?_; (with_reducible refine (spec_FormatWord.calls k1 _ _ x4_1 t823 _ ?side1 ?side2 A6.out).mono ?_); (case side1 => repeat (first | exact (Kd.R_reads' HO_4.out).2.2 | (with_reducible refine Kd.C_alloc ?_ _) | (with_reducible refine Kd.C_drewN ?_ _) | (with_reducible refine Kd.C_drew ?_))); (case side2 => exact (Kd.R_reads' HO_4.out).2.1); rintro e w' ⟨rfl, ⟨nd, rfl⟩⟩; refine ⟨_, rfl, ?_⟩) | ((with_reducible refine gate_dst (N := 32) rfl ?_); refine Kd.R_lit (Kd.int .i64) _ 3 ?hg (N := 32) ?hd (xs := ([] : List Int)) (inner := []) (ok := fun _ => True) (okp := fun _ => True) ?hr ?hp (fun _ hk => hk) trivial (Below.refl _ _) (Nat.le_refl _) (by simp) ?_; (case hd => rfl); (case hg => rfl); (case hr => first | (go_simp; done) | (go_simp; rfl)); (case hp => exact (Reps.none _ _)); intro v825 w10 ho11 hb hg_ hnew_; clear hg_ hnew_; (first | rw [← Ny824.out] at ho11 | (simp only [Int.reduceToNat] at ho11; rw [← Ny824.out] at ho11)); have n0_ := Aside0.mk (Kd.R_elder' (G.kR HO_4.out) (Kd.R_base ho11) hb); have n1_ := Aside0.mk (Kd.R_lower (Kd.R_new' ho11 (Kd.R_lt (G.kR HO_4.out))) (below_size G.bel)); have n2_ := Aside0.mk (below_step G.bel hb); clear HO_4; clear HB; have HO_4 := n0_; have HO826 := n1_; have HB := n2_; clear n0_ n1_ n2_; clear hb ho11))
       go_ret2
       exact ⟨_, G.er, by (with_reducible repeat (first | apply Kd.R_alloc | apply Kd.R_drewN | apply Kd.R_drew)); exact Kd.R_mono HO826.out (fun _ hk => trivial), G.bel⟩
      ·rw [if_neg c8] at H
       have c8b0 : (a0.toList == ([] : List UInt8)) = false := beq_eq_false_iff_ne.mpr c8
       have c8b1 : (a0.toList != ([] : List UInt8)) = true := bne_iff_ne.mpr c8
       simp only [Option.some.injEq, Prod.mk.injEq] at H
       obtain ⟨rfl, rfl⟩ := H
       obtain ⟨Ao12, co12, eo12⟩ := Kd.R_slice HO_4.out
       subst eo12
       go_wp2_with (first | ((with_reducible refine gate_callee (f := 66) rfl ?_); refine goesL_ (some 25) rfl rfl Try.func66 (by kernel_rfl) rfl #[.slice Ao12 x4_1.length co12] rfl G.ar ?_; (with_reducible refine (spec_FormatWord.calls k1 _ _ x4_1 t823 _ ?side1 ?side2 A6.out).mono ?_); (case side1 => repeat (first | exact (Kd.R_reads' HO_4.out).2.2 | (with_reducible refine Kd.C_alloc ?_ _) | (with_reducible refine Kd.C_drewN ?_ _) | (with_reducible refine Kd.C_drew ?_))); (case side2 => exact (Kd.R_reads' HO_4.out).2.1); rintro e w' ⟨rfl, ⟨nd, rfl⟩⟩; refine ⟨_, rfl, ?_⟩))
       go_ret2
       exact ⟨_, G.er, G.kR HO_4.out, G.bel⟩
     ·rw [if_neg c7] at H
      have c7b0 : (t823.toList == a0.toList) = false := beq_eq_false_iff_ne.mpr c7
      have c7b1 : (t823.toList != a0.toList) = true := bne_iff_ne.mpr c7
      obtain ⟨y827, hy827⟩ : ∃ y_ : List Int, y_ = (([] : List Int)) := ⟨_, rfl⟩
      replace H : (some (y827, false)) = some (r1, r2) := by first | (rw [hy827]; with_reducible exact H) | (have H2_ := (Option.bind_some _ _).symm.trans H; rw [hy827]; with_reducible exact H2_) | (have H2_ := (Option.bind_some _ _).symm.trans H; with_reducible exact H2_) | with_reducible exact H | (rw [hy827]; exact H) | exact H
      have Ny827 := Aside0.mk hy827
      clear hy827
      simp only [Option.some.injEq, Prod.mk.injEq] at H
      obtain ⟨rfl, rfl⟩ := H
      obtain ⟨Ao13, co13, eo13⟩ := Kd.R_slice HO_4.out
      subst eo13
      go_wp2_with (first | ((with_reducible refine gate_callee (f := 66) rfl ?_); refine goesL_ (some 25) rfl rfl Try.func66 (by kernel_rfl) rfl #[.slice Ao13 x4_1.length co13] rfl G.ar ?_; (with_reducible refine (spec_FormatWord.calls k1 _ _ x4_1 t823 _ ?side1 ?side2 A6.out).mono ?_); (case side1 => repeat (first | exact (Kd.R_reads' HO_4.out).2.2 | (with_reducible refine Kd.C_alloc ?_ _) | (with_reducible refine Kd.C_drewN ?_ _) | (with_reducible refine Kd.C_drew ?_))); (case side2 => exact (Kd.R_reads' HO_4.out).2.1); rintro e w' ⟨rfl, ⟨nd, rfl⟩⟩; refine ⟨_, rfl, ?_⟩) | ((with_reducible refine gate_dst (N := 32) rfl ?_); refine Kd.R_lit (Kd.int .i64) _ 3 ?hg (N := 32) ?hd (xs := ([] : List Int)) (inner := []) (ok := fun _ => True) (okp := fun _ => True) ?hr ?hp (fun _ hk => hk) trivial (Below.refl _ _) (Nat.le_refl _) (by simp) ?_; (case hd => rfl); (case hg => rfl); (case hr => first | (go_simp; done) | (go_simp; rfl)); (case hp => exact (Reps.none _ _)); intro v828 w14 ho15 hb hg_ hnew_; clear hg_ hnew_; (first | rw [← Ny827.out] at ho15 | (simp only [Int.reduceToNat] at ho15; rw [← Ny827.out] at ho15)); have n0_ := Aside0.mk (Kd.R_elder' (G.kR HO_4.out) (Kd.R_base ho15) hb); have n1_ := Aside0.mk (Kd.R_lower (Kd.R_new' ho15 (Kd.R_lt (G.kR HO_4.out))) (below_size G.bel)); have n2_ := Aside0.mk (below_step G.bel hb); clear HO_4; clear HB; have HO_4 := n0_; have HO829 := n1_; have HB := n2_; clear n0_ n1_ n2_; clear hb ho15))
      go_ret2
      exact ⟨_, G.er, by (with_reducible repeat (first | apply Kd.R_alloc | apply Kd.R_drewN | apply Kd.R_drew)); exact Kd.R_mono HO829.out (fun _ hk => trivial), G.bel⟩
    ·rw [if_neg c5] at H
     have c5b0 : (a0.toList == ([101, 109, 112, 116, 121] : List UInt8)) = false := beq_eq_false_iff_ne.mpr c5
     have c5b1 : (a0.toList != ([101, 109, 112, 116, 121] : List UInt8)) = true := bne_iff_ne.mpr c5
     by_cases c16 : 0 ≤ x5_1
     ·rw [if_pos c16] at H
      have c16b0 : decide (0 ≤ x5_1) = true := decide_eq_true c16
      clear c16
      obtain ⟨t830, A18, H⟩ := G.bx H
      by_cases c19 : x4_1.length < 17592186044416
      ·rw [if_pos c19] at H
       have LMc19 := Aside0.mk c19
       clear c19
       obtain ⟨y831, hy831⟩ : ∃ y_ : List Int, y_ = (x4_1 ++ [t830]) := ⟨_, rfl⟩
       replace H : (spec_ParseWord.l0 k1 a0 y831 (wrap64 (x5_1 + 1))) = some (r1, r2) := by first | (rw [hy831]; with_reducible exact H) | (have H2_ := (Option.bind_some _ _).symm.trans H; rw [hy831]; with_reducible exact H2_) | (have H2_ := (Option.bind_some _ _).symm.trans H; with_reducible exact H2_) | with_reducible exact H | (rw [hy831]; exact H) | exact H
       have Ny831 := Aside0.mk hy831
       clear hy831
       have H' := Aside0.mk H
       clear H
       have p17 : 0 ≤ (x5_1 : Int) := G.odt
       have q17 : x5_1 < (a0.size : Int) := G.odt
       have hx17 := bt_at a0 x5_1
       replace p17 := eq_true p17
       replace q17 := eq_true q17
       go_wp2_with (first | ((with_reducible refine gate_callee (f := 135) rfl ?_); refine goesL_ (some 21) rfl rfl Try.func135 (by kernel_rfl) rfl #[.int .u8 (bt a0 x5_1)] rfl G.ar ?_; (with_reducible refine (spec_l3Letter.calls k1 (bt a0 x5_1) t830 _ A18.out).mono ?_); rintro e w' ⟨rfl, ⟨nd, rfl⟩⟩; refine ⟨_, rfl, ?_⟩) | ((with_reducible refine gate_builtin (b := .append) (xs := #[.tmp 17, .tmp 22]) rfl ?_); at_builtin; refine Kd.R_append (Kd.int .i64) (w0 := w) w.heap.size rfl (.tmp 17) (.tmp 22) 22 3 (.int .i64 0) 8 rfl Try.underlying22 info3 rfl (by decide) (by omega) u4 x4_1 t830 [.int .i64 t830] (fun _ => True) (fun _ => False) rfl rfl ?aP (fun _ hk => hk.elim) ?aF ?aO ?aB ?aS ?aL ?_; (case aP => exact rfl); (case aB => exact G.bel); (case aF => exact (fun _ _ => trivial)); (case aO => exact (G.kR HO_4.out)); (case aS => exact (below_size G.bel)); (case aL => have := LMc19.out; omega); intro v832 w20 ho hb hg hat; rw [← Ny831.out] at ho; have n0_ := Aside0.mk (hb); have n1_ := Aside0.mk (ho); clear HB; clear HO_4; have HB := n0_; have HO833 := n1_; clear n0_ n1_; clear ho hb hg hat))
       go_roundg k1
       case measure => have := HK1.out; omega
       case rel => exact ⟨(y831), (wrap64 (x5_1 + 1)), G.tr, H', ⟨by have := HK1.out; omega⟩, ⟨G.kR HO833.out⟩, ⟨G.bel⟩⟩
      ·rw [if_neg c19] at H
       exact absurd H (by simp)
     ·rw [if_neg c16] at H
      exact absurd H (by simp)
   ·rw [if_neg c4] at H
    have c4b0 : decide (x5_1 < (a0.size : Int)) = false := decide_eq_false c4
    clear c4
    obtain ⟨t834, A21, H⟩ := G.bx H
    by_cases c22 : t834.toList = a0.toList
    ·rw [if_pos c22] at H
     have c22b0 : (t834.toList == a0.toList) = true := beq_iff_eq.mpr c22
     have c22b1 : (t834.toList != a0.toList) = false := bne_eq_false_iff_eq.mpr c22
     clear c22
     by_cases c23 : a0.toList = ([] : List UInt8)
     ·rw [if_pos c23] at H
      have c23b0 : (a0.toList == ([] : List UInt8)) = true := beq_iff_eq.mpr c23
      have c23b1 : (a0.toList != ([] : List UInt8)) = false := bne_eq_false_iff_eq.mpr c23
      clear c23
      obtain ⟨y835, hy835⟩ : ∃ y_ : List Int, y_ = (([] : List Int)) := ⟨_, rfl⟩
      replace H : (some (y835, false)) = some (r1, r2) := by first | (rw [hy835]; with_reducible exact H) | (have H2_ := (Option.bind_some _ _).symm.trans H; rw [hy835]; with_reducible exact H2_) | (have H2_ := (Option.bind_some _ _).symm.trans H; with_reducible exact H2_) | with_reducible exact H | (rw [hy835]; exact H) | exact H
      have Ny835 := Aside0.mk hy835
      clear hy835
      simp only [Option.some.injEq, Prod.mk.injEq] at H
      obtain ⟨rfl, rfl⟩ := H
      obtain ⟨Ao24, co24, eo24⟩ := Kd.R_slice HO_4.out
      subst eo24
      go_wp2_with (first | ((with_reducible refine gate_callee (f := 66) rfl ?_); refine goesL_ (some 25) rfl rfl Try.func66 (by kernel_rfl) rfl #[.slice Ao24 x4_1.length co24] rfl G.ar ?_; (with_reducible refine (spec_FormatWord.calls k1 _ _ x4_1 t834 _ ?side1 ?side2 A21.out).mono ?_); (case side1 => repeat (first | exact (Kd.R_reads' HO_4.out).2.2 | (with_reducible refine Kd.C_alloc ?_ _) | (with_reducible refine Kd.C_drewN ?_ _) | (with_reducible refine Kd.C_drew ?_))); (case side2 => exact (Kd.R_reads' HO_4.out).2.1); rintro e w' ⟨rfl, ⟨nd, rfl⟩⟩; refine ⟨_, rfl, ?_⟩) | ((with_reducible refine gate_dst (N := 32) rfl ?_); refine Kd.R_lit (Kd.int .i64) _ 3 ?hg (N := 32) ?hd (xs := ([] : List Int)) (inner := []) (ok := fun _ => True) (okp := fun _ => True) ?hr ?hp (fun _ hk => hk) trivial (Below.refl _ _) (Nat.le_refl _) (by simp) ?_; (case hd => rfl); (case hg => rfl); (case hr => first | (go_simp; done) | (go_simp; rfl)); (case hp => exact (Reps.none _ _)); intro v836 w25 ho26 hb hg_ hnew_; clear hg_ hnew_; (first | rw [← Ny835.out] at ho26 | (simp only [Int.reduceToNat] at ho26; rw [← Ny835.out] at ho26)); have n0_ := Aside0.mk (Kd.R_elder' (G.kR HO_4.out) (Kd.R_base ho26) hb); have n1_ := Aside0.mk (Kd.R_lower (Kd.R_new' ho26 (Kd.R_lt (G.kR HO_4.out))) (below_size G.bel)); have n2_ := Aside0.mk (below_step G.bel hb); clear HO_4; clear HB; have HO_4 := n0_; have HO837 := n1_; have HB := n2_; clear n0_ n1_ n2_; clear hb ho26))
      go_ret2
      exact ⟨_, G.er, by (with_reducible repeat (first | apply Kd.R_alloc | apply Kd.R_drewN | apply Kd.R_drew)); exact Kd.R_mono HO837.out (fun _ hk => trivial), G.bel⟩
     ·rw [if_neg c23] at H
      have c23b0 : (a0.toList == ([] : List UInt8)) = false := beq_eq_false_iff_ne.mpr c23
      have c23b1 : (a0.toList != ([] : List UInt8)) = true := bne_iff_ne.mpr c23
      simp only [Option.some.injEq, Prod.mk.injEq] at H
      obtain ⟨rfl, rfl⟩ := H
      obtain ⟨Ao27, co27, eo27⟩ := Kd.R_slice HO_4.out
      subst eo27
      go_wp2_with (first | ((with_reducible refine gate_callee (f := 66) rfl ?_); refine goesL_ (some 25) rfl rfl Try.func66 (by kernel_rfl) rfl #[.slice Ao27 x4_1.length co27] rfl G.ar ?_; (with_reducible refine (spec_FormatWord.calls k1 _ _ x4_1 t834 _ ?side1 ?side2 A21.out).mono ?_); (case side1 => repeat (first | exact (Kd.R_reads' HO_4.out).2.2 | (with_reducible refine Kd.C_alloc ?_ _) | (with_reducible refine Kd.C_drewN ?_ _) | (with_reducible refine Kd.C_drew ?_))); (case side2 => exact (Kd.R_reads' HO_4.out).2.1); rintro e w' ⟨rfl, ⟨nd, rfl⟩⟩; refine ⟨_, rfl, ?_⟩))
      go_ret2
      exact ⟨_, G.er, G.kR HO_4.out, G.bel⟩
    ·rw [if_neg c22] at H
     have c22b0 : (t834.toList == a0.toList) = false := beq_eq_false_iff_ne.mpr c22
     have c22b1 : (t834.toList != a0.toList) = true := bne_iff_ne.mpr c22
     obtain ⟨y838, hy838⟩ : ∃ y_ : List Int, y_ = (([] : List Int)) := ⟨_, rfl⟩
     replace H : (some (y838, false)) = some (r1, r2) := by first | (rw [hy838]; with_reducible exact H) | (have H2_ := (Option.bind_some _ _).symm.trans H; rw [hy838]; with_reducible exact H2_) | (have H2_ := (Option.bind_some _ _).symm.trans H; with_reducible exact H2_) | with_reducible exact H | (rw [hy838]; exact H) | exact H
     have Ny838 := Aside0.mk hy838
     clear hy838
     simp only [Option.some.injEq, Prod.mk.injEq] at H
     obtain ⟨rfl, rfl⟩ := H
     obtain ⟨Ao28, co28, eo28⟩ := Kd.R_slice HO_4.out
     subst eo28
     go_wp2_with (first | ((with_reducible refine gate_callee (f := 66) rfl ?_); refine goesL_ (some 25) rfl rfl Try.func66 (by kernel_rfl) rfl #[.slice Ao28 x4_1.length co28] rfl G.ar ?_; (with_reducible refine (spec_FormatWord.calls k1 _ _ x4_1 t834 _ ?side1 ?side2 A21.out).mono ?_); (case side1 => repeat (first | exact (Kd.R_reads' HO_4.out).2.2 | (with_reducible refine Kd.C_alloc ?_ _) | (with_reducible refine Kd.C_drewN ?_ _) | (with_reducible refine Kd.C_drew ?_))); (case side2 => exact (Kd.R_reads' HO_4.out).2.1); rintro e w' ⟨rfl, ⟨nd, rfl⟩⟩; refine ⟨_, rfl, ?_⟩) | ((with_reducible refine gate_dst (N := 32) rfl ?_); refine Kd.R_lit (Kd.int .i64) _ 3 ?hg (N := 32) ?hd (xs := ([] : List Int)) (inner := []) (ok := fun _ => True) (okp := fun _ => True) ?hr ?hp (fun _ hk => hk) trivial (Below.refl _ _) (Nat.le_refl _) (by simp) ?_; (case hd => rfl); (case hg => rfl); (case hr => first | (go_simp; done) | (go_simp; rfl)); (case hp => exact (Reps.none _ _)); intro v839 w29 ho30 hb hg_ hnew_; clear hg_ hnew_; (first | rw [← Ny838.out] at ho30 | (simp only [Int.reduceToNat] at ho30; rw [← Ny838.out] at ho30)); have n0_ := Aside0.mk (Kd.R_elder' (G.kR HO_4.out) (Kd.R_base ho30) hb); have n1_ := Aside0.mk (Kd.R_lower (Kd.R_new' ho30 (Kd.R_lt (G.kR HO_4.out))) (below_size G.bel)); have n2_ := Aside0.mk (below_step G.bel hb); clear HO_4; clear HB; have HO_4 := n0_; have HO840 := n1_; have HB := n2_; clear n0_ n1_ n2_; clear hb ho30))
     go_ret2
     exact ⟨_, G.er, by (with_reducible repeat (first | apply Kd.R_alloc | apply Kd.R_drewN | apply Kd.R_drew)); exact Kd.R_mono HO840.out (fun _ hk => trivial), G.bel⟩

/-! ### spec_l8Both: own walk, a loose contract -/
-- lib: GDraw
section
open Go.Proofs.Ytolikggioekalab.G
theorem spec_l8Both.tells (t845 : List Int) (ht : t845.length ≤ 1001) (t841 : List Int) (t848 t849 : Int) (hl : t841.length ≤ 1048576) (h0 : 0 ≤ t848) (h1 : t848 ≤ 1048576) : ∃ (k : Nat) (r1 : List Int) (r2 : Int), ((spec_l1Below.f t841 t848 t849 7).bind fun bt850 => ((spec_l1Below.f t841 bt850.2.1 bt850.2.2 2).bind fun bt853 => ((spec_l1Below.f t841 bt853.2.1 bt853.2.2 2).bind fun bt856 => (some (t845, wrap64 (bt850.1 - (wrap64 (bt853.1 * bt856.1)))))))) = some (r1, r2) ∧ r1.length ≤ 1001 ∧ -1 ≤ r2 ∧ r2 ≤ 6 := by
 obtain ⟨a, j1, k1, e1, a1, a2, a3, a4⟩ := below_any (h := t849) 7 hl h0 h1 (by omega)
 obtain ⟨b, j2, k2, e2, b1, b2, b3, b4⟩ := below_any (h := k1) 2 hl a3 a4 (by omega)
 obtain ⟨c, j3, k3, e3, c1, c2, c3, c4⟩ := below_any (h := k2) 2 hl b3 b4 (by omega)
 have ha := a2 (by omega)
 have hb := b2 (by omega)
 have hc := c2 (by omega)
 refine ⟨0, ?_⟩
 simp only [e1, e2, e3, Option.bind_some]
 refine ⟨_, _, rfl, ht, ?_⟩
 rcases (show b = 0 ∨ b = 1 by omega) with rfl | rfl <;> rcases (show c = 0 ∨ c = 1 by omega) with rfl | rfl <;> simp only [wrap64] <;> omega
set_option maxHeartbeats 8000000 in
set_option maxRecDepth 100000 in
theorem spec_l8Both.any (A0 : Option Addr) (c0 : Nat) (l0 : List Int) (w : World) (hr0 : Kd.C (Kd.int .u8) w A0 l0.length l0) (hc0 : l0.length ≤ c0) (hl0 : l0.length ≤ 1048576) :
  Calls Try.prog 137 #[.slice A0 l0.length c0] w fun e w' => ∃ (r1 : List Int) (r2 : Int) (v0_ : Value), (r1.length ≤ 1001 ∧ -1 ≤ r2 ∧ r2 ≤ 6) ∧ e = .returned (.tuple #[v0_, .int .i64 r2]) ∧ Kd.R (Kd.int .i64) 3 w' w.heap.size (fun _ => True) v0_ r1 ∧ Below w.heap.size w w' := by
 have HR0 := Aside0.mk hr0
 have HC0 := Aside0.mk hc0
 clear hr0 hc0
 have HB := Aside0.mk (Below.refl w.heap.size w)
 have HL_ := Aside0.mk hl0
 clear hl0
 go_enter Try.func137, Try.ntmps137
 go_upto_region 3 with (first | (go_at_call 122; (with_reducible refine (spec_l1New.any A0 c0 l0 w HR0.out HC0.out HL_.out).mono ?_); rintro e w_a ⟨g844, rfl, hc, hb⟩; have HCu_ := Aside0.mk hc; clear HB; have HB := Aside0.mk hb; clear hc hb) | (go_at_call 121; (with_reducible refine (spec_l8Any.any w _ g844 HCu_.out HB.out.size).mono ?_); rintro e w_b ⟨⟨v846, rfl, t845, hr, hl⟩, hc, hk⟩; have HO847 := Aside0.mk (Kd.R_lower hr HB.out.size); have HT_ := Aside0.mk hl; clear HCu_; have HCu_ := Aside0.mk hc; clear HB hr hl hc hk))
 obtain ⟨⟨t841, t848, t849, hi_, hl_, h0_, h1_⟩, hB_⟩ := HCu_.out
 have HI844 := Aside0.mk hi_
 clear HCu_
 have HB := Aside0.mk hB_
 obtain ⟨k, r1, r2, H, hok_⟩ := spec_l8Both.tells t845 HT_.out t841 t848 t849 hl_ h0_ h1_
 have HOK_ := Aside0.mk hok_
 clear hok_ hi_ hl_ h0_ h1_ hB_
 obtain ⟨⟨t850, t851, t852⟩, A4, H⟩ := G.bx H
 replace H : ((spec_l1Below.f t841 t851 t852 2).bind fun bt853 => ((spec_l1Below.f t841 bt853.2.1 bt853.2.2 2).bind fun bt856 => (some (t845, wrap64 (t850 - (wrap64 (bt853.1 * bt856.1))))))) = some (r1, r2) := H
 obtain ⟨⟨t853, t854, t855⟩, A5, H⟩ := G.bx H
 replace H : ((spec_l1Below.f t841 t854 t855 2).bind fun bt856 => (some (t845, wrap64 (t850 - (wrap64 (t853 * bt856.1)))))) = some (r1, r2) := H
 obtain ⟨⟨t856, t857, t858⟩, A6, H⟩ := G.bx H
 replace H : (some (t845, wrap64 (t850 - (wrap64 (t853 * t856))))) = some (r1, r2) := H
 simp only [Option.some.injEq, Prod.mk.injEq] at H
 obtain ⟨rfl, rfl⟩ := H
 go_wp2_with (first | ((with_reducible refine gate_callee (f := 127) rfl ?_); refine goesL_ (some 12) rfl rfl Try.func127 (by kernel_rfl) rfl #[.pointer (some ⟨g844, 0, none⟩), .int .i64 7] rfl G.ar ?_; (with_reducible refine (spec_l1Below.calls g844 t841 t848 t849 7 t850 t851 t852 w _ ?side1 ?side2 A4.out).mono ?_); (case side1 => repeat (first | (with_reducible first | exact HI844.out | apply IsS111.alloc | apply IsS111.drewN | apply IsS111.drew | apply IsS111.set_1 | apply IsS111.set_2) | exact HI844.out)); (case side2 => repeat (first | (with_reducible first | exact HB.out | apply below_alloc | apply pw_below_drewN | apply below_drew1 | refine below_set ?_ (IsS111.ge HI844.out)) | exact HB.out)); rintro e w9 ⟨rfl, hi, hb, hk⟩; refine ⟨_, rfl, ?_⟩; have n0_ := Aside0.mk (Kd.R_mono (Kd.R_keep (IsS111.apart (show IsS111 w _ g844 t841 t848 t849 from by repeat (first | (with_reducible first | exact HI844.out | apply IsS111.alloc | apply IsS111.drewN | apply IsS111.drew | apply IsS111.set_1 | apply IsS111.set_2) | exact HI844.out)) (G.kR HO847.out) (by decide)) hk (fun _ h => h.2)) (fun _ h => h.1)); have n1_ := Aside0.mk (hb); have n2_ := Aside0.mk (hi); clear HO847; clear HB; clear HI844; have HO847 := n0_; have HB := n1_; have HI844 := n2_; clear n0_ n1_ n2_; (try clear hb); (try clear hb2); (try clear hk); (try clear hi)) | ((with_reducible refine gate_callee (f := 127) rfl ?_); refine goesL_ (some 14) rfl rfl Try.func127 (by kernel_rfl) rfl #[.pointer (some ⟨g844, 0, none⟩), .int .i64 2] rfl G.ar ?_; (with_reducible refine (spec_l1Below.calls g844 t841 t851 t852 2 t853 t854 t855 w _ ?side1 ?side2 A5.out).mono ?_); (case side1 => repeat (first | (with_reducible first | exact HI844.out | apply IsS111.alloc | apply IsS111.drewN | apply IsS111.drew | apply IsS111.set_1 | apply IsS111.set_2) | exact HI844.out)); (case side2 => repeat (first | (with_reducible first | exact HB.out | apply below_alloc | apply pw_below_drewN | apply below_drew1 | refine below_set ?_ (IsS111.ge HI844.out)) | exact HB.out)); rintro e w10 ⟨rfl, hi, hb, hk⟩; refine ⟨_, rfl, ?_⟩; have n0_ := Aside0.mk (Kd.R_mono (Kd.R_keep (IsS111.apart (show IsS111 w _ g844 t841 t851 t852 from by repeat (first | (with_reducible first | exact HI844.out | apply IsS111.alloc | apply IsS111.drewN | apply IsS111.drew | apply IsS111.set_1 | apply IsS111.set_2) | exact HI844.out)) (G.kR HO847.out) (by decide)) hk (fun _ h => h.2)) (fun _ h => h.1)); have n1_ := Aside0.mk (hb); have n2_ := Aside0.mk (hi); clear HO847; clear HB; clear HI844; have HO847 := n0_; have HB := n1_; have HI844 := n2_; clear n0_ n1_ n2_; (try clear hb); (try clear hb2); (try clear hk); (try clear hi)) | ((with_reducible refine gate_callee (f := 127) rfl ?_); refine goesL_ (some 16) rfl rfl Try.func127 (by kernel_rfl) rfl #[.pointer (some ⟨g844, 0, none⟩), .int .i64 2] rfl G.ar ?_; (with_reducible refine (spec_l1Below.calls g844 t841 t854 t855 2 t856 t857 t858 w _ ?side1 ?side2 A6.out).mono ?_); (case side1 => repeat (first | (with_reducible first | exact HI844.out | apply IsS111.alloc | apply IsS111.drewN | apply IsS111.drew | apply IsS111.set_1 | apply IsS111.set_2) | exact HI844.out)); (case side2 => repeat (first | (with_reducible first | exact HB.out | apply below_alloc | apply pw_below_drewN | apply below_drew1 | refine below_set ?_ (IsS111.ge HI844.out)) | exact HB.out)); rintro e w11 ⟨rfl, hi, hb, hk⟩; refine ⟨_, rfl, ?_⟩; have n0_ := Aside0.mk (Kd.R_mono (Kd.R_keep (IsS111.apart (show IsS111 w _ g844 t841 t854 t855 from by repeat (first | (with_reducible first | exact HI844.out | apply IsS111.alloc | apply IsS111.drewN | apply IsS111.drew | apply IsS111.set_1 | apply IsS111.set_2) | exact HI844.out)) (G.kR HO847.out) (by decide)) hk (fun _ h => h.2)) (fun _ h => h.1)); have n1_ := Aside0.mk (hb); have n2_ := Aside0.mk (hi); clear HO847; clear HB; clear HI844; have HO847 := n0_; have HB := n1_; have HI844 := n2_; clear n0_ n1_ n2_; (try clear hb); (try clear hb2); (try clear hk); (try clear hi)))
 go_ret2
 first | exact ⟨_, _, _, HOK_.out, G.er, G.kR HO847.out, by repeat (first | (with_reducible first | exact HB.out | apply below_alloc | apply pw_below_drewN | apply below_drew1 | refine below_set ?_ (IsS111.ge HI844.out)) | exact HB.out)⟩ | exact ⟨_, _, HOK_.out, _, G.er, G.kR HO847.out, by repeat (first | (with_reducible first | exact HB.out | apply below_alloc | apply pw_below_drewN | apply below_drew1 | refine below_set ?_ (IsS111.ge HI844.out)) | exact HB.out)⟩
end

/-! ### spec_DrawFactorsOf: own walk, a loose contract -/
-- lib: GDraw
-- num: RL=def rd_L(\d+) \(xs : List \(List Int\)\) \(i : Int\)
section
open Go.Proofs.Ytolikggioekalab.G
def spec_DrawFactorsOf.Ok (t : List Int × Int) : Prop := t.1.length ≤ 1001 ∧ -1 ≤ t.2 ∧ t.2 ≤ 6
set_option maxHeartbeats 8000000 in
set_option maxRecDepth 100000 in
theorem spec_DrawFactorsOf.any (A0 : Option Addr) (c0 : Nat) (l0 : List Int) (w : World) (hr0 : Kd.C (Kd.int .u8) w A0 l0.length l0) (hc0 : l0.length ≤ c0) (hl : l0.length ≤ 1048576) :
  Calls Try.prog 68 #[.slice A0 l0.length c0] w fun e w' => ∃ (r1 : List Int) (r2 : Int) (v0_ : Value), (r1.length ≤ 1001 ∧ -1 ≤ r2 ∧ r2 ≤ 6) ∧ e = .returned (.tuple #[v0_, .int .i64 r2]) ∧ Kd.R (Kd.int .i64) 3 w' w.heap.size (fun _ => True) v0_ r1 ∧ Below w.heap.size w w' := by
 have HR0 := Aside0.mk hr0
 have HC0 := Aside0.mk hc0
 have HL := Aside0.mk hl
 clear hr0 hc0 hl
 go_enter Try.func68, Try.ntmps68
 go_wp2_with (go_at_call 137; (with_reducible refine (spec_l8Both.any A0 c0 l0 w HR0.out HC0.out HL.out).mono ?_); rintro e w3 ⟨r1, r2, v, hok, rfl, ho0, hb⟩; have HOK := Aside0.mk hok; have HO := Aside0.mk ho0; have HB := Aside0.mk hb; clear hok ho0 hb)
 go_ret2
 exact ⟨r1, r2, v, HOK.out, rfl, HO.out, HB.out⟩
end

/-! ### laws_sameWords: function 69 -/
def laws_sameWords.l0 : Nat → List (List Int) → List (List Int) → Int → Option (Bool)
 | 0, _, _, _ => none
 | k + 1, x0, x1, x5 => if x5 < (x0.length : Int) then (if 0 ≤ x5 then (if x5 < (x1.length : Int) then ((laws_sameInts.f k (rd_L1 x0 x5) (rd_L1 x1 x5)).bind fun t865 => (if t865 = true then (laws_sameWords.l0 k x0 x1 (wrap64 (x5 + 1))) else (some false))) else (none)) else (none)) else (some true)
def laws_sameWords.f (k : Nat) (l0 : List (List Int)) (l1 : List (List Int)) : Option (Bool) := if (l0.length : Int) = (l1.length : Int) then (laws_sameWords.l0 k l0 l1 0) else (some false)
set_option maxHeartbeats 8000000 in
set_option maxRecDepth 100000 in
theorem laws_sameWords.calls (k : Nat) (A0 : Option Addr) (c0 : Nat) (l0 : List (List Int)) (A1 : Option Addr) (c1 : Nat) (l1 : List (List Int)) (r : Bool) (w : World) (hr0 : Kd.C (Kd.slice 3 (Kd.int .i64)) w A0 l0.length l0) (hc0 : l0.length ≤ c0) (hr1 : Kd.C (Kd.slice 3 (Kd.int .i64)) w A1 l1.length l1) (hc1 : l1.length ≤ c1) (h : laws_sameWords.f k l0 l1 = some r) :
  Calls Try.prog 69 #[.slice A0 l0.length c0, .slice A1 l1.length c1] w fun e w' => e = .returned (.bool r) ∧ Drawn0 w w' := by
 have HR0 := Aside0.mk hr0
 have HC0 := Aside0.mk hc0
 clear hr0 hc0
 have HR1 := Aside0.mk hr1
 have HC1 := Aside0.mk hc1
 clear hr1 hc1
 have H : (if (l0.length : Int) = (l1.length : Int) then (laws_sameWords.l0 k l0 l1 0) else (some false)) = some r := h
 clear h
 by_cases c3 : (l0.length : Int) = (l1.length : Int)
 ·rw [if_pos c3] at H
  have c3b0 : ((l0.length : Int) == (l1.length : Int)) = true := beq_iff_eq.mpr c3
  have c3b1 : ((l0.length : Int) != (l1.length : Int)) = false := bne_eq_false_iff_eq.mpr c3
  have c3b2 : (l0.length == l1.length) = true := by first | simpa using c3 | (simp at c3 ⊢; omega)
  clear c3
  have H' := Aside0.mk H
  clear H
  go_enter Try.func69, Try.ntmps69
  go_wp2
  repeat (go_quiet (fail); try go_wp2)
  go_loopg [5] k (fun kq v5 w' => ∃ (x5_1 : Int), v5 = .int .i64 x5_1 ∧ Aside0 (laws_sameWords.l0 kq l0 l1 x5_1 = some r) ∧ Aside0 (kq ≤ k) ∧ Drawn0 w w')
  case atStart => exact ⟨(0), G.tr, H', ⟨Nat.le_refl _⟩, G.dn⟩
  case round =>
   clear H'
   try clear c1; try clear p2; try clear c3; try clear c3b0; try clear c3b1; try clear c3b2
   obtain ⟨x5_1, rfl, HA, HK1, ⟨m1, rfl⟩⟩ := hrel
   cases gk with
   | zero => exact absurd HA.out (by simp [laws_sameWords.l0])
   | succ k1 =>
    have H := HA.out
    clear HA
    simp only [laws_sameWords.l0] at H
    by_cases c4 : x5_1 < (l0.length : Int)
    ·rw [if_pos c4] at H
     have c4b0 : decide (x5_1 < (l0.length : Int)) = true := decide_eq_true c4
     clear c4
     by_cases c5 : 0 ≤ x5_1
     ·rw [if_pos c5] at H
      have c5b0 : decide (0 ≤ x5_1) = true := decide_eq_true c5
      clear c5
      by_cases c6 : x5_1 < (l1.length : Int)
      ·rw [if_pos c6] at H
       have c6b0 : decide (x5_1 < (l1.length : Int)) = true := decide_eq_true c6
       clear c6
       obtain ⟨t865, A7, H⟩ := G.bx H
       by_cases c8 : t865 = true
       ·subst c8
        rw [if_pos rfl] at H
        have H' := Aside0.mk H
        clear H
        have p863 : 0 ≤ (x5_1 : Int) := G.odt
        have q863 : x5_1 < (l0.length : Int) := G.odt
        obtain ⟨ad863, A863_0, c863_0, e863, hx863_0, hl863_0, hi863_0⟩ := at_L1 HR0.out x5_1 p863 q863
        cases e863
        have HR863_0 := Aside0.mk hi863_0
        have HC863_0 := Aside0.mk hl863_0
        clear hi863_0 hl863_0
        replace p863 := eq_true p863
        replace q863 := eq_true q863
        have p864 : 0 ≤ (x5_1 : Int) := G.odt
        have q864 : x5_1 < (l1.length : Int) := G.odt
        obtain ⟨ad864, A864_0, c864_0, e864, hx864_0, hl864_0, hi864_0⟩ := at_L1 HR1.out x5_1 p864 q864
        cases e864
        have HR864_0 := Aside0.mk hi864_0
        have HC864_0 := Aside0.mk hl864_0
        clear hi864_0 hl864_0
        replace p864 := eq_true p864
        replace q864 := eq_true q864
        go_wp2_with (first | (go_at_call 51; (with_reducible refine (laws_sameInts.calls k1 _ _ (rd_L1 l0 x5_1) _ _ (rd_L1 l1 x5_1) true _ ?side1 ?side2 ?side3 ?side4 A7.out).mono ?_); (case side1 => exact G.kC HR863_0.out); (case side2 => exact HC863_0.out); (case side3 => exact G.kC HR864_0.out); (case side4 => exact HC864_0.out); rintro e w' ⟨rfl, ⟨nd, rfl⟩⟩; (try first | exact ⟨rfl, _, World.drewN_drewN _ _ _⟩ | exact ⟨rfl, _, Eq.trans (World.drewN_drewN _ _ _) (congrArg (World.drewN _) (Nat.add_assoc _ _ _))⟩)))
        repeat (go_quiet (first | (go_at_call 51; (with_reducible refine (laws_sameInts.calls k1 _ _ (rd_L1 l0 x5_1) _ _ (rd_L1 l1 x5_1) true _ ?side1 ?side2 ?side3 ?side4 A7.out).mono ?_); (case side1 => exact G.kC HR863_0.out); (case side2 => exact HC863_0.out); (case side3 => exact G.kC HR864_0.out); (case side4 => exact HC864_0.out); rintro e w' ⟨rfl, ⟨nd, rfl⟩⟩; (try first | exact ⟨rfl, _, World.drewN_drewN _ _ _⟩ | exact ⟨rfl, _, Eq.trans (World.drewN_drewN _ _ _) (congrArg (World.drewN _) (Nat.add_assoc _ _ _))⟩))); try go_wp2_with (first | (go_at_call 51; (with_reducible refine (laws_sameInts.calls k1 _ _ (rd_L1 l0 x5_1) _ _ (rd_L1 l1 x5_1) true _ ?side1 ?side2 ?side3 ?side4 A7.out).mono ?_); (case side1 => exact G.kC HR863_0.out); (case side2 => exact HC863_0.out); (case side3 => exact G.kC HR864_0.out); (case side4 => exact HC864_0.out); rintro e w' ⟨rfl, ⟨nd, rfl⟩⟩; (try first | exact ⟨rfl, _, World.drewN_drewN _ _ _⟩ | exact ⟨rfl, _, Eq.trans (World.drewN_drewN _ _ _) (congrArg (World.drewN _) (Nat.add_assoc _ _ _))⟩))))
        go_roundg k1
        case measure => have := HK1.out; omega
        case rel => exact ⟨(wrap64 (x5_1 + 1)), G.tr, H', ⟨by have := HK1.out; omega⟩, G.dn⟩
       ·replace c8 := Bool.eq_false_iff.mpr c8
        subst c8
        rw [if_neg (show ¬ (false = true) by decide)] at H
        obtain rfl := Option.some.inj H
        have p863 : 0 ≤ (x5_1 : Int) := G.odt
        have q863 : x5_1 < (l0.length : Int) := G.odt
        obtain ⟨ad863, A863_0, c863_0, e863, hx863_0, hl863_0, hi863_0⟩ := at_L1 HR0.out x5_1 p863 q863
        cases e863
        have HR863_0 := Aside0.mk hi863_0
        have HC863_0 := Aside0.mk hl863_0
        clear hi863_0 hl863_0
        replace p863 := eq_true p863
        replace q863 := eq_true q863
        have p864 : 0 ≤ (x5_1 : Int) := G.odt
        have q864 : x5_1 < (l1.length : Int) := G.odt
        obtain ⟨ad864, A864_0, c864_0, e864, hx864_0, hl864_0, hi864_0⟩ := at_L1 HR1.out x5_1 p864 q864
        cases e864
        have HR864_0 := Aside0.mk hi864_0
        have HC864_0 := Aside0.mk hl864_0
        clear hi864_0 hl864_0
        replace p864 := eq_true p864
        replace q864 := eq_true q864
        go_wp2_with (first | (go_at_call 51; (with_reducible refine (laws_sameInts.calls k1 _ _ (rd_L1 l0 x5_1) _ _ (rd_L1 l1 x5_1) false _ ?side1 ?side2 ?side3 ?side4 A7.out).mono ?_); (case side1 => exact G.kC HR863_0.out); (case side2 => exact HC863_0.out); (case side3 => exact G.kC HR864_0.out); (case side4 => exact HC864_0.out); rintro e w' ⟨rfl, ⟨nd, rfl⟩⟩; (try first | exact ⟨rfl, _, World.drewN_drewN _ _ _⟩ | exact ⟨rfl, _, Eq.trans (World.drewN_drewN _ _ _) (congrArg (World.drewN _) (Nat.add_assoc _ _ _))⟩)))
        repeat (go_quiet (first | (go_at_call 51; (with_reducible refine (laws_sameInts.calls k1 _ _ (rd_L1 l0 x5_1) _ _ (rd_L1 l1 x5_1) false _ ?side1 ?side2 ?side3 ?side4 A7.out).mono ?_); (case side1 => exact G.kC HR863_0.out); (case side2 => exact HC863_0.out); (case side3 => exact G.kC HR864_0.out); (case side4 => exact HC864_0.out); rintro e w' ⟨rfl, ⟨nd, rfl⟩⟩; (try first | exact ⟨rfl, _, World.drewN_drewN _ _ _⟩ | exact ⟨rfl, _, Eq.trans (World.drewN_drewN _ _ _) (congrArg (World.drewN _) (Nat.add_assoc _ _ _))⟩))); try go_wp2_with (first | (go_at_call 51; (with_reducible refine (laws_sameInts.calls k1 _ _ (rd_L1 l0 x5_1) _ _ (rd_L1 l1 x5_1) false _ ?side1 ?side2 ?side3 ?side4 A7.out).mono ?_); (case side1 => exact G.kC HR863_0.out); (case side2 => exact HC863_0.out); (case side3 => exact G.kC HR864_0.out); (case side4 => exact HC864_0.out); rintro e w' ⟨rfl, ⟨nd, rfl⟩⟩; (try first | exact ⟨rfl, _, World.drewN_drewN _ _ _⟩ | exact ⟨rfl, _, Eq.trans (World.drewN_drewN _ _ _) (congrArg (World.drewN _) (Nat.add_assoc _ _ _))⟩))))
        go_ret
        exact ⟨G.tr, G.dn⟩
      ·rw [if_neg c6] at H
       exact absurd H (by simp)
     ·rw [if_neg c5] at H
      exact absurd H (by simp)
    ·rw [if_neg c4] at H
     have c4b0 : decide (x5_1 < (l0.length : Int)) = false := decide_eq_false c4
     clear c4
     obtain rfl := Option.some.inj H
     go_wp2
     repeat (go_quiet (fail); try go_wp2)
     go_ret
     exact ⟨G.tr, G.dn⟩
 ·rw [if_neg c3] at H
  have c3b0 : ((l0.length : Int) == (l1.length : Int)) = false := beq_eq_false_iff_ne.mpr c3
  have c3b1 : ((l0.length : Int) != (l1.length : Int)) = true := bne_iff_ne.mpr c3
  have c3b2 : (l0.length == l1.length) = false := by first | simpa using c3 | (simp at c3 ⊢; omega)
  obtain rfl := Option.some.inj H
  go_enter Try.func69, Try.ntmps69
  go_wp2
  repeat (go_quiet (fail); try go_wp2)
  go_ret
  exact ⟨G.tr, G.dn⟩

/-! ### impl_CountFactors: function 70 -/
def impl_CountFactors.f (k : Nat) (l0 : List Int) (a1 : Int) : Option (Int) := (impl_FactorsOf.f k l0 a1).bind fun bt866 => (if bt866.2 = true then (some (bt866.1.length : Int)) else (some (-1)))
set_option maxHeartbeats 8000000 in
set_option maxRecDepth 100000 in
theorem impl_CountFactors.calls (k : Nat) (A0 : Option Addr) (c0 : Nat) (l0 : List Int) (a1 : Int) (r : Int) (w : World) (hr0 : Kd.C (Kd.int .i64) w A0 l0.length l0) (hc0 : l0.length ≤ c0) (h : impl_CountFactors.f k l0 a1 = some r) :
  Calls Try.prog 70 #[.slice A0 l0.length c0, .int .i64 a1] w fun e w' => e = .returned (.int .i64 r) ∧ Below w.heap.size w w' := by
 have HR0 := Aside0.mk hr0
 have HC0 := Aside0.mk hc0
 clear hr0 hc0
 have HB := Aside0.mk (Below.refl w.heap.size w)
 have H : ((impl_FactorsOf.f k l0 a1).bind fun bt866 => (if bt866.2 = true then (some (bt866.1.length : Int)) else (some (-1)))) = some r := h
 clear h
 obtain ⟨⟨t866, t867⟩, A3, H⟩ := G.bx H
 replace H : (if t867 = true then (some (t866.length : Int)) else (some (-1))) = some r := H
 by_cases c4 : t867 = true
 ·subst c4
  rw [if_pos rfl] at H
  obtain rfl := Option.some.inj H
  go_enter Try.func70, Try.ntmps70
  go_wp2_with (first | ((with_reducible refine gate_callee (f := 31) rfl ?_); refine goesL_ (some 10) rfl rfl Try.func31 (by kernel_rfl) rfl #[.slice A0 l0.length c0, .int .i64 a1] rfl G.ar ?_; (with_reducible refine (impl_FactorsOf.calls k _ _ l0 a1 t866 true _ ?side1 ?side2 A3.out).mono ?_); (case side1 => exact G.kC HR0.out); (case side2 => exact HC0.out); rintro e w5 ⟨v868, rfl, ho0, hb⟩; refine ⟨_, rfl, ?_⟩; have n0_ := Aside0.mk (Kd.S_lower ho0 (below_size G.bel)); have n1_ := Aside0.mk (below_step G.bel hb); clear HB; have HO869 := n0_; have HB := n1_; clear n0_ n1_; (try clear hb); (try clear hb2); (try clear hk); (try clear hi); (try clear ho0); obtain ⟨Ao6, co6, eo6⟩ := Kd.S_slice HO869.out; subst eo6))
  go_ret
  exact ⟨G.er, G.bel⟩
 ·replace c4 := Bool.eq_false_iff.mpr c4
  subst c4
  rw [if_neg (show ¬ (false = true) by decide)] at H
  obtain rfl := Option.some.inj H
  go_enter Try.func70, Try.ntmps70
  go_wp2_with (first | ((with_reducible refine gate_callee (f := 31) rfl ?_); refine goesL_ (some 10) rfl rfl Try.func31 (by kernel_rfl) rfl #[.slice A0 l0.length c0, .int .i64 a1] rfl G.ar ?_; (with_reducible refine (impl_FactorsOf.calls k _ _ l0 a1 t866 false _ ?side1 ?side2 A3.out).mono ?_); (case side1 => exact G.kC HR0.out); (case side2 => exact HC0.out); rintro e w7 ⟨v868, rfl, ho0, hb⟩; refine ⟨_, rfl, ?_⟩; have n0_ := Aside0.mk (Kd.S_lower ho0 (below_size G.bel)); have n1_ := Aside0.mk (below_step G.bel hb); clear HB; have HO869 := n0_; have HB := n1_; clear n0_ n1_; (try clear hb); (try clear hb2); (try clear hk); (try clear hi); (try clear ho0)))
  go_ret
  exact ⟨G.er, G.bel⟩

/-! ### impl_IsFactor: function 72 -/
def impl_IsFactor.f (k : Nat) (l0 : List Int) (l1 : List Int) : Option (Bool) := (impl_OccurrencesOf.f k l0 l1).bind fun t870 => (some (decide ((t870.length : Int) > 0)))
set_option maxHeartbeats 8000000 in
set_option maxRecDepth 100000 in
theorem impl_IsFactor.calls (k : Nat) (A0 : Option Addr) (c0 : Nat) (l0 : List Int) (A1 : Option Addr) (c1 : Nat) (l1 : List Int) (r : Bool) (w : World) (hr0 : Kd.C (Kd.int .i64) w A0 l0.length l0) (hc0 : l0.length ≤ c0) (hr1 : Kd.C (Kd.int .i64) w A1 l1.length l1) (hc1 : l1.length ≤ c1) (h : impl_IsFactor.f k l0 l1 = some r) :
  Calls Try.prog 72 #[.slice A0 l0.length c0, .slice A1 l1.length c1] w fun e w' => e = .returned (.bool r) ∧ Below w.heap.size w w' := by
 have HR0 := Aside0.mk hr0
 have HC0 := Aside0.mk hc0
 clear hr0 hc0
 have HR1 := Aside0.mk hr1
 have HC1 := Aside0.mk hc1
 clear hr1 hc1
 have HB := Aside0.mk (Below.refl w.heap.size w)
 have H : ((impl_OccurrencesOf.f k l0 l1).bind fun t870 => (some (decide ((t870.length : Int) > 0)))) = some r := h
 clear h
 obtain ⟨t870, A3, H⟩ := G.bx H
 obtain rfl := Option.some.inj H
 go_enter Try.func72, Try.ntmps72
 go_wp2_with (first | ((with_reducible refine gate_callee (f := 75) rfl ?_); refine goesL_ (some 7) rfl rfl Try.func75 (by kernel_rfl) rfl #[.slice A0 l0.length c0, .slice A1 l1.length c1] rfl G.ar ?_; (with_reducible refine (impl_OccurrencesOf.calls k _ _ l0 _ _ l1 t870 _ ?side1 ?side2 ?side3 ?side4 A3.out).mono ?_); (case side1 => exact G.kC HR0.out); (case side2 => exact HC0.out); (case side3 => exact G.kC HR1.out); (case side4 => exact HC1.out); rintro e w4 ⟨v871, rfl, ho0, hb⟩; refine ⟨_, rfl, ?_⟩; have n0_ := Aside0.mk (Kd.R_lower ho0 (below_size G.bel)); have n1_ := Aside0.mk (below_step G.bel hb); clear HB; have HO872 := n0_; have HB := n1_; clear n0_ n1_; (try clear hb); (try clear hb2); (try clear hk); (try clear hi); (try clear ho0); obtain ⟨Ao5, co5, eo5⟩ := Kd.R_slice HO872.out; subst eo5))
 go_ret
 exact ⟨G.er, G.bel⟩

/-! ### impl_CompareWords: function 73 -/
def impl_CompareWords.f (k : Nat) (l0 : List Int) (l1 : List Int) : Option (Int) := (slices_Compare_int_int.f k l0 l1).bind fun t873 => (some t873)
set_option maxHeartbeats 8000000 in
set_option maxRecDepth 100000 in
theorem impl_CompareWords.calls (k : Nat) (A0 : Option Addr) (c0 : Nat) (l0 : List Int) (A1 : Option Addr) (c1 : Nat) (l1 : List Int) (r : Int) (w : World) (hr0 : Kd.C (Kd.int .i64) w A0 l0.length l0) (hc0 : l0.length ≤ c0) (hr1 : Kd.C (Kd.int .i64) w A1 l1.length l1) (hc1 : l1.length ≤ c1) (h : impl_CompareWords.f k l0 l1 = some r) :
  Calls Try.prog 73 #[.slice A0 l0.length c0, .slice A1 l1.length c1] w fun e w' => e = .returned (.int .i64 r) ∧ Drawn0 w w' := by
 have HR0 := Aside0.mk hr0
 have HC0 := Aside0.mk hc0
 clear hr0 hc0
 have HR1 := Aside0.mk hr1
 have HC1 := Aside0.mk hc1
 clear hr1 hc1
 have H : ((slices_Compare_int_int.f k l0 l1).bind fun t873 => (some t873)) = some r := h
 clear h
 obtain ⟨t873, A3, H⟩ := G.bx H
 obtain rfl := Option.some.inj H
 go_enter Try.func73, Try.ntmps73
 go_wp2_with (first | ((with_reducible refine gate_callee (f := 116) rfl ?_); refine goesL_ (some 7) rfl rfl Try.func116 (by kernel_rfl) rfl #[.slice A0 l0.length c0, .slice A1 l1.length c1] rfl G.ar ?_; (with_reducible refine (slices_Compare_int_int.calls k _ _ l0 _ _ l1 t873 _ ?side1 ?side2 ?side3 ?side4 A3.out).mono ?_); (case side1 => exact G.kC HR0.out); (case side2 => exact HC0.out); (case side3 => exact G.kC HR1.out); (case side4 => exact HC1.out); rintro e w' ⟨rfl, ⟨nd, rfl⟩⟩; refine ⟨_, rfl, ?_⟩))
 go_ret
 exact ⟨G.tr, G.dn⟩

/-! ### spec_l8Part: own walk, a loose contract -/
-- lib: GDraw
section
open Go.Proofs.Ytolikggioekalab.G
def spec_l8Part.j0 : Nat → List Int → Bool → List Int → Int → Int → Option (List Int × List Int)
 | 0, _, _, _, _, _ => none
 | k + 1, x5, x18, x878000, x878001, x878002 => if x18 = true then ((spec_l1Below.f x878000 x878001 x878002 (x5.length : Int)).bind fun bt886 => ((some (([] : List Int) : List Int)).bind fun y889 => ((spec_l1Below.f x878000 bt886.2.1 bt886.2.2 4).bind fun bt892 => (if 0 ≤ bt886.1 then (if bt886.1 ≤ (mn (x5.length : Int) (wrap64 (bt886.1 + bt892.1))) then (if (mn (x5.length : Int) (wrap64 (bt886.1 + bt892.1))) ≤ (x5.length : Int) then ((some ((x5.take ((mn (x5.length : Int) (wrap64 (bt886.1 + bt892.1))) : Int).toNat).drop (bt886.1 : Int).toNat : List Int)).bind fun y895 => (if y889.length + y895.length < 17592186044416 then (some (x5, (y889 ++ y895))) else (none))) else (none)) else (none)) else (none))))) else ((spec_l7Word.f k x878000 x878001 x878002 3).bind fun bt902 => (some (x5, bt902.1)))
theorem spec_l8Part.tells (t878 : List Int) (ht : t878.length ≤ 1001) (t874 : List Int) (t881 t882 : Int) (hl : t874.length ≤ 1048576) (h0 : 0 ≤ t881) (h1 : t881 ≤ 1048576) : ∃ (k : Nat) (r1 : List Int) (r2 : List Int), (if (t878.length : Int) > 0 then ((spec_l1Once.f t874 t881 t882 4).bind fun bt883 => (spec_l8Part.j0 k t878 (!bt883.1) t874 bt883.2.1 bt883.2.2)) else (spec_l8Part.j0 k t878 false t874 t881 t882)) = some (r1, r2) ∧ r1.length ≤ 1001 ∧ r2.length ≤ 1001 := by
 have part : ∀ (b : Bool) (i' h' : Int), 0 ≤ i' → i' ≤ 1048576 → (b = true → 1 ≤ t878.length) → ∃ K r2, spec_l8Part.j0 K t878 b t874 i' h' = some (t878, r2) ∧ r2.length ≤ 1001 := by
  intro b i' h' h0 h1 hb
  obtain ⟨K, u, j1, k1, e1, a1, a2, a3⟩ := word_any (h := h') 3 hl h0 h1 (by omega)
  obtain ⟨a, j2, k2, e2, a1', a2', a3', a4'⟩ := below_any (h := h') (t878.length : Int) hl h0 h1 (by omega)
  obtain ⟨c, j3, k3, e3, c1, c2, c3, c4⟩ := below_any (h := k2) 4 hl a3' a4' (by omega)
  have hc := c2 (by omega)
  refine ⟨K + 1, ?_⟩
  simp only [spec_l8Part.j0, e1, e2, e3, Option.bind_some]
  cases b with
  | true =>
   have ha := a2' (by have := hb rfl; omega)
   have hw : wrap64 (a + c) = a + c := by unfold wrap64; omega
   rw [if_pos rfl, hw]
   have hm : a ≤ mn (t878.length : Int) (a + c) ∧ mn (t878.length : Int) (a + c) ≤ (t878.length : Int) := by unfold mn; split <;> omega
   have hs : ((t878.take (mn (t878.length : Int) (a + c)).toNat).drop a.toNat).length ≤ 1001 := by rw [List.length_drop, List.length_take]; omega
   rw [if_pos a1', if_pos hm.1, if_pos hm.2, if_pos (by rw [List.length_nil]; omega)]
   exact ⟨_, rfl, by simpa using hs⟩
  | false =>
   rw [if_neg (by simp)]
   exact ⟨_, rfl, by omega⟩
 by_cases c : (t878.length : Int) > 0
 ·obtain ⟨b, j1, k1, e1, b2, b3⟩ := once_any (h := t882) 4 hl h0 h1 (by omega)
  obtain ⟨K, r2, e, hr⟩ := part (!b) j1 k1 b2 b3 (fun _ => by omega)
  refine ⟨K, t878, r2, ?_, ht, hr⟩
  rw [if_pos c]
  simp only [e1, Option.bind_some]
  exact e
 ·obtain ⟨K, r2, e, hr⟩ := part false t881 t882 h0 h1 (fun h_ => absurd h_ (by simp))
  exact ⟨K, t878, r2, by rw [if_neg c]; exact e, ht, hr⟩
set_option maxHeartbeats 8000000 in
set_option maxRecDepth 100000 in
theorem spec_l8Part.any (A0 : Option Addr) (c0 : Nat) (l0 : List Int) (w : World) (hr0 : Kd.C (Kd.int .u8) w A0 l0.length l0) (hc0 : l0.length ≤ c0) (hl0 : l0.length ≤ 1048576) :
  Calls Try.prog 138 #[.slice A0 l0.length c0] w fun e w' => ∃ (r1 : List Int) (r2 : List Int) (v0_ v1_ : Value), (r1.length ≤ 1001 ∧ r2.length ≤ 1001) ∧ e = .returned (.tuple #[v0_, v1_]) ∧ Kd.R (Kd.int .i64) 3 w' w.heap.size (fun k_ => some k_ ≠ (v1_ : Value).ownBlock) v0_ r1 ∧ Kd.R (Kd.int .i64) 3 w' w.heap.size (fun k_ => some k_ ≠ (v0_ : Value).ownBlock) v1_ r2 ∧ Below w.heap.size w w' := by
 have HR0 := Aside0.mk hr0
 have HC0 := Aside0.mk hc0
 clear hr0 hc0
 have HB := Aside0.mk (Below.refl w.heap.size w)
 have HL_ := Aside0.mk hl0
 clear hl0
 go_enter Try.func138, Try.ntmps138
 go_upto_region 3 with (first | (go_at_call 122; (with_reducible refine (spec_l1New.any A0 c0 l0 w HR0.out HC0.out HL_.out).mono ?_); rintro e w_a ⟨g877, rfl, hc, hb⟩; have HCu_ := Aside0.mk hc; clear HB; have HB := Aside0.mk hb; clear hc hb) | (go_at_call 121; (with_reducible refine (spec_l8Any.any w _ g877 HCu_.out HB.out.size).mono ?_); rintro e w_b ⟨⟨v879, rfl, t878, hr, hl⟩, hc, hk⟩; have HO880 := Aside0.mk (Kd.R_lower hr HB.out.size); have HT_ := Aside0.mk hl; clear HCu_; have HCu_ := Aside0.mk hc; clear HB hr hl hc hk))
 obtain ⟨⟨t874, t881, t882, hi_, hl_, h0_, h1_⟩, hB_⟩ := HCu_.out
 have HI877 := Aside0.mk hi_
 clear HCu_
 have HB := Aside0.mk hB_
 obtain ⟨k, r1, r2, H, hok_⟩ := spec_l8Part.tells t878 HT_.out t874 t881 t882 hl_ h0_ h1_
 have HOK_ := Aside0.mk hok_
 clear hok_ hi_ hl_ h0_ h1_ hB_
 have HC4 := Aside0.mk H
 clear H
 (try simp only [Act.put, List.setIfInBounds_toArray, List.set_cons_zero, List.set_cons_succ])
 go_cut [18] (fun v18 wc => ∃ (kq : Nat) (x18_3 : Bool) (x878001_3 : Int) (x878002_3 : Int), v18 = .bool x18_3 ∧ Aside0 (spec_l8Part.j0 kq t878 x18_3 t874 x878001_3 x878002_3 = some (r1, r2)) ∧ Aside0 (kq ≤ k) ∧ Aside0 (Kd.R (Kd.int .i64) 3 wc w.heap.size (fun _ => True) v879 t878) ∧ Aside0 (IsS111 w wc g877 t874 x878001_3 x878002_3) ∧ Aside0 (Below w.heap.size w wc))
 case first =>
  have H := HC4.out
  clear HC4
  by_cases c7 : (t878.length : Int) > 0
  ·rw [if_pos c7] at H
   have c7b0 : decide (0 < (t878.length : Int)) = true := decide_eq_true c7
   have c7b1 : decide (0 < t878.length) = true := decide_eq_true (by omega)
   clear c7
   (first | rw [c7b0] | (simp only [i64_w, i32_w]; rw [c7b0]) | skip)
   obtain ⟨⟨t883, t884, t885⟩, A8, H⟩ := G.bx H
   replace H : (spec_l8Part.j0 k t878 (!t883) t874 t884 t885) = some (r1, r2) := H
   have H' := Aside0.mk H
   clear H
   obtain ⟨Ao9, co9, eo9⟩ := Kd.R_slice HO880.out
   subst eo9
   go_wp2_with (first | (go_at_call 129; (with_reducible refine (spec_l1Once.calls g877 t874 t881 t882 4 t883 t884 t885 w _ ?side1 ?side2 A8.out).mono ?_); (case side1 => repeat (first | (with_reducible first | exact HI877.out | apply IsS111.alloc | apply IsS111.drewN | apply IsS111.drew | apply IsS111.set_1 | apply IsS111.set_2) | exact HI877.out)); (case side2 => repeat (first | (with_reducible first | exact HB.out | apply below_alloc | apply pw_below_drewN | apply below_drew1 | refine below_set ?_ (IsS111.ge HI877.out)) | exact HB.out)); rintro e w10 ⟨rfl, hi, hb, hk⟩; have n0_ := Aside0.mk (Kd.R_mono (Kd.R_keep (IsS111.apart (show IsS111 w _ g877 t874 t881 t882 from by repeat (first | (with_reducible first | exact HI877.out | apply IsS111.alloc | apply IsS111.drewN | apply IsS111.drew | apply IsS111.set_1 | apply IsS111.set_2) | exact HI877.out)) (G.kR HO880.out) (by decide)) hk (fun _ h => h.2)) (fun _ h => h.1)); have n1_ := Aside0.mk (hb); have n2_ := Aside0.mk (hi); clear HO880; clear HB; clear HI877; have HO880 := n0_; have HB := n1_; have HI877 := n2_; clear n0_ n1_ n2_; (try clear hb); (try clear hb2); (try clear hk); (try clear hi)))
   go_meet
   case rel => exact ⟨_, (!t883), (t884), (t885), G.tr, H', ⟨by first | omega | exact Nat.le_refl _⟩, ⟨G.kR HO880.out⟩, ⟨by repeat (first | (with_reducible first | exact HI877.out | apply IsS111.alloc | apply IsS111.drewN | apply IsS111.drew | apply IsS111.set_1 | apply IsS111.set_2) | exact HI877.out)⟩, ⟨by repeat (first | (with_reducible first | exact HB.out | apply below_alloc | apply pw_below_drewN | apply below_drew1 | refine below_set ?_ (IsS111.ge HI877.out)) | exact HB.out)⟩⟩
  ·rw [if_neg c7] at H
   have c7b0 : decide (0 < (t878.length : Int)) = false := decide_eq_false c7
   have c7b1 : decide (0 < t878.length) = false := decide_eq_false (by omega)
   clear c7
   (first | rw [c7b0] | (simp only [i64_w, i32_w]; rw [c7b0]) | skip)
   have H' := Aside0.mk H
   clear H
   obtain ⟨Ao11, co11, eo11⟩ := Kd.R_slice HO880.out
   subst eo11
   go_wp2
   go_meet
   case rel => exact ⟨_, (false), (t881), (t882), G.tr, H', ⟨by first | omega | exact Nat.le_refl _⟩, ⟨G.kR HO880.out⟩, ⟨by repeat (first | (with_reducible first | exact HI877.out | apply IsS111.alloc | apply IsS111.drewN | apply IsS111.drew | apply IsS111.set_1 | apply IsS111.set_2) | exact HI877.out)⟩, ⟨by repeat (first | (with_reducible first | exact HB.out | apply below_alloc | apply pw_below_drewN | apply below_drew1 | refine below_set ?_ (IsS111.ge HI877.out)) | exact HB.out)⟩⟩
 case rest =>
  clear HC4
  try clear c1; try clear p2; try clear c7; try clear c7b0; try clear c7b1
  obtain ⟨kq, x18_3, x878001_3, x878002_3, rfl, HA, HJ3, HO_5, HI877, HB⟩ := hcut
  cases kq with
  | zero => exact absurd HA.out (by simp [spec_l8Part.j0])
  | succ kj3 =>
   have H := HA.out
   clear HA
   simp only [spec_l8Part.j0] at H
   by_cases c12 : x18_3 = true
   ·subst c12
    rw [if_pos rfl] at H
    obtain ⟨⟨t886, t887, t888⟩, A13, H⟩ := G.bx H
    replace H : ((some (([] : List Int) : List Int)).bind fun y889 => ((spec_l1Below.f t874 t887 t888 4).bind fun bt892 => (if 0 ≤ t886 then (if t886 ≤ (mn (t878.length : Int) (wrap64 (t886 + bt892.1))) then (if (mn (t878.length : Int) (wrap64 (t886 + bt892.1))) ≤ (t878.length : Int) then ((some ((t878.take ((mn (t878.length : Int) (wrap64 (t886 + bt892.1))) : Int).toNat).drop (t886 : Int).toNat : List Int)).bind fun y895 => (if y889.length + y895.length < 17592186044416 then (some (t878, (y889 ++ y895))) else (none))) else (none)) else (none)) else (none)))) = some (r1, r2) := H
    obtain ⟨y889, hy889⟩ : ∃ y_ : List Int, y_ = (([] : List Int)) := ⟨_, rfl⟩
    replace H : ((spec_l1Below.f t874 t887 t888 4).bind fun bt892 => (if 0 ≤ t886 then (if t886 ≤ (mn (t878.length : Int) (wrap64 (t886 + bt892.1))) then (if (mn (t878.length : Int) (wrap64 (t886 + bt892.1))) ≤ (t878.length : Int) then ((some ((t878.take ((mn (t878.length : Int) (wrap64 (t886 + bt892.1))) : Int).toNat).drop (t886 : Int).toNat : List Int)).bind fun y895 => (if y889.length + y895.length < 17592186044416 then (some (t878, (y889 ++ y895))) else (none))) else (none)) else (none)) else (none))) = some (r1, r2) := by first | (rw [hy889]; with_reducible exact H) | (have H2_ := (Option.bind_some _ _).symm.trans H; rw [hy889]; with_reducible exact H2_) | (have H2_ := (Option.bind_some _ _).symm.trans H; with_reducible exact H2_) | with_reducible exact H | (rw [hy889]; exact H) | exact H
    have Ny889 := Aside0.mk hy889
    clear hy889
    obtain ⟨⟨t892, t893, t894⟩, A14, H⟩ := G.bx H
    replace H : (if 0 ≤ t886 then (if t886 ≤ (mn (t878.length : Int) (wrap64 (t886 + t892))) then (if (mn (t878.length : Int) (wrap64 (t886 + t892))) ≤ (t878.length : Int) then ((some ((t878.take ((mn (t878.length : Int) (wrap64 (t886 + t892))) : Int).toNat).drop (t886 : Int).toNat : List Int)).bind fun y895 => (if y889.length + y895.length < 17592186044416 then (some (t878, (y889 ++ y895))) else (none))) else (none)) else (none)) else (none)) = some (r1, r2) := H
    obtain ⟨ji15, hji15⟩ : ∃ j_ : Int, (mn (t878.length : Int) (wrap64 (t886 + t892))) = j_ := ⟨_, rfl⟩
    replace H : (if 0 ≤ t886 then (if t886 ≤ (ji15) then (if (ji15) ≤ (t878.length : Int) then ((some ((t878.take ((ji15) : Int).toNat).drop (t886 : Int).toNat : List Int)).bind fun y895 => (if y889.length + y895.length < 17592186044416 then (some (t878, (y889 ++ y895))) else (none))) else (none)) else (none)) else (none)) = some (r1, r2) := by first | (rw [hji15] at H; exact H) | (simp only [hji15] at H ⊢; exact H)
    (try rw [hji15] at A13)
    (try rw [hji15] at A14)
    have hji15_ : (if (wrap64 (t886 + t892)) < (t878.length : Int) then (wrap64 (t886 + t892)) else (t878.length : Int)) = ji15 := hji15
    by_cases c16 : 0 ≤ t886
    ·rw [if_pos c16] at H
     have c16b0 := eq_true c16
     have c16b1 : decide (0 ≤ t886) = true := decide_eq_true c16
     clear c16
     by_cases c17 : t886 ≤ (ji15)
     ·rw [if_pos c17] at H
      have c17b0 := eq_true c17
      have c17b1 : decide (t886 ≤ (ji15)) = true := decide_eq_true c17
      clear c17
      by_cases c18 : (ji15) ≤ (t878.length : Int)
      ·rw [if_pos c18] at H
       have c18b0 := eq_true c18
       have c18b1 : decide ((ji15) ≤ (t878.length : Int)) = true := decide_eq_true c18
       clear c18
       obtain ⟨y895, hy895⟩ : ∃ y_ : List Int, y_ = ((t878.take ((ji15) : Int).toNat).drop (t886 : Int).toNat) := ⟨_, rfl⟩
       replace H : (if y889.length + y895.length < 17592186044416 then (some (t878, (y889 ++ y895))) else (none)) = some (r1, r2) := by first | (rw [hy895]; with_reducible exact H) | (have H2_ := (Option.bind_some _ _).symm.trans H; rw [hy895]; with_reducible exact H2_) | (have H2_ := (Option.bind_some _ _).symm.trans H; with_reducible exact H2_) | with_reducible exact H | (rw [hy895]; exact H) | exact H
       have Ny895 := Aside0.mk hy895
       clear hy895
       by_cases c19 : y889.length + y895.length < 17592186044416
       ·rw [if_pos c19] at H
        have LMc19 := Aside0.mk c19
        clear c19
        obtain ⟨y899, hy899⟩ : ∃ y_ : List Int, y_ = (y889 ++ y895) := ⟨_, rfl⟩
        replace H : (some (t878, y899)) = some (r1, r2) := by first | (rw [hy899]; with_reducible exact H) | (have H2_ := (Option.bind_some _ _).symm.trans H; rw [hy899]; with_reducible exact H2_) | (have H2_ := (Option.bind_some _ _).symm.trans H; with_reducible exact H2_) | with_reducible exact H | (rw [hy899]; exact H) | exact H
        have Ny899 := Aside0.mk hy899
        clear hy899
        simp only [Option.some.injEq, Prod.mk.injEq] at H
        obtain ⟨rfl, rfl⟩ := H
        obtain ⟨Ao20, co20, eo20⟩ := Kd.R_slice HO_5.out
        subst eo20
        go_wp2_with (first | ((with_reducible refine gate_callee (f := 127) rfl ?_); refine goesL_ (some 22) rfl rfl Try.func127 (by kernel_rfl) rfl #[.pointer (some ⟨g877, 0, none⟩), .int .i64 (t878.length : Int)] rfl G.ar ?_; (with_reducible refine (spec_l1Below.calls g877 t874 x878001_3 x878002_3 (t878.length : Int) t886 t887 t888 w _ ?side1 ?side2 A13.out).mono ?_); (case side1 => repeat (first | (with_reducible first | exact HI877.out | apply IsS111.alloc | apply IsS111.drewN | apply IsS111.drew | apply IsS111.set_1 | apply IsS111.set_2) | exact HI877.out)); (case side2 => repeat (first | (with_reducible first | exact HB.out | apply below_alloc | apply pw_below_drewN | apply below_drew1 | refine below_set ?_ (IsS111.ge HI877.out)) | exact HB.out)); rintro e w21 ⟨rfl, hi, hb, hk⟩; refine ⟨_, rfl, ?_⟩; have n0_ := Aside0.mk (Kd.R_mono (Kd.R_keep (IsS111.apart (show IsS111 w _ g877 t874 x878001_3 x878002_3 from by repeat (first | (with_reducible first | exact HI877.out | apply IsS111.alloc | apply IsS111.drewN | apply IsS111.drew | apply IsS111.set_1 | apply IsS111.set_2) | exact HI877.out)) (G.kR HO_5.out) (by decide)) hk (fun _ h => h.2)) (fun _ h => h.1)); have n1_ := Aside0.mk (hb); have n2_ := Aside0.mk (hi); clear HO_5; clear HB; clear HI877; have HO_5 := n0_; have HB := n1_; have HI877 := n2_; clear n0_ n1_ n2_; (try clear hb); (try clear hb2); (try clear hk); (try clear hi)) | ((with_reducible refine gate_dst (N := 24) rfl ?_); refine Kd.R_lit (Kd.int .i64) _ 3 ?hg (N := 24) ?hd (xs := ([] : List Int)) (inner := []) (ok := fun _ => True) (okp := fun _ => True) ?hr ?hp (fun _ hk => hk) trivial (Below.refl _ _) (Nat.le_refl _) (by simp) ?_; (case hd => rfl); (case hg => rfl); (case hr => first | (go_simp; done) | (go_simp; rfl)); (case hp => exact (Reps.none _ _)); intro v890 w22 ho23 hb hg_ hnew_; clear hg_ hnew_; (first | rw [← Ny889.out] at ho23 | (simp only [Int.reduceToNat] at ho23; rw [← Ny889.out] at ho23)); have n0_ := Aside0.mk (Kd.R_elder' (G.kR HO_5.out) (Kd.R_base ho23) hb); have n1_ := Aside0.mk (Kd.R_lower (Kd.R_new' ho23 (Kd.R_lt (G.kR HO_5.out))) (below_size (by repeat (first | (with_reducible first | exact HB.out | apply below_alloc | apply pw_below_drewN | apply below_drew1 | refine below_set ?_ (IsS111.ge HI877.out)) | exact HB.out)))); have n2_ := Aside0.mk (IsS111.below (by repeat (first | (with_reducible first | exact HI877.out | apply IsS111.alloc | apply IsS111.drewN | apply IsS111.drew | apply IsS111.set_1 | apply IsS111.set_2) | exact HI877.out)) hb); have n3_ := Aside0.mk (below_step (by repeat (first | (with_reducible first | exact HB.out | apply below_alloc | apply pw_below_drewN | apply below_drew1 | refine below_set ?_ (IsS111.ge HI877.out)) | exact HB.out)) hb); clear HO_5; clear HI877; clear HB; have HO_5 := n0_; have HO891 := n1_; have HI877 := n2_; have HB := n3_; clear n0_ n1_ n2_ n3_; clear hb ho23) | ((with_reducible refine gate_callee (f := 127) rfl ?_); refine goesL_ (some 31) rfl rfl Try.func127 (by kernel_rfl) rfl #[.pointer (some ⟨g877, 0, none⟩), .int .i64 4] rfl G.ar ?_; (with_reducible refine (spec_l1Below.calls g877 t874 t887 t888 4 t892 t893 t894 w _ ?side1 ?side2 A14.out).mono ?_); (case side1 => repeat (first | (with_reducible first | exact HI877.out | apply IsS111.alloc | apply IsS111.drewN | apply IsS111.drew | apply IsS111.set_1 | apply IsS111.set_2) | exact HI877.out)); (case side2 => repeat (first | (with_reducible first | exact HB.out | apply below_alloc | apply pw_below_drewN | apply below_drew1 | refine below_set ?_ (IsS111.ge HI877.out)) | exact HB.out)); rintro e w24 ⟨rfl, hi, hb, hk⟩; refine ⟨_, rfl, ?_⟩; have n0_ := Aside0.mk (Kd.R_mono (Kd.R_keep (IsS111.apart (show IsS111 w _ g877 t874 t887 t888 from by repeat (first | (with_reducible first | exact HI877.out | apply IsS111.alloc | apply IsS111.drewN | apply IsS111.drew | apply IsS111.set_1 | apply IsS111.set_2) | exact HI877.out)) (G.kR HO_5.out) (by decide)) hk (fun _ h => h.2)) (fun _ h => h.1)); have n1_ := Aside0.mk (Kd.R_mono (Kd.R_keep (IsS111.apart (show IsS111 w _ g877 t874 t887 t888 from by repeat (first | (with_reducible first | exact HI877.out | apply IsS111.alloc | apply IsS111.drewN | apply IsS111.drew | apply IsS111.set_1 | apply IsS111.set_2) | exact HI877.out)) (G.kR HO891.out) (by decide)) hk (fun _ h => h.2)) (fun _ h => h.1)); have n2_ := Aside0.mk (hb); have n3_ := Aside0.mk (hi); clear HO_5; clear HO891; clear HB; clear HI877; have HO_5 := n0_; have HO891 := n1_; have HB := n2_; have HI877 := n3_; clear n0_ n1_ n2_ n3_; (try clear hb); (try clear hb2); (try clear hk); (try clear hi); have q25 : ((ji15) : Int) ≤ ((t878.length : Int) : Int) := G.odt; obtain ⟨i025, hi025, _, hsz25, _⟩ := info_parts info3; have hroom25 : t878.length ≤ co20 := (Kd.R_reads' HO_5.out).2.1; have hC25 : Kd.C (Kd.int .i64) _ Ao20 t878.length t878 := (Kd.R_reads' HO_5.out).2.2; have ql25 : (t886 : Int) ≤ ((ji15) : Int) := G.odt; have q025 : (0 : Int) ≤ (t886 : Int) := G.odt; have hcut25 := cut_mid (P := Try.prog) 22 3 .i64 .i64 Try.underlying22 hi025 1 hsz25 Ao20 t878.length co20 t886 (ji15) q025 ql25 q25 hroom25; have hr25 := Kd.C_mid (lo := (t886 : Int).toNat) (hi := ((ji15) : Int).toNat) (c := co20) hC25 (by omega) (by omega) hroom25; obtain ⟨A25, hA25⟩ : ∃ A1, A1 = (if co20 = (t886 : Int).toNat then Ao20 else (Ao20 : Option Addr).map (·.add ((t886 : Int).toNat * 1))) := ⟨_, rfl⟩; obtain ⟨c25, hc25⟩ : ∃ c1, c1 = co20 - (t886 : Int).toNat := ⟨_, rfl⟩; have hy25 : y895.length = ((ji15) : Int).toNat - (t886 : Int).toNat := (by rw [Ny895.out, List.length_drop, List.length_take] <;> omega); rw [show ((t878).take ((ji15) : Int).toNat).drop (t886 : Int).toNat = y895 from Ny895.out.symm] at hr25; replace hr25 : Kd.C (Kd.int .i64) _ A25 y895.length y895 := (by rw [hA25]; exact hr25); rw [← hy25, ← hA25, ← hc25] at hcut25; have HR898 := Aside0.mk hr25; have HC898 := Aside0.mk (show y895.length ≤ c25 from by rw [hy25, hc25]; exact Nat.sub_le_sub_right (Nat.le_trans (by omega) hroom25) _); clear hr25 hC25 hroom25 hi025 hsz25 hc25; have KY25 := Aside0.mk hy25; have KA25 := Aside0.mk hA25; clear hy25 hA25; have KL25 := Aside0.mk (show ((ji15) : Int).toNat ≤ t878.length from by omega); have KM25 := Aside0.mk (show (t886 : Int).toNat ≤ ((ji15) : Int).toNat from by omega); replace q25 := eq_true q25) | ((with_reducible refine gate_builtin (b := .append) (xs := #[.tmp 24, .tmp 34]) rfl ?_); at_builtin; refine Kd.R_append_rows (Kd.int .i64) (w0 := w) w.heap.size rfl (.tmp 24) (.tmp 34) 22 3 (.int .i64 0) 8 rfl Try.underlying22 info3 rfl (by decide) (by omega) v890 y889 y895 _ _ _ (fun k_ => some k_ ≠ (.slice Ao20 t878.length co20 : Value).ownBlock) (fun _ => False) rfl rfl ?aO ?aR (fun _ _ h => h) (fun _ h => h.elim) ?aF ?aB ?aS ?aL ?_; (case aR => repeat (first | exact (by repeat (first | (with_reducible exact HR898.out) | (with_reducible refine Kd.C_alloc ?_ _) | (with_reducible refine Kd.C_drewN ?_ _) | (with_reducible refine Kd.C_drew ?_) | exact HR898.out)) | (with_reducible refine Kd.C_alloc ?_ _) | (with_reducible refine Kd.C_drewN ?_ _) | (with_reducible refine Kd.C_drew ?_))); (case aB => exact (by repeat (first | (with_reducible first | exact HB.out | apply below_alloc | apply pw_below_drewN | apply below_drew1 | refine below_set ?_ (IsS111.ge HI877.out)) | exact HB.out))); (case aF => exact (fun k_ hk => Kd.fresh' (Kd.R_lt (G.kR HO_5.out)) k_ hk)); (case aO => exact (by (with_reducible repeat (first | apply Kd.R_alloc | apply Kd.R_drewN | apply Kd.R_drew)); exact Kd.R_mono HO891.out (fun _ hk => hk.2))); (case aS => exact (below_size (by repeat (first | (with_reducible first | exact HB.out | apply below_alloc | apply pw_below_drewN | apply below_drew1 | refine below_set ?_ (IsS111.ge HI877.out)) | exact HB.out)))); (case aL => have := LMc19.out; omega); intro v900 w26 ho hb hg hat; rw [← Ny899.out] at ho; have n0_ := Aside0.mk (Kd.R_after (ok := (fun _ => True)) (G.kR HO_5.out) hg hat); have n1_ := Aside0.mk (IsS111.grown (by repeat (first | (with_reducible first | exact HI877.out | apply IsS111.alloc | apply IsS111.drewN | apply IsS111.drew | apply IsS111.set_1 | apply IsS111.set_2) | exact HI877.out)) hg (IsS111.own_ne HI877.out HO891.out (by decide))); have n2_ := Aside0.mk (hb); have n3_ := Aside0.mk ((show Kd.C (Kd.int .i64) w26 A25 y895.length y895 from by rw [Ny895.out, KA25.out]; exact Kd.C_mid (lo := (t886 : Int).toNat) (hi := ((ji15) : Int).toNat) (c := co20) ((Kd.R_reads' (Kd.R_after (ok := (fun _ => True)) (G.kR HO_5.out) hg hat)).2.2) KM25.out KL25.out ((Kd.R_reads' (Kd.R_after (ok := (fun _ => True)) (G.kR HO_5.out) hg hat)).2.1))); have n4_ := Aside0.mk (ho); clear HO_5; clear HI877; clear HB; clear HR898; clear HO891; have HO_5 := n0_; have HI877 := n1_; have HB := n2_; have HR898 := n3_; have HO901 := n4_; clear n0_ n1_ n2_ n3_ n4_; clear ho hb hg hat))
        go_ret2
        first | exact ⟨_, _, _, _, HOK_.out, by first | rfl | (simp [errW_none, errW_some] <;> rfl) | (simp only [← hji15]; first | rfl | (simp [errW_none, errW_some] <;> rfl)) | (simp [*, errW_none, errW_some] <;> rfl), by (with_reducible repeat (first | apply Kd.R_alloc | apply Kd.R_drewN | apply Kd.R_drew)); exact Kd.R_mono HO_5.out (fun _ hk => hk.2), G.kR HO901.out, by repeat (first | (with_reducible first | exact HB.out | apply below_alloc | apply pw_below_drewN | apply below_drew1 | refine below_set ?_ (IsS111.ge HI877.out)) | exact HB.out)⟩ | exact ⟨_, _, HOK_.out, _, _, by first | rfl | (simp [errW_none, errW_some] <;> rfl) | (simp only [← hji15]; first | rfl | (simp [errW_none, errW_some] <;> rfl)) | (simp [*, errW_none, errW_some] <;> rfl), by (with_reducible repeat (first | apply Kd.R_alloc | apply Kd.R_drewN | apply Kd.R_drew)); exact Kd.R_mono HO_5.out (fun _ hk => hk.2), G.kR HO901.out, by repeat (first | (with_reducible first | exact HB.out | apply below_alloc | apply pw_below_drewN | apply below_drew1 | refine below_set ?_ (IsS111.ge HI877.out)) | exact HB.out)⟩
       ·rw [if_neg c19] at H
        exact absurd H (by simp)
      ·rw [if_neg c18] at H
       exact absurd H (by simp)
     ·rw [if_neg c17] at H
      exact absurd H (by simp)
    ·rw [if_neg c16] at H
     exact absurd H (by simp)
   ·replace c12 := Bool.eq_false_iff.mpr c12
    subst c12
    rw [if_neg (show ¬ (false = true) by decide)] at H
    obtain ⟨⟨t902, t905, t906⟩, A27, H⟩ := G.bx H
    replace H : (some (t878, t902)) = some (r1, r2) := H
    simp only [Option.some.injEq, Prod.mk.injEq] at H
    obtain ⟨rfl, rfl⟩ := H
    go_wp2_with (first | ((with_reducible refine gate_callee (f := 128) rfl ?_); refine goesL_ (some 38) rfl rfl Try.func128 (by kernel_rfl) rfl #[.pointer (some ⟨g877, 0, none⟩), .int .i64 3] rfl G.ar ?_; (with_reducible refine (spec_l7Word.calls kj3 g877 t874 x878001_3 x878002_3 3 t902 t905 t906 w _ ?side1 ?side2 A27.out).mono ?_); (case side1 => repeat (first | (with_reducible first | exact HI877.out | apply IsS111.alloc | apply IsS111.drewN | apply IsS111.drew | apply IsS111.set_1 | apply IsS111.set_2) | exact HI877.out)); (case side2 => repeat (first | (with_reducible first | exact HB.out | apply below_alloc | apply pw_below_drewN | apply below_drew1 | refine below_set ?_ (IsS111.ge HI877.out)) | exact HB.out)); rintro e w28 ⟨v903, rfl, ho0, hi, hb, hk⟩; refine ⟨_, rfl, ?_⟩; have n0_ := Aside0.mk (Kd.R_mono (Kd.R_told (Kd.R_oldK (IsS111.apart (show IsS111 w _ g877 t874 x878001_3 x878002_3 from by repeat (first | (with_reducible first | exact HI877.out | apply IsS111.alloc | apply IsS111.drewN | apply IsS111.drew | apply IsS111.set_1 | apply IsS111.set_2) | exact HI877.out)) (G.kR HO_5.out) (by decide)) hk) (Kd.R_base ho0)) (fun _ h_ => h_.1)); have n1_ := Aside0.mk (Kd.R_lower (Kd.R_new' ho0 (Kd.R_lt (G.kR HO_5.out))) (below_size (by repeat (first | (with_reducible first | exact HB.out | apply below_alloc | apply pw_below_drewN | apply below_drew1 | refine below_set ?_ (IsS111.ge HI877.out)) | exact HB.out)))); have n2_ := Aside0.mk (hb); have n3_ := Aside0.mk (hi); clear HO_5; clear HB; clear HI877; have HO_5 := n0_; have HO904 := n1_; have HB := n2_; have HI877 := n3_; clear n0_ n1_ n2_ n3_; (try clear hb); (try clear hb2); (try clear hk); (try clear hi); (try clear ho0)))
    go_ret2
    first | exact ⟨_, _, _, _, HOK_.out, G.er, by (with_reducible repeat (first | apply Kd.R_alloc | apply Kd.R_drewN | apply Kd.R_drew)); exact Kd.R_mono HO_5.out (fun _ hk => hk.2), by (with_reducible repeat (first | apply Kd.R_alloc | apply Kd.R_drewN | apply Kd.R_drew)); exact Kd.R_mono HO904.out (fun _ hk => hk.2), by repeat (first | (with_reducible first | exact HB.out | apply below_alloc | apply pw_below_drewN | apply below_drew1 | refine below_set ?_ (IsS111.ge HI877.out)) | exact HB.out)⟩ | exact ⟨_, _, HOK_.out, _, _, G.er, by (with_reducible repeat (first | apply Kd.R_alloc | apply Kd.R_drewN | apply Kd.R_drew)); exact Kd.R_mono HO_5.out (fun _ hk => hk.2), by (with_reducible repeat (first | apply Kd.R_alloc | apply Kd.R_drewN | apply Kd.R_drew)); exact Kd.R_mono HO904.out (fun _ hk => hk.2), by repeat (first | (with_reducible first | exact HB.out | apply below_alloc | apply pw_below_drewN | apply below_drew1 | refine below_set ?_ (IsS111.ge HI877.out)) | exact HB.out)⟩
end

/-! ### spec_DrawReturnWords: own walk, a loose contract -/
-- lib: GDraw
-- num: RL=def rd_L(\d+) \(xs : List \(List Int\)\) \(i : Int\)
section
open Go.Proofs.Ytolikggioekalab.G
def spec_DrawReturnWords.Ok (t : List Int × List Int) : Prop := t.1.length ≤ 1001 ∧ t.2.length ≤ 1001
set_option maxHeartbeats 8000000 in
set_option maxRecDepth 100000 in
theorem spec_DrawReturnWords.any (A0 : Option Addr) (c0 : Nat) (l0 : List Int) (w : World) (hr0 : Kd.C (Kd.int .u8) w A0 l0.length l0) (hc0 : l0.length ≤ c0) (hl : l0.length ≤ 1048576) :
  Calls Try.prog 74 #[.slice A0 l0.length c0] w fun e w' => ∃ (r1 r2 : List Int) (v0_ v1_ : Value), (r1.length ≤ 1001 ∧ r2.length ≤ 1001) ∧ e = .returned (.tuple #[v0_, v1_]) ∧ Kd.R (Kd.int .i64) 3 w' w.heap.size (fun k_ => some k_ ≠ (v1_ : Value).ownBlock) v0_ r1 ∧ Kd.R (Kd.int .i64) 3 w' w.heap.size (fun k_ => some k_ ≠ (v0_ : Value).ownBlock) v1_ r2 ∧ Below w.heap.size w w' := by
 have HR0 := Aside0.mk hr0
 have HC0 := Aside0.mk hc0
 have HL := Aside0.mk hl
 clear hr0 hc0 hl
 go_enter Try.func74, Try.ntmps74
 go_wp2_with (go_at_call 138; (with_reducible refine (spec_l8Part.any A0 c0 l0 w HR0.out HC0.out HL.out).mono ?_); rintro e w3 ⟨r1, r2, v, v1, hok, rfl, ho0, ho1, hb⟩; have HOK := Aside0.mk hok; have HO := Aside0.mk ho0; have HO1 := Aside0.mk ho1; have HB := Aside0.mk hb; clear hok ho0 ho1 hb)
 go_ret2
 exact ⟨r1, r2, v, v1, HOK.out, rfl, HO.out, HO1.out, HB.out⟩
end

/-! ### spec_DrawCompareWords: own walk, a loose contract -/
-- lib: GDraw
-- num: RL=def rd_L(\d+) \(xs : List \(List Int\)\) \(i : Int\)
section
open Go.Proofs.Ytolikggioekalab.G
def spec_DrawCompareWords.Ok (t : List Int × List Int) : Prop := t.1.length ≤ 1001 ∧ t.2.length ≤ 1001
set_option maxHeartbeats 8000000 in
set_option maxRecDepth 100000 in
theorem spec_DrawCompareWords.any (A0 : Option Addr) (c0 : Nat) (l0 : List Int) (w : World) (hr0 : Kd.C (Kd.int .u8) w A0 l0.length l0) (hc0 : l0.length ≤ c0) (hl : l0.length ≤ 1048576) :
  Calls Try.prog 77 #[.slice A0 l0.length c0] w fun e w' => ∃ (r1 r2 : List Int) (v0_ v1_ : Value), (r1.length ≤ 1001 ∧ r2.length ≤ 1001) ∧ e = .returned (.tuple #[v0_, v1_]) ∧ Kd.R (Kd.int .i64) 3 w' w.heap.size (fun k_ => some k_ ≠ (v1_ : Value).ownBlock) v0_ r1 ∧ Kd.R (Kd.int .i64) 3 w' w.heap.size (fun k_ => some k_ ≠ (v0_ : Value).ownBlock) v1_ r2 ∧ Below w.heap.size w w' := by
 have HR0 := Aside0.mk hr0
 have HC0 := Aside0.mk hc0
 have HL := Aside0.mk hl
 clear hr0 hc0 hl
 go_enter Try.func77, Try.ntmps77
 go_wp2_with (go_at_call 138; (with_reducible refine (spec_l8Part.any A0 c0 l0 w HR0.out HC0.out HL.out).mono ?_); rintro e w3 ⟨r1, r2, v, v1, hok, rfl, ho0, ho1, hb⟩; have HOK := Aside0.mk hok; have HO := Aside0.mk ho0; have HO1 := Aside0.mk ho1; have HB := Aside0.mk hb; clear hok ho0 ho1 hb)
 go_ret2
 exact ⟨r1, r2, v, v1, HOK.out, rfl, HO.out, HO1.out, HB.out⟩
theorem big_le {l : List Int} (h : laws_big.f l = some false) : l.length ≤ 1048576 := by
 unfold laws_big.f at h
 simp at h
 omega
end

end Go.Proofs.Ytolikggioekalab.PFnWords
