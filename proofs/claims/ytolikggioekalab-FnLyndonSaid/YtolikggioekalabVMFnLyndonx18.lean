/- The Go functions that the law FnLyndon reaches (part 18): each as a Lean function, and that its code comes to these answers. No condition beyond those written. -/
import Derived.Test.YtolikggioekalabVGSlim
import Derived.Test.YtolikggioekalabVMFnLyndonx17
import Derived.Test.YtolikggioekalabVMFnLyndonx16
import Derived.Test.YtolikggioekalabVMFnLyndonx15
import Derived.Test.YtolikggioekalabVMFnLyndonx14
import Derived.Test.YtolikggioekalabVMFnLyndonx13
import Derived.Test.YtolikggioekalabVMFnLyndonx11
import Derived.Test.YtolikggioekalabVMFnLyndonx10
import Derived.Test.YtolikggioekalabVMFnLyndonx9
import Derived.Test.YtolikggioekalabVMFnLyndonx8
import Derived.Test.YtolikggioekalabVMFnLyndonx7
import Derived.Test.YtolikggioekalabVMFnLyndonx6
import Derived.Test.YtolikggioekalabVMFnLyndonx5
import Derived.Test.YtolikggioekalabVMFnLyndonx4
import Derived.Test.YtolikggioekalabVMFnLyndonx3
import Derived.Test.YtolikggioekalabVMFnLyndonx2
import Derived.Test.YtolikggioekalabVMFnLyndonx1
import Derived.Test.YtolikggioekalabVMFnLyndonx0
import Derived.Test.YtolikggioekalabVMFnLyndonx12
namespace Go.Proofs.Ytolikggioekalab.PFnLyndon
open Go.RowKit Go.Proofs.YtolikggioekalabW.PrintWords Go.Proofs.YtolikggioekalabW.PrintLast Go.Proofs.YtolikggioekalabW.PrintMore
attribute [local go_sem] max2_int min2_int max_two min_two max_three min_three max_four min_four   -- for this text's walks alone
set_option linter.unusedVariables false
set_option linter.unusedSimpArgs false

/-! ### spec_StandardSplit: function 97 -/
mutual
def spec_StandardSplit.l0 : Nat → List Int → Int → Option (List Int × List Int × Bool)
 | 0, _, _ => none
 | k + 1, x0, x5 => if x5 < (x0.length : Int) then ((spec_IsLyndon.f k x0).bind fun t864 => (spec_StandardSplit.j1 k x0 x5 t864)) else (spec_StandardSplit.j1 k x0 x5 false)
def spec_StandardSplit.j1 : Nat → List Int → Int → Bool → Option (List Int × List Int × Bool)
 | 0, _, _, _ => none
 | k + 1, x0, x5, x13 => if x13 = true then (if 0 ≤ x5 then (if x5 ≤ (x0.length : Int) then ((spec_IsLyndon.f k (x0.drop (x5 : Int).toNat)).bind fun t866 => (if t866 = true then ((some (([] : List Int) : List Int)).bind fun y867 => (if y867.length + (x0.take (x5 : Int).toNat).length < 17592186044416 then ((some (([] : List Int) : List Int)).bind fun y874 => (if y874.length + (x0.drop (x5 : Int).toNat).length < 17592186044416 then (some ((y867 ++ (x0.take (x5 : Int).toNat)), (y874 ++ (x0.drop (x5 : Int).toNat)), true)) else (none))) else (none))) else (spec_StandardSplit.l0 k x0 (wrap64 (x5 + 1))))) else (none)) else (none)) else (some ((([] : List Int)), (([] : List Int)), false))
end
def spec_StandardSplit.f (k : Nat) (l0 : List Int) : Option (List Int × List Int × Bool) := spec_StandardSplit.l0 k l0 1
def spec_StandardSplit.T5 : Bool × List (List Nat × List Nat) := (true, [([], []), ([], []), ([], []), ([1, 2], [1, 2]), ([0, 3], [0, 3]), ([], []), ([], []), ([], []), ([6, 7], [6, 7]), ([5, 8, 4], [5, 8]), ([4, 9, 0, 1, 2, 3, 4], [4]), ([9, 10, 0, 1, 2, 3, 4, 5, 6, 7, 8, 9, 10], [9]), ([11, 0, 1, 2, 3, 4, 5, 6, 7, 8, 9, 10, 11], [])])
def spec_StandardSplit.B5 : List Nat := [0, 0, 0, 6, 15, 0, 0, 0, 192, 511, 1023, 2047, 4095]
theorem spec_StandardSplit.tab5 : rtab .any (opsOf Try.f97 5) = spec_StandardSplit.T5 := by kernel_rfl
theorem spec_StandardSplit.bits5 : waitsOk spec_StandardSplit.T5.2 spec_StandardSplit.B5 = true := by kernel_rfl
set_option maxHeartbeats 8000000 in
set_option maxRecDepth 100000 in
theorem spec_StandardSplit.calls (k : Nat) (A0 : Option Addr) (c0 : Nat) (l0 : List Int) (r1 : List Int) (r2 : List Int) (r3 : Bool) (w : World) (hr0 : Kd.C (Kd.int .i64) w A0 l0.length l0) (hc0 : l0.length ≤ c0) (h : spec_StandardSplit.f k l0 = some (r1, r2, r3)) :
  Calls Try.prog 97 #[.slice A0 l0.length c0] w fun e w' => ∃ v0_ v1_ : Value, e = .returned (.tuple #[v0_, v1_, .bool r3]) ∧ Kd.R (Kd.int .i64) 3 w' w.heap.size (fun k_ => some k_ ≠ (v1_ : Value).ownBlock) v0_ r1 ∧ Kd.R (Kd.int .i64) 3 w' w.heap.size (fun k_ => some k_ ≠ (v0_ : Value).ownBlock) v1_ r2 ∧ Below w.heap.size w w' := by
 have HR0 := Aside0.mk hr0
 have HC0 := Aside0.mk hc0
 clear hr0 hc0
 have HB := Aside0.mk (Below.refl w.heap.size w)
 have H : (spec_StandardSplit.l0 k l0 1) = some (r1, r2, r3) := h
 clear h
 have H' := Aside0.mk H
 clear H
 go_enter Try.func97, Try.ntmps97
 go_wp2
 go_loopg [5] k (fun kq v5 w' => ∃ (x5_1 : Int), v5 = .int .i64 x5_1 ∧ Aside0 (spec_StandardSplit.l0 kq l0 x5_1 = some (r1, r2, r3)) ∧ Aside0 (kq ≤ k) ∧ Aside0 (Below w.heap.size w w'))
 case atStart => exact ⟨(1), G.tr, H', ⟨Nat.le_refl _⟩, ⟨G.bel⟩⟩
 case round =>
  clear H'
  obtain ⟨x5_1, rfl, HA, HK1, HB⟩ := hrel
  cases gk with
  | zero => exact absurd HA.out (by simp [spec_StandardSplit.l0])
  | succ k1 =>
   have H := HA.out
   clear HA
   simp only [spec_StandardSplit.l0] at H
   have HC2 := Aside0.mk H
   clear H
   go_upto_region 2 with (fail)
   go_cut [13] (fun v13 wc => ∃ (kq : Nat) (x13_1 : Bool), v13 = .bool x13_1 ∧ Aside0 (spec_StandardSplit.j1 kq l0 x5_1 x13_1 = some (r1, r2, r3)) ∧ Aside0 (kq ≤ k1) ∧ Aside0 (Below w.heap.size w wc))
   case first =>
    have H := HC2.out
    clear HC2
    by_cases c3 : x5_1 < (l0.length : Int)
    ·rw [if_pos c3] at H
     have c3b0 : decide (x5_1 < (l0.length : Int)) = true := decide_eq_true c3
     clear c3
     (first | rw [c3b0] | (simp only [i64_w, i32_w]; rw [c3b0]) | skip)
     obtain ⟨t864, A4, H⟩ := G.bx H
     have H' := Aside0.mk H
     clear H
     go_wp2_with (first | (go_at_call 85; (with_reducible refine (spec_IsLyndon.calls k1 _ _ l0 t864 _ ?side1 ?side2 A4.out).mono ?_); (case side1 => exact G.kC (Kd.C_below HR0.out HB.out)); (case side2 => exact HC0.out); rintro e w' ⟨rfl, ⟨nd, rfl⟩⟩))
     go_meet
     case rel => exact ⟨_, (t864), G.tr, H', ⟨by have := HK1.out; first | omega | exact Nat.le_refl _⟩, ⟨G.bel⟩⟩
    ·rw [if_neg c3] at H
     have c3b0 : decide (x5_1 < (l0.length : Int)) = false := decide_eq_false c3
     clear c3
     (first | rw [c3b0] | (simp only [i64_w, i32_w]; rw [c3b0]) | skip)
     have H' := Aside0.mk H
     clear H
     go_wp2
     go_meet
     case rel => exact ⟨_, (false), G.tr, H', ⟨by have := HK1.out; first | omega | exact Nat.le_refl _⟩, ⟨G.bel⟩⟩
   case rest =>
    clear HC2
    try clear p2; try clear c3; try clear c3b0
    obtain ⟨kq, x13_1, rfl, HA, HJ1, HB⟩ := hcut
    cases kq with
    | zero => exact absurd HA.out (by simp [spec_StandardSplit.j1])
    | succ kj1 =>
     have H := HA.out
     clear HA
     simp only [spec_StandardSplit.j1] at H
     by_cases c5 : x13_1 = true
     ·subst c5
      rw [if_pos rfl] at H
      by_cases c6 : 0 ≤ x5_1
      ·rw [if_pos c6] at H
       have c6b0 := eq_true c6
       have c6b1 : decide (0 ≤ x5_1) = true := decide_eq_true c6
       clear c6
       by_cases c7 : x5_1 ≤ (l0.length : Int)
       ·rw [if_pos c7] at H
        have c7b0 := eq_true c7
        have c7b1 : decide (x5_1 ≤ (l0.length : Int)) = true := decide_eq_true c7
        clear c7
        obtain ⟨t866, A8, H⟩ := G.bx H
        by_cases c9 : t866 = true
        ·subst c9
         rw [if_pos rfl] at H
         obtain ⟨y867, hy867⟩ : ∃ y_ : List Int, y_ = (([] : List Int)) := ⟨_, rfl⟩
         replace H : (if y867.length + (l0.take (x5_1 : Int).toNat).length < 17592186044416 then ((some (([] : List Int) : List Int)).bind fun y874 => (if y874.length + (l0.drop (x5_1 : Int).toNat).length < 17592186044416 then (some ((y867 ++ (l0.take (x5_1 : Int).toNat)), (y874 ++ (l0.drop (x5_1 : Int).toNat)), true)) else (none))) else (none)) = some (r1, r2, r3) := by first | (rw [hy867]; with_reducible exact H) | (have H2_ := (Option.bind_some _ _).symm.trans H; rw [hy867]; with_reducible exact H2_) | (have H2_ := (Option.bind_some _ _).symm.trans H; with_reducible exact H2_) | with_reducible exact H | (rw [hy867]; exact H) | exact H
         have Ny867 := Aside0.mk hy867
         clear hy867
         have c10b0 := eq_true (G.odt : 0 ≤ x5_1)
         have c11b0 := eq_true (G.odt : x5_1 ≤ (l0.length : Int))
         by_cases c12 : y867.length + (l0.take (x5_1 : Int).toNat).length < 17592186044416
         ·rw [if_pos c12] at H
          have LMc12 := Aside0.mk c12
          clear c12
          obtain ⟨y871, hy871⟩ : ∃ y_ : List Int, y_ = (y867 ++ (l0.take (x5_1 : Int).toNat)) := ⟨_, rfl⟩
          replace H : ((some (([] : List Int) : List Int)).bind fun y874 => (if y874.length + (l0.drop (x5_1 : Int).toNat).length < 17592186044416 then (some (y871, (y874 ++ (l0.drop (x5_1 : Int).toNat)), true)) else (none))) = some (r1, r2, r3) := by first | (rw [hy871]; with_reducible exact H) | (have H2_ := (Option.bind_some _ _).symm.trans H; rw [hy871]; with_reducible exact H2_) | (have H2_ := (Option.bind_some _ _).symm.trans H; with_reducible exact H2_) | with_reducible exact H | (rw [hy871]; exact H) | exact H
          have Ny871 := Aside0.mk hy871
          clear hy871
          obtain ⟨y874, hy874⟩ : ∃ y_ : List Int, y_ = (([] : List Int)) := ⟨_, rfl⟩
          replace H : (if y874.length + (l0.drop (x5_1 : Int).toNat).length < 17592186044416 then (some (y871, (y874 ++ (l0.drop (x5_1 : Int).toNat)), true)) else (none)) = some (r1, r2, r3) := by first | (rw [hy874]; with_reducible exact H) | (have H2_ := (Option.bind_some _ _).symm.trans H; rw [hy874]; with_reducible exact H2_) | (have H2_ := (Option.bind_some _ _).symm.trans H; with_reducible exact H2_) | with_reducible exact H | (rw [hy874]; exact H) | exact H
          have Ny874 := Aside0.mk hy874
          clear hy874
          have c13b0 := eq_true (G.odt : 0 ≤ x5_1)
          have c14b0 := eq_true (G.odt : x5_1 ≤ (l0.length : Int))
          by_cases c15 : y874.length + (l0.drop (x5_1 : Int).toNat).length < 17592186044416
          ·rw [if_pos c15] at H
           have LMc15 := Aside0.mk c15
           clear c15
           obtain ⟨y878, hy878⟩ : ∃ y_ : List Int, y_ = (y874 ++ (l0.drop (x5_1 : Int).toNat)) := ⟨_, rfl⟩
           replace H : (some (y871, y878, true)) = some (r1, r2, r3) := by first | (rw [hy878]; with_reducible exact H) | (have H2_ := (Option.bind_some _ _).symm.trans H; rw [hy878]; with_reducible exact H2_) | (have H2_ := (Option.bind_some _ _).symm.trans H; with_reducible exact H2_) | with_reducible exact H | (rw [hy878]; exact H) | exact H
           have Ny878 := Aside0.mk hy878
           clear hy878
           simp only [Option.some.injEq, Prod.mk.injEq] at H
           obtain ⟨rfl, rfl, rfl⟩ := H
           obtain ⟨i016, hi016, _, hsz16, _⟩ := info_parts info3
           obtain ⟨A16, hcut16, hA16, hC16⟩ := print_drop_of (P := Try.prog) (Value.int .i64) 0 22 3 .i64 Try.underlying22 hi016 hsz16 A0 c0 l0 x5_1 G.odt G.odt HC0.out
           have HR865 := Aside0.mk (Kd.C_of_reads (h1 := fun _ => rfl) (hA16 _ (Kd.reads_of_C HR0.out)))
           have HC865 := Aside0.mk hC16
           clear hA16 hC16 hi016 hsz16
           try go_wp2_with (first | ((with_reducible refine gate_callee (f := 85) rfl ?_); refine goesL_ (some 19) rfl rfl Try.func85 (by kernel_rfl) rfl #[.slice A16 (l0.drop (x5_1 : Int).toNat).length (c0 - x5_1.toNat)] rfl (by (try simp only [List.map_toArray, List.map_cons, List.map_nil]); first | done | (rw [show (l0.drop (x5_1 : Int).toNat).length = (l0.length - x5_1.toNat) from List.length_drop] <;> rfl) | rfl | (simp only [List.length_drop, List.length_take]; rfl)) ?_; (with_reducible refine (spec_IsLyndon.calls kj1 _ _ (l0.drop (x5_1 : Int).toNat) true _ ?side1 ?side2 A8.out).mono ?_); (case side1 => exact G.kC (Kd.C_below HR865.out HB.out)); (case side2 => exact HC865.out); rintro e w' ⟨rfl, ⟨nd, rfl⟩⟩; refine ⟨_, rfl, ?_⟩))
           (try (rw [drewN_self wc]; generalize hq_ : World.drewN wc _ = wc; have n0_ : Aside0 (Below w.heap.size w wc) := ⟨by rw [← hq_]; exact G.bel⟩; clear HB hq_; have HB := n0_; clear n0_))
           have n0_ := Aside0.mk (below_drew1 HB.out)
           clear HB
           have HB := n0_
           clear n0_
           obtain ⟨i018, hi018, _, hsz18, _⟩ := info_parts info3
           obtain ⟨hcut18, hA18, hC18⟩ := print_take_of (P := Try.prog) (Value.int .i64) 0 22 3 .i64 Try.underlying22 hi018 hsz18 A0 c0 l0 x5_1 G.odt G.odt HC0.out
           have HR870 := Aside0.mk (Kd.C_of_reads (h1 := fun _ => rfl) (hA18 _ (Kd.reads_of_C HR0.out)))
           have HC870 := Aside0.mk hC18
           clear hA18 hC18 hi018 hsz18
           obtain ⟨i019, hi019, _, hsz19, _⟩ := info_parts info3
           obtain ⟨A19, hcut19, hA19, hC19⟩ := print_drop_of (P := Try.prog) (Value.int .i64) 0 22 3 .i64 Try.underlying22 hi019 hsz19 A0 c0 l0 x5_1 G.odt G.odt HC0.out
           have HR877 := Aside0.mk (Kd.C_of_reads (h1 := fun _ => rfl) (hA19 _ (Kd.reads_of_C HR0.out)))
           have HC877 := Aside0.mk hC19
           clear hA19 hC19 hi019 hsz19
           refine start_ (n := 13) (S := fun w' => True) (ds := []) #[false, false, false, false, false, false, false, false, false, false, false, false, false] (by kernel_rfl) rfl rfl trivial (fun hHeld => ?_); refine with_tabW spec_StandardSplit.tab5 spec_StandardSplit.bits5 (fun HT_ HW_ => ?_)
           generalize wc.drew = w17 at HB HR870 HR877 hHeld ⊢
           refine pure_ (i := 1) (N := some 21) (v := ?_) (a' := ?_) #[false, true, false, false, false, false, false, false, false, false, false, false, false] rfl rfl (any_of HT_.out (by kernel_rfl)) (fun _ _ _ h => h) (Or.inl ⟨by rfl, ?_⟩) ?_ ?_
           rotate_left; (·intro w'; go_simp; with_reducible rfl); rotate_left; (·simp only [Act.put, List.setIfInBounds_toArray, List.set_cons_zero, List.set_cons_succ, i64_w, i32_w]; rfl)
           refine pure_ (i := 2) (N := some 22) (v := ?_) (a' := ?_) #[false, true, true, false, false, false, false, false, false, false, false, false, false] rfl rfl (any_of HT_.out (by kernel_rfl)) (fun _ _ _ h => h) (Or.inl ⟨by rfl, ?_⟩) ?_ ?_
           rotate_left; (·intro w'; go_simp; with_reducible rfl); rotate_left; (·simp only [Act.put, List.setIfInBounds_toArray, List.set_cons_zero, List.set_cons_succ, i64_w, i32_w]; rfl)
           refine pure_ (i := 3) (N := some 23) (v := ?_) (a' := ?_) #[false, true, true, true, false, false, false, false, false, false, false, false, false] rfl rfl (any_of HT_.out (by kernel_rfl)) (fun _ _ _ h => h) (Or.inl ⟨by rfl, ?_⟩) ?_ ?_
           rotate_left; (·intro w'; go_simp; with_reducible rfl); rotate_left; (·simp only [Act.put, List.setIfInBounds_toArray, List.set_cons_zero, List.set_cons_succ, i64_w, i32_w]; rfl)
           refine pure_ (i := 6) (N := some 26) (v := ?_) (a' := ?_) #[false, true, true, true, false, false, true, false, false, false, false, false, false] rfl rfl (any_of HT_.out (by kernel_rfl)) (fun _ _ _ h => h) (Or.inl ⟨by rfl, ?_⟩) ?_ ?_
           rotate_left; (·intro w'; go_simp; with_reducible rfl); rotate_left; (·simp only [Act.put, List.setIfInBounds_toArray, List.set_cons_zero, List.set_cons_succ, i64_w, i32_w]; rfl)
           refine pure_ (i := 7) (N := some 27) (v := ?_) (a' := ?_) #[false, true, true, true, false, false, true, true, false, false, false, false, false] rfl rfl (any_of HT_.out (by kernel_rfl)) (fun _ _ _ h => h) (Or.inl ⟨by rfl, ?_⟩) ?_ ?_
           rotate_left; (·intro w'; go_simp; with_reducible rfl); rotate_left; (·simp only [Act.put, List.setIfInBounds_toArray, List.set_cons_zero, List.set_cons_succ, i64_w, i32_w]; rfl)
           refine pure_ (i := 8) (N := some 28) (v := ?_) (a' := ?_) #[false, true, true, true, false, false, true, true, true, false, false, false, false] rfl rfl (any_of HT_.out (by kernel_rfl)) (fun _ _ _ h => h) (Or.inl ⟨by rfl, ?_⟩) ?_ ?_
           rotate_left; (·intro w'; go_simp; with_reducible rfl); rotate_left; (·simp only [Act.put, List.setIfInBounds_toArray, List.set_cons_zero, List.set_cons_succ, i64_w, i32_w]; rfl)
           refine join_ (σ := Value × Value × Value) 4 #[true, true, true, true, true, true, true, true, true, false, false, false, false] (fun s_ => [(20, s_.1), (24, s_.2.1), (25, s_.2.2)]) (fun s_ w' => (Kd.R (Kd.int .i64) 3 w' w.heap.size (fun k_ => some k_ ≠ (s_.2.2 : Value).ownBlock) s_.2.1 y871) ∧ (Kd.R (Kd.int .i64) 3 w' w.heap.size (fun k_ => some k_ ≠ (s_.2.1 : Value).ownBlock) s_.2.2 y874) ∧ (Below w.heap.size w w')) ?_ ?_
           rotate_left
           ·intro hCont
            refine two_ (i := 0) (j := 5) (Ni := some 20) (Nj := some 25) #[true, true, true, true, false, false, true, true, true, false, false, false, false] #[false, true, true, true, false, true, true, true, true, false, false, false, false] rfl rfl rfl rfl (two_of HT_.out (by kernel_rfl)) (by decide) (by decide) (fun K hK => ?_) (fun K hK => ?_)
            ·skip
             refine Kd.R_lit_step (Kd.int .i64) _ 3 ?hg (N := 20) ?hd (xs := ([] : List Int)) (inner := []) (ok := fun _ => True) (okp := fun _ => True) ?hr ?hp (fun _ hk => hk) trivial (Below.refl _ _) (Nat.le_refl _) (by simp) ?_; (case hd => rfl); (case hg => rfl); (case hr => first | (go_simp; done) | (go_simp; rfl)); (case hp => exact (Reps.none _ _))
             intro v868 w20 ho21 hb hg_ hnew_
             clear hg_ hnew_
             (first | rw [← Ny867.out] at ho21 | (simp only [Int.reduceToNat] at ho21; rw [← Ny867.out] at ho21))
             have n0_ := Aside0.mk (Kd.R_lower ho21 (below_size G.bel))
             have n1_ := Aside0.mk (below_step G.bel hb)
             clear HB
             have HO869 := n0_
             have HB := n1_
             clear n0_ n1_
             clear hb ho21
             refine hK.out _ _ trivial (fun hHeld => ?_)
             clear hK K
             refine norm_ (a' := ?_) ?_ ?_
             rotate_left
             ·show Act.put _ (some 20) _ = _
              simp only [Act.put, List.setIfInBounds_toArray, List.set_cons_zero, List.set_cons_succ, i64_w, i32_w]
              rfl
             refine two_ (i := 4) (j := 5) (Ni := some 24) (Nj := some 25) #[true, true, true, true, true, false, true, true, true, false, false, false, false] #[true, true, true, true, false, true, true, true, true, false, false, false, false] rfl rfl rfl rfl (two_of HT_.out (by kernel_rfl)) (by decide) (by decide) (fun K hK => ?_) (fun K hK => ?_)
             ·skip
              refine Kd.R_append_rows_step (Kd.int .i64) (w0 := w) w.heap.size (by rfl) (.tmp 20) (.tmp 23) 22 3 (.int .i64 0) 8 rfl Try.underlying22 info3 rfl (by decide) (by omega) v868 y867 (l0.take (x5_1 : Int).toNat) _ _ _ (fun _ => True) (fun _ => False) rfl rfl ?aO ?aR (fun _ _ h => h) (fun _ h => h.elim) ?aF ?aB ?aS ?aL ?_
              (case aR => first | (have h_ := HR870.out; simp only [Int.toNat_natCast, List.take_length] at h_ ⊢; exact (Kd.C_below h_ HB.out)) | (have h_ := HR870.out; rw [show (l0.take (x5_1 : Int).toNat).length = x5_1.toNat from (by rw [List.length_take]; have h_ : (x5_1 : Int) ≤ (l0.length : Int) := G.odt; omega)] at h_; exact (Kd.C_below h_ HB.out)) | exact (Kd.C_below HR870.out HB.out) | (have h_ := HR865.out; simp only [Int.toNat_natCast, List.take_length] at h_ ⊢; exact (Kd.C_below h_ HB.out)) | (have h_ := HR865.out; rw [show (l0.take (x5_1 : Int).toNat).length = x5_1.toNat from (by rw [List.length_take]; have h_ : (x5_1 : Int) ≤ (l0.length : Int) := G.odt; omega)] at h_; exact (Kd.C_below h_ HB.out)) | exact (Kd.C_below HR865.out HB.out) | (have h_ := HR877.out; simp only [Int.toNat_natCast, List.take_length] at h_ ⊢; exact (Kd.C_below h_ HB.out)) | (have h_ := HR877.out; rw [show (l0.take (x5_1 : Int).toNat).length = x5_1.toNat from (by rw [List.length_take]; have h_ : (x5_1 : Int) ≤ (l0.length : Int) := G.odt; omega)] at h_; exact (Kd.C_below h_ HB.out)) | exact (Kd.C_below HR877.out HB.out) | (rw [← show (l0.take (x5_1 : Int).toNat).length = x5_1.toNat from (by rw [List.length_take]; have h_ : (x5_1 : Int) ≤ (l0.length : Int) := G.odt; omega)]; repeat (first | exact (Kd.C_below HR870.out HB.out) | (with_reducible refine Kd.C_alloc ?_ _) | (with_reducible refine Kd.C_drewN ?_ _) | (with_reducible refine Kd.C_drew ?_))) | (repeat (first | exact (Kd.C_below HR870.out HB.out) | (with_reducible refine Kd.C_alloc ?_ _) | (with_reducible refine Kd.C_drewN ?_ _) | (with_reducible refine Kd.C_drew ?_))))
              (case aB => exact G.bel)
              (case aF => exact (fun _ _ => trivial))
              (case aO => exact (G.kR HO869.out))
              (case aS => exact (below_size G.bel))
              (case aL => have := LMc12.out; have hlx_ := (show (l0.take (x5_1 : Int).toNat).length = x5_1.toNat from (by rw [List.length_take]; have h_ : (x5_1 : Int) ≤ (l0.length : Int) := G.odt; omega)); omega)
              intro v872 w22 ho hb hg hat
              rw [← Ny871.out] at ho
              have n0_ := Aside0.mk (hb)
              have n1_ := Aside0.mk (ho)
              clear HB
              clear HO869
              have HB := n0_
              have HO873 := n1_
              clear n0_ n1_
              clear ho hb hg hat
              refine hK.out _ _ trivial (fun hHeld => ?_)
              clear hK K
              refine norm_ (a' := ?_) ?_ ?_
              rotate_left
              ·show Act.put _ (some 24) _ = _
               simp only [Act.put, List.setIfInBounds_toArray, List.set_cons_zero, List.set_cons_succ, i64_w, i32_w]
               rfl
              refine one_ (i := 5) (N := some 25) #[true, true, true, true, true, true, true, true, true, false, false, false, false] rfl rfl (one_of HT_.out (by kernel_rfl)) (by decide) (fun K hK => ?_)
              refine Kd.R_lit_step (Kd.int .i64) _ 3 ?hg (N := 25) ?hd (xs := ([] : List Int)) (inner := []) (ok := fun _ => True) (okp := fun _ => True) ?hr ?hp (fun _ hk => hk) trivial (Below.refl _ _) (Nat.le_refl _) (by simp) ?_; (case hd => rfl); (case hg => rfl); (case hr => first | (go_simp; done) | (go_simp; rfl)); (case hp => exact (Reps.none _ _))
              intro v875 w23 ho24 hb hg_ hnew_
              clear hg_ hnew_
              (first | rw [← Ny874.out] at ho24 | (simp only [Int.reduceToNat] at ho24; rw [← Ny874.out] at ho24))
              have n0_ := Aside0.mk (Kd.R_elder' (G.kR HO873.out) (Kd.R_base ho24) hb)
              have n1_ := Aside0.mk (Kd.R_lower (Kd.R_new' ho24 (Kd.R_lt (G.kR HO873.out))) (below_size G.bel))
              have n2_ := Aside0.mk (below_step G.bel hb)
              clear HO873
              clear HB
              have HO873 := n0_
              have HO876 := n1_
              have HB := n2_
              clear n0_ n1_ n2_
              clear hb ho24
              refine hK.out _ _ trivial (fun hHeld => ?_)
              clear hK K
              refine norm_ (a' := ?_) ?_ ?_
              rotate_left
              ·show Act.put _ (some 25) _ = _
               simp only [Act.put, List.setIfInBounds_toArray, List.set_cons_zero, List.set_cons_succ, i64_w, i32_w]
               rfl
              exact norm_ (by simp only [putAll, Act.put, List.setIfInBounds_toArray, List.set_cons_zero, List.set_cons_succ]) (hCont (v868, v872, v875) _ ⟨(by (with_reducible repeat (first | apply Kd.R_alloc | apply Kd.R_drewN | apply Kd.R_drew)); exact Kd.R_mono HO873.out (fun _ hk => hk.2)), (by (with_reducible repeat (first | apply Kd.R_alloc | apply Kd.R_drewN | apply Kd.R_drew)); exact Kd.R_mono HO876.out (fun _ hk => hk.2)), G.bel⟩)
             ·skip
              refine Kd.R_lit_step (Kd.int .i64) _ 3 ?hg (N := 25) ?hd (xs := ([] : List Int)) (inner := []) (ok := fun _ => True) (okp := fun _ => True) ?hr ?hp (fun _ hk => hk) trivial (Below.refl _ _) (Nat.le_refl _) (by simp) ?_; (case hd => rfl); (case hg => rfl); (case hr => first | (go_simp; done) | (go_simp; rfl)); (case hp => exact (Reps.none _ _))
              intro v875 w22 ho23 hb hg_ hnew_
              clear hg_ hnew_
              (first | rw [← Ny874.out] at ho23 | (simp only [Int.reduceToNat] at ho23; rw [← Ny874.out] at ho23))
              have n0_ := Aside0.mk (Kd.R_elder' (G.kR HO869.out) (Kd.R_base ho23) hb)
              have n1_ := Aside0.mk (Kd.R_lower (Kd.R_new' ho23 (Kd.R_lt (G.kR HO869.out))) (below_size G.bel))
              have n2_ := Aside0.mk (below_step G.bel hb)
              clear HO869
              clear HB
              have HO869 := n0_
              have HO876 := n1_
              have HB := n2_
              clear n0_ n1_ n2_
              clear hb ho23
              refine hK.out _ _ trivial (fun hHeld => ?_)
              clear hK K
              refine norm_ (a' := ?_) ?_ ?_
              rotate_left
              ·show Act.put _ (some 25) _ = _
               simp only [Act.put, List.setIfInBounds_toArray, List.set_cons_zero, List.set_cons_succ, i64_w, i32_w]
               rfl
              refine one_ (i := 4) (N := some 24) #[true, true, true, true, true, true, true, true, true, false, false, false, false] rfl rfl (one_of HT_.out (by kernel_rfl)) (by decide) (fun K hK => ?_)
              refine Kd.R_append_rows_step (Kd.int .i64) (w0 := w) w.heap.size (by rfl) (.tmp 20) (.tmp 23) 22 3 (.int .i64 0) 8 rfl Try.underlying22 info3 rfl (by decide) (by omega) v868 y867 (l0.take (x5_1 : Int).toNat) _ _ _ (fun k_ => some k_ ≠ (v875 : Value).ownBlock) (fun _ => False) rfl rfl ?aO ?aR (fun _ _ h => h) (fun _ h => h.elim) ?aF ?aB ?aS ?aL ?_
              (case aR => first | (have h_ := HR870.out; simp only [Int.toNat_natCast, List.take_length] at h_ ⊢; exact (Kd.C_below h_ HB.out)) | (have h_ := HR870.out; rw [show (l0.take (x5_1 : Int).toNat).length = x5_1.toNat from (by rw [List.length_take]; have h_ : (x5_1 : Int) ≤ (l0.length : Int) := G.odt; omega)] at h_; exact (Kd.C_below h_ HB.out)) | exact (Kd.C_below HR870.out HB.out) | (have h_ := HR865.out; simp only [Int.toNat_natCast, List.take_length] at h_ ⊢; exact (Kd.C_below h_ HB.out)) | (have h_ := HR865.out; rw [show (l0.take (x5_1 : Int).toNat).length = x5_1.toNat from (by rw [List.length_take]; have h_ : (x5_1 : Int) ≤ (l0.length : Int) := G.odt; omega)] at h_; exact (Kd.C_below h_ HB.out)) | exact (Kd.C_below HR865.out HB.out) | (have h_ := HR877.out; simp only [Int.toNat_natCast, List.take_length] at h_ ⊢; exact (Kd.C_below h_ HB.out)) | (have h_ := HR877.out; rw [show (l0.take (x5_1 : Int).toNat).length = x5_1.toNat from (by rw [List.length_take]; have h_ : (x5_1 : Int) ≤ (l0.length : Int) := G.odt; omega)] at h_; exact (Kd.C_below h_ HB.out)) | exact (Kd.C_below HR877.out HB.out) | (rw [← show (l0.take (x5_1 : Int).toNat).length = x5_1.toNat from (by rw [List.length_take]; have h_ : (x5_1 : Int) ≤ (l0.length : Int) := G.odt; omega)]; repeat (first | exact (Kd.C_below HR870.out HB.out) | (with_reducible refine Kd.C_alloc ?_ _) | (with_reducible refine Kd.C_drewN ?_ _) | (with_reducible refine Kd.C_drew ?_))) | (repeat (first | exact (Kd.C_below HR870.out HB.out) | (with_reducible refine Kd.C_alloc ?_ _) | (with_reducible refine Kd.C_drewN ?_ _) | (with_reducible refine Kd.C_drew ?_))))
              (case aB => exact G.bel)
              (case aF => exact (fun k_ hk => Kd.fresh' (Kd.R_lt (G.kR HO876.out)) k_ hk))
              (case aO => exact (by (with_reducible repeat (first | apply Kd.R_alloc | apply Kd.R_drewN | apply Kd.R_drew)); exact Kd.R_mono HO869.out (fun _ hk => hk.2)))
              (case aS => exact (below_size G.bel))
              (case aL => have := LMc12.out; have hlx_ := (show (l0.take (x5_1 : Int).toNat).length = x5_1.toNat from (by rw [List.length_take]; have h_ : (x5_1 : Int) ≤ (l0.length : Int) := G.odt; omega)); omega)
              intro v872 w24 ho hb hg hat
              rw [← Ny871.out] at ho
              have n0_ := Aside0.mk (Kd.R_after (ok := (fun _ => True)) (G.kR HO876.out) hg hat)
              have n1_ := Aside0.mk (hb)
              have n2_ := Aside0.mk (ho)
              clear HO876
              clear HB
              clear HO869
              have HO876 := n0_
              have HB := n1_
              have HO873 := n2_
              clear n0_ n1_ n2_
              clear ho hb hg hat
              refine hK.out _ _ trivial (fun hHeld => ?_)
              clear hK K
              refine norm_ (a' := ?_) ?_ ?_
              rotate_left
              ·show Act.put _ (some 24) _ = _
               simp only [Act.put, List.setIfInBounds_toArray, List.set_cons_zero, List.set_cons_succ, i64_w, i32_w]
               rfl
              exact norm_ (by simp only [putAll, Act.put, List.setIfInBounds_toArray, List.set_cons_zero, List.set_cons_succ]) (hCont (v868, v872, v875) _ ⟨(G.kR HO873.out), (by (with_reducible repeat (first | apply Kd.R_alloc | apply Kd.R_drewN | apply Kd.R_drew)); exact Kd.R_mono HO876.out (fun _ hk => hk.2)), G.bel⟩)
            ·skip
             refine Kd.R_lit_step (Kd.int .i64) _ 3 ?hg (N := 25) ?hd (xs := ([] : List Int)) (inner := []) (ok := fun _ => True) (okp := fun _ => True) ?hr ?hp (fun _ hk => hk) trivial (Below.refl _ _) (Nat.le_refl _) (by simp) ?_; (case hd => rfl); (case hg => rfl); (case hr => first | (go_simp; done) | (go_simp; rfl)); (case hp => exact (Reps.none _ _))
             intro v875 w20 ho21 hb hg_ hnew_
             clear hg_ hnew_
             (first | rw [← Ny874.out] at ho21 | (simp only [Int.reduceToNat] at ho21; rw [← Ny874.out] at ho21))
             have n0_ := Aside0.mk (Kd.R_lower ho21 (below_size G.bel))
             have n1_ := Aside0.mk (below_step G.bel hb)
             clear HB
             have HO876 := n0_
             have HB := n1_
             clear n0_ n1_
             clear hb ho21
             refine hK.out _ _ trivial (fun hHeld => ?_)
             clear hK K
             refine norm_ (a' := ?_) ?_ ?_
             rotate_left
             ·show Act.put _ (some 25) _ = _
              simp only [Act.put, List.setIfInBounds_toArray, List.set_cons_zero, List.set_cons_succ, i64_w, i32_w]
              rfl
             refine one_ (i := 0) (N := some 20) #[true, true, true, true, false, true, true, true, true, false, false, false, false] rfl rfl (one_of HT_.out (by kernel_rfl)) (by decide) (fun K hK => ?_)
             refine Kd.R_lit_step (Kd.int .i64) _ 3 ?hg (N := 20) ?hd (xs := ([] : List Int)) (inner := []) (ok := fun _ => True) (okp := fun _ => True) ?hr ?hp (fun _ hk => hk) trivial (Below.refl _ _) (Nat.le_refl _) (by simp) ?_; (case hd => rfl); (case hg => rfl); (case hr => first | (go_simp; done) | (go_simp; rfl)); (case hp => exact (Reps.none _ _))
             intro v868 w22 ho23 hb hg_ hnew_
             clear hg_ hnew_
             (first | rw [← Ny867.out] at ho23 | (simp only [Int.reduceToNat] at ho23; rw [← Ny867.out] at ho23))
             have n0_ := Aside0.mk (Kd.R_elder' (G.kR HO876.out) (Kd.R_base ho23) hb)
             have n1_ := Aside0.mk (Kd.R_lower (Kd.R_new' ho23 (Kd.R_lt (G.kR HO876.out))) (below_size G.bel))
             have n2_ := Aside0.mk (below_step G.bel hb)
             clear HO876
             clear HB
             have HO876 := n0_
             have HO869 := n1_
             have HB := n2_
             clear n0_ n1_ n2_
             clear hb ho23
             refine hK.out _ _ trivial (fun hHeld => ?_)
             clear hK K
             refine norm_ (a' := ?_) ?_ ?_
             rotate_left
             ·show Act.put _ (some 20) _ = _
              simp only [Act.put, List.setIfInBounds_toArray, List.set_cons_zero, List.set_cons_succ, i64_w, i32_w]
              rfl
             refine one_ (i := 4) (N := some 24) #[true, true, true, true, true, true, true, true, true, false, false, false, false] rfl rfl (one_of HT_.out (by kernel_rfl)) (by decide) (fun K hK => ?_)
             refine Kd.R_append_rows_step (Kd.int .i64) (w0 := w) w.heap.size (by rfl) (.tmp 20) (.tmp 23) 22 3 (.int .i64 0) 8 rfl Try.underlying22 info3 rfl (by decide) (by omega) v868 y867 (l0.take (x5_1 : Int).toNat) _ _ _ (fun k_ => some k_ ≠ (v875 : Value).ownBlock) (fun _ => False) rfl rfl ?aO ?aR (fun _ _ h => h) (fun _ h => h.elim) ?aF ?aB ?aS ?aL ?_
             (case aR => first | (have h_ := HR870.out; simp only [Int.toNat_natCast, List.take_length] at h_ ⊢; exact (Kd.C_below h_ HB.out)) | (have h_ := HR870.out; rw [show (l0.take (x5_1 : Int).toNat).length = x5_1.toNat from (by rw [List.length_take]; have h_ : (x5_1 : Int) ≤ (l0.length : Int) := G.odt; omega)] at h_; exact (Kd.C_below h_ HB.out)) | exact (Kd.C_below HR870.out HB.out) | (have h_ := HR865.out; simp only [Int.toNat_natCast, List.take_length] at h_ ⊢; exact (Kd.C_below h_ HB.out)) | (have h_ := HR865.out; rw [show (l0.take (x5_1 : Int).toNat).length = x5_1.toNat from (by rw [List.length_take]; have h_ : (x5_1 : Int) ≤ (l0.length : Int) := G.odt; omega)] at h_; exact (Kd.C_below h_ HB.out)) | exact (Kd.C_below HR865.out HB.out) | (have h_ := HR877.out; simp only [Int.toNat_natCast, List.take_length] at h_ ⊢; exact (Kd.C_below h_ HB.out)) | (have h_ := HR877.out; rw [show (l0.take (x5_1 : Int).toNat).length = x5_1.toNat from (by rw [List.length_take]; have h_ : (x5_1 : Int) ≤ (l0.length : Int) := G.odt; omega)] at h_; exact (Kd.C_below h_ HB.out)) | exact (Kd.C_below HR877.out HB.out) | (rw [← show (l0.take (x5_1 : Int).toNat).length = x5_1.toNat from (by rw [List.length_take]; have h_ : (x5_1 : Int) ≤ (l0.length : Int) := G.odt; omega)]; repeat (first | exact (Kd.C_below HR870.out HB.out) | (with_reducible refine Kd.C_alloc ?_ _) | (with_reducible refine Kd.C_drewN ?_ _) | (with_reducible refine Kd.C_drew ?_))) | (repeat (first | exact (Kd.C_below HR870.out HB.out) | (with_reducible refine Kd.C_alloc ?_ _) | (with_reducible refine Kd.C_drewN ?_ _) | (with_reducible refine Kd.C_drew ?_))))
             (case aB => exact G.bel)
             (case aF => exact (fun k_ hk => Kd.fresh' (Kd.R_lt (G.kR HO876.out)) k_ hk))
             (case aO => exact (by (with_reducible repeat (first | apply Kd.R_alloc | apply Kd.R_drewN | apply Kd.R_drew)); exact Kd.R_mono HO869.out (fun _ hk => hk.2)))
             (case aS => exact (below_size G.bel))
             (case aL => have := LMc12.out; have hlx_ := (show (l0.take (x5_1 : Int).toNat).length = x5_1.toNat from (by rw [List.length_take]; have h_ : (x5_1 : Int) ≤ (l0.length : Int) := G.odt; omega)); omega)
             intro v872 w24 ho hb hg hat
             rw [← Ny871.out] at ho
             have n0_ := Aside0.mk (Kd.R_after (ok := (fun _ => True)) (G.kR HO876.out) hg hat)
             have n1_ := Aside0.mk (hb)
             have n2_ := Aside0.mk (ho)
             clear HO876
             clear HB
             clear HO869
             have HO876 := n0_
             have HB := n1_
             have HO873 := n2_
             clear n0_ n1_ n2_
             clear ho hb hg hat
             refine hK.out _ _ trivial (fun hHeld => ?_)
             clear hK K
             refine norm_ (a' := ?_) ?_ ?_
             rotate_left
             ·show Act.put _ (some 24) _ = _
              simp only [Act.put, List.setIfInBounds_toArray, List.set_cons_zero, List.set_cons_succ, i64_w, i32_w]
              rfl
             exact norm_ (by simp only [putAll, Act.put, List.setIfInBounds_toArray, List.set_cons_zero, List.set_cons_succ]) (hCont (v868, v872, v875) _ ⟨(G.kR HO873.out), (by (with_reducible repeat (first | apply Kd.R_alloc | apply Kd.R_drewN | apply Kd.R_drew)); exact Kd.R_mono HO876.out (fun _ hk => hk.2)), G.bel⟩)
           rintro ⟨v868, v872, v875⟩ w25 ⟨h0_, h1_, h2_⟩
           have n0_ : Aside0 (Kd.R (Kd.int .i64) 3 w25 w.heap.size (fun k_ => some k_ ≠ (v875 : Value).ownBlock) v872 y871) := ⟨h0_⟩
           have n1_ : Aside0 (Kd.R (Kd.int .i64) 3 w25 w.heap.size (fun k_ => some k_ ≠ (v872 : Value).ownBlock) v875 y874) := ⟨h1_⟩
           have n2_ : Aside0 (Below w.heap.size w w25) := ⟨h2_⟩
           clear HB
           clear h0_ h1_ h2_
           have HO873 := n0_
           have HO876 := n1_
           have HB := n2_
           clear n0_ n1_ n2_
           have hHeld := trivial
           refine norm_ (a' := ?_) ?_ ?_
           rotate_left
           ·simp only [putAll, Act.put, List.setIfInBounds_toArray, List.set_cons_zero, List.set_cons_succ]
            rfl
           refine one_ (i := 9) (N := some 29) #[true, true, true, true, true, true, true, true, true, true, false, false, false] rfl rfl (one_of HT_.out (by kernel_rfl)) (by decide) (fun K hK => ?_)
           refine Kd.R_append_rows_step (Kd.int .i64) (w0 := w) w.heap.size (by rfl) (.tmp 25) (.tmp 28) 22 3 (.int .i64 0) 8 rfl Try.underlying22 info3 rfl (by decide) (by omega) v875 y874 (l0.drop (x5_1 : Int).toNat) _ _ _ (fun k_ => some k_ ≠ (v872 : Value).ownBlock) (fun _ => False) rfl rfl ?aO ?aR (fun _ _ h => h) (fun _ h => h.elim) ?aF ?aB ?aS ?aL ?_
           (case aR => first | (have h_ := HR877.out; simp only [Int.toNat_natCast, List.take_length] at h_ ⊢; exact (Kd.C_below h_ HB.out)) | (have h_ := HR877.out; rw [show (l0.drop (x5_1 : Int).toNat).length = (l0.length - x5_1.toNat) from List.length_drop] at h_; exact (Kd.C_below h_ HB.out)) | exact (Kd.C_below HR877.out HB.out) | (have h_ := HR865.out; simp only [Int.toNat_natCast, List.take_length] at h_ ⊢; exact (Kd.C_below h_ HB.out)) | (have h_ := HR865.out; rw [show (l0.drop (x5_1 : Int).toNat).length = (l0.length - x5_1.toNat) from List.length_drop] at h_; exact (Kd.C_below h_ HB.out)) | exact (Kd.C_below HR865.out HB.out) | (have h_ := HR870.out; simp only [Int.toNat_natCast, List.take_length] at h_ ⊢; exact (Kd.C_below h_ HB.out)) | (have h_ := HR870.out; rw [show (l0.drop (x5_1 : Int).toNat).length = (l0.length - x5_1.toNat) from List.length_drop] at h_; exact (Kd.C_below h_ HB.out)) | exact (Kd.C_below HR870.out HB.out) | (rw [← show (l0.drop (x5_1 : Int).toNat).length = (l0.length - x5_1.toNat) from List.length_drop]; repeat (first | exact (Kd.C_below HR877.out HB.out) | (with_reducible refine Kd.C_alloc ?_ _) | (with_reducible refine Kd.C_drewN ?_ _) | (with_reducible refine Kd.C_drew ?_))) | (repeat (first | exact (Kd.C_below HR877.out HB.out) | (with_reducible refine Kd.C_alloc ?_ _) | (with_reducible refine Kd.C_drewN ?_ _) | (with_reducible refine Kd.C_drew ?_))))
           (case aB => exact G.bel)
           (case aF => exact (fun k_ hk => Kd.fresh' (Kd.R_lt (G.kR HO873.out)) k_ hk))
           (case aO => exact (G.kR HO876.out))
           (case aS => exact (below_size G.bel))
           (case aL => have := LMc15.out; have hlx_ := (show (l0.drop (x5_1 : Int).toNat).length = (l0.length - x5_1.toNat) from List.length_drop); omega)
           intro v879 w26 ho hb hg hat
           rw [← Ny878.out] at ho
           have n0_ := Aside0.mk (Kd.R_after (ok := (fun _ => True)) (by (with_reducible repeat (first | apply Kd.R_alloc | apply Kd.R_drewN | apply Kd.R_drew)); exact Kd.R_mono HO873.out (fun _ hk => ⟨trivial, hk⟩)) hg hat)
           have n1_ := Aside0.mk (hb)
           have n2_ := Aside0.mk (ho)
           clear HO873
           clear HB
           clear HO876
           have HO873 := n0_
           have HB := n1_
           have HO880 := n2_
           clear n0_ n1_ n2_
           clear ho hb hg hat
           refine hK.out _ _ trivial (fun hHeld => ?_)
           clear hK K
           refine norm_ (a' := ?_) ?_ ?_
           rotate_left
           ·show Act.put _ (some 29) _ = _
            simp only [Act.put, List.setIfInBounds_toArray, List.set_cons_zero, List.set_cons_succ, i64_w, i32_w]
            rfl
           refine pure_ (i := 10) (N := some 2) (v := ?_) (a' := ?_) #[true, true, true, true, true, true, true, true, true, true, true, false, false] rfl rfl (any_of HT_.out (by kernel_rfl)) (fun _ _ _ h => h) (Or.inl ⟨by rfl, ?_⟩) ?_ ?_
           rotate_left; (·intro w'; go_simp; with_reducible rfl); rotate_left; (·simp only [Act.put, List.setIfInBounds_toArray, List.set_cons_zero, List.set_cons_succ, i64_w, i32_w]; rfl)
           refine pure_ (i := 11) (N := some 3) (v := ?_) (a' := ?_) #[true, true, true, true, true, true, true, true, true, true, true, true, false] rfl rfl (any_of HT_.out (by kernel_rfl)) (fun _ _ _ h => h) (Or.inl ⟨by rfl, ?_⟩) ?_ ?_
           rotate_left; (·intro w'; go_simp; with_reducible rfl); rotate_left; (·simp only [Act.put, List.setIfInBounds_toArray, List.set_cons_zero, List.set_cons_succ, i64_w, i32_w]; rfl)
           refine pure_ (i := 12) (N := some 4) (v := ?_) (a' := ?_) #[true, true, true, true, true, true, true, true, true, true, true, true, true] rfl rfl (any_of HT_.out (by kernel_rfl)) (fun _ _ _ h => h) (Or.inl ⟨by rfl, ?_⟩) ?_ ?_
           rotate_left; (·intro w'; go_simp; with_reducible rfl); rotate_left; (·simp only [Act.put, List.setIfInBounds_toArray, List.set_cons_zero, List.set_cons_succ, i64_w, i32_w]; rfl)
           refine done_ (done_of HT_.out (by kernel_rfl)) ?_
           try go_wp2
           go_ret3
           exact ⟨_, _, G.er, by (with_reducible repeat (first | apply Kd.R_alloc | apply Kd.R_drewN | apply Kd.R_drew)); exact Kd.R_mono HO873.out (fun _ hk => hk.2), G.kR HO880.out, G.bel⟩
          ·rw [if_neg c15] at H
           exact absurd H (by simp)
         ·rw [if_neg c12] at H
          exact absurd H (by simp)
        ·replace c9 := Bool.eq_false_iff.mpr c9
         subst c9
         rw [if_neg (show ¬ (false = true) by decide)] at H
         have H' := Aside0.mk H
         clear H
         obtain ⟨i027, hi027, _, hsz27, _⟩ := info_parts info3
         obtain ⟨A27, hcut27, hA27, hC27⟩ := print_drop_of (P := Try.prog) (Value.int .i64) 0 22 3 .i64 Try.underlying22 hi027 hsz27 A0 c0 l0 x5_1 G.odt G.odt HC0.out
         have HR865 := Aside0.mk (Kd.C_of_reads (h1 := fun _ => rfl) (hA27 _ (Kd.reads_of_C HR0.out)))
         have HC865 := Aside0.mk hC27
         clear hA27 hC27 hi027 hsz27
         go_wp2_with (first | ((with_reducible refine gate_callee (f := 85) rfl ?_); refine goesL_ (some 19) rfl rfl Try.func85 (by kernel_rfl) rfl #[.slice A27 (l0.drop (x5_1 : Int).toNat).length (c0 - x5_1.toNat)] rfl (by (try simp only [List.map_toArray, List.map_cons, List.map_nil]); first | done | (rw [show (l0.drop (x5_1 : Int).toNat).length = (l0.length - x5_1.toNat) from List.length_drop] <;> rfl) | rfl | (simp only [List.length_drop, List.length_take]; rfl)) ?_; (with_reducible refine (spec_IsLyndon.calls kj1 _ _ (l0.drop (x5_1 : Int).toNat) false _ ?side1 ?side2 A8.out).mono ?_); (case side1 => exact G.kC (Kd.C_below HR865.out HB.out)); (case side2 => exact HC865.out); rintro e w' ⟨rfl, ⟨nd, rfl⟩⟩; refine ⟨_, rfl, ?_⟩))
         go_roundg kj1
         case measure => have := HK1.out; have := HJ1.out; omega
         case rel => exact ⟨(wrap64 (x5_1 + 1)), G.tr, H', ⟨by have := HK1.out; have := HJ1.out; omega⟩, ⟨G.bel⟩⟩
       ·rw [if_neg c7] at H
        exact absurd H (by simp)
      ·rw [if_neg c6] at H
       exact absurd H (by simp)
     ·replace c5 := Bool.eq_false_iff.mpr c5
      subst c5
      rw [if_neg (show ¬ (false = true) by decide)] at H
      obtain ⟨y881, hy881⟩ : ∃ y_ : List Int, y_ = (([] : List Int)) := ⟨_, rfl⟩
      replace H : (some (y881, (([] : List Int)), false)) = some (r1, r2, r3) := by first | (rw [hy881]; with_reducible exact H) | (have H2_ := (Option.bind_some _ _).symm.trans H; rw [hy881]; with_reducible exact H2_) | (have H2_ := (Option.bind_some _ _).symm.trans H; with_reducible exact H2_) | with_reducible exact H | (rw [hy881]; exact H) | exact H
      have Ny881 := Aside0.mk hy881
      clear hy881
      obtain ⟨y884, hy884⟩ : ∃ y_ : List Int, y_ = (([] : List Int)) := ⟨_, rfl⟩
      replace H : (some (y881, y884, false)) = some (r1, r2, r3) := by first | (rw [hy884]; with_reducible exact H) | (have H2_ := (Option.bind_some _ _).symm.trans H; rw [hy884]; with_reducible exact H2_) | (have H2_ := (Option.bind_some _ _).symm.trans H; with_reducible exact H2_) | with_reducible exact H | (rw [hy884]; exact H) | exact H
      have Ny884 := Aside0.mk hy884
      clear hy884
      simp only [Option.some.injEq, Prod.mk.injEq] at H
      obtain ⟨rfl, rfl, rfl⟩ := H
      go_wp2_with (first | ((with_reducible refine gate_dst (N := 30) rfl ?_); refine Kd.R_lit (Kd.int .i64) _ 3 ?hg (N := 30) ?hd (xs := ([] : List Int)) (inner := []) (ok := fun _ => True) (okp := fun _ => True) ?hr ?hp (fun _ hk => hk) trivial (Below.refl _ _) (Nat.le_refl _) (by simp) ?_; (case hd => rfl); (case hg => rfl); (case hr => first | (go_simp; done) | (go_simp; rfl)); (case hp => exact (Reps.none _ _)); intro v882 w28 ho29 hb hg_ hnew_; clear hg_ hnew_; (first | rw [← Ny881.out] at ho29 | (simp only [Int.reduceToNat] at ho29; rw [← Ny881.out] at ho29)); have n0_ := Aside0.mk (Kd.R_lower ho29 (below_size G.bel)); have n1_ := Aside0.mk (below_step G.bel hb); clear HB; have HO883 := n0_; have HB := n1_; clear n0_ n1_; clear hb ho29) | ((with_reducible refine gate_dst (N := 31) rfl ?_); refine Kd.R_lit (Kd.int .i64) _ 3 ?hg (N := 31) ?hd (xs := ([] : List Int)) (inner := []) (ok := fun _ => True) (okp := fun _ => True) ?hr ?hp (fun _ hk => hk) trivial (Below.refl _ _) (Nat.le_refl _) (by simp) ?_; (case hd => rfl); (case hg => rfl); (case hr => first | (go_simp; done) | (go_simp; rfl)); (case hp => exact (Reps.none _ _)); intro v885 w30 ho31 hb hg_ hnew_; clear hg_ hnew_; (first | rw [← Ny884.out] at ho31 | (simp only [Int.reduceToNat] at ho31; rw [← Ny884.out] at ho31)); have n0_ := Aside0.mk (Kd.R_elder' (G.kR HO883.out) (Kd.R_base ho31) hb); have n1_ := Aside0.mk (Kd.R_lower (Kd.R_new' ho31 (Kd.R_lt (G.kR HO883.out))) (below_size G.bel)); have n2_ := Aside0.mk (below_step G.bel hb); clear HO883; clear HB; have HO883 := n0_; have HO886 := n1_; have HB := n2_; clear n0_ n1_ n2_; clear hb ho31))
      go_ret3
      exact ⟨_, _, G.er, by (with_reducible repeat (first | apply Kd.R_alloc | apply Kd.R_drewN | apply Kd.R_drew)); exact Kd.R_mono HO883.out (fun _ hk => hk.2), by (with_reducible repeat (first | apply Kd.R_alloc | apply Kd.R_drewN | apply Kd.R_drew)); exact Kd.R_mono HO886.out (fun _ hk => hk.2), G.bel⟩

end Go.Proofs.Ytolikggioekalab.PFnLyndon
