/- The Go functions that the law FnRuns reaches (part 11): each as a Lean function, and that its code comes to these answers. No condition beyond those written. -/
import Derived.Test.YtolikggioekalabGreatVGKeys
import Derived.Test.YtolikggioekalabGreatVGPile
import Derived.Test.YtolikggioekalabGreatVMFnRunsx10
namespace Go.Proofs.YtolikggioekalabGreat.PFnRuns
open Go.RowKit Go.Proofs.YtolikggioekalabGreatW.PrintWords Go.Proofs.YtolikggioekalabGreatW.PrintLast Go.Proofs.YtolikggioekalabGreatW.PrintMore
attribute [local go_sem] max2_int min2_int max_two min_two max_three min_three max_four min_four
set_option maxHeartbeats 8000000
set_option maxRecDepth 100000
set_option linter.unusedVariables false
set_option linter.unusedSimpArgs false
theorem run_cmp1 (a b : Int) (W : World) : Calls Tryz.prog 29 #[.int .i64 a, .int .i64 b] W fun e w' => e = .returned (.int .i64 (if a < b then -1 else if b < a then 1 else 0)) ∧ Drawn0 W w' :=
 cmp_Compare_int.calls a b _ W (by
  unfold cmp_Compare_int.f cmp_isNaN_int.f
  simp only [Option.bind_some, bne_self_eq_false, Bool.false_eq_true, if_false]
  split
  ·rfl
  ·split <;> rfl)
def runKey (x : S32) : List Int := [x.f0, x.f1]
def runEnc (x : S32) : List Value := [.int .i64 x.f0, .int .i64 x.f1, .int .i64 x.f2]
def runCmp (x y : S32) : Int := if (if x.f0 < y.f0 then (-1 : Int) else if y.f0 < x.f0 then 1 else 0) ≠ 0 then (if x.f0 < y.f0 then -1 else if y.f0 < x.f0 then 1 else 0) else if x.f1 < y.f1 then -1 else if y.f1 < x.f1 then 1 else 0
theorem runCmp_eq (x y : S32) : runCmp x y = G.cmpW (runKey x) (runKey y) := by
 unfold runCmp runKey
 rw [G.cmpW_cons, G.cmpW_cons]
 have e : G.cmpW [] [] = 0 := rfl
 rw [e]
 by_cases h1 : x.f0 < y.f0
 ·simp [h1]
 ·by_cases h2 : y.f0 < x.f0
  ·simp [h1, h2]
  ·simp [h1, h2]
theorem runCmp_swo : Go.Sort.SWO (ltOf runCmp) where
 irrefl x := by unfold ltOf; rw [runCmp_eq, G.cmpW_refl]; rfl
 trans x y z h1 h2 := by
  unfold ltOf at *
  simp only [decide_eq_true_eq, runCmp_eq] at *
  exact G.cmpW_trans _ _ _ h1 h2
 ntrans x y z h1 h2 := by
  unfold ltOf at *
  simp only [decide_eq_false_iff_not, runCmp_eq] at *
  intro h3
  have a := G.cmpW_anti (runKey x) (runKey y)
  have b := G.cmpW_anti (runKey y) (runKey z)
  by_cases e : G.cmpW (runKey y) (runKey z) = 0
  ·rw [(G.cmpW_zero _ _).1 e] at h1
   exact h1 h3
  ·exact h1 (G.cmpW_trans _ _ _ h3 (by omega))
theorem run_or (a b : Int) (W : World) (g : Nat) (hb : W.heap[g]? = some (.cells #[.int .i64 a, .int .i64 b] 3 (0, 0))) :
  Calls Tryz.prog 28 #[.slice (some ⟨g, 0, none⟩) 2 2] W fun e w' => e = .returned (.int .i64 (if a ≠ 0 then a else b)) ∧ ∃ q, w' = W.drewN q := by
 have h0 : W.cell? ⟨g, 0, none⟩ = some (.int .i64 a) := (blk_cell hb 0).trans rfl
 have h1 : W.cell? ⟨g, 1, none⟩ = some (.int .i64 b) := (blk_cell hb 1).trans rfl
 clear hb
 by_cases ha : a = 0
 ·subst ha
  by_cases hb0 : b = 0
  ·subst hb0
   go_enter Tryz.func28, Tryz.ntmps28
   go_wp2
   go_loopg [8] 3 (fun gk s8 wr => ∃ i : Nat, s8 = .int .i64 i ∧ i ≤ 2 ∧ 2 - i ≤ gk ∧ wr = W)
   case atStart => exact ⟨0, rfl, by omega, by omega, rfl⟩
   case round =>
    obtain ⟨i, rfl, h2, h3, rfl⟩ := hrel
    obtain rfl | rfl | rfl : i = 0 ∨ i = 1 ∨ i = 2 := by omega
    ·go_wp2
     go_roundg (1)
     case measure => omega
     case rel => exact ⟨1, by go_num, by omega, by omega, rfl⟩
    ·go_wp2
     go_roundg (0)
     case measure => omega
     case rel => exact ⟨2, by go_num, by omega, by omega, rfl⟩
    ·go_wp2
     go_ret
     exact ⟨rfl, 0, rfl⟩
  ·have hb1 : (b != 0) = true := bne_iff_ne.mpr hb0
   have hb2 : (b == 0) = false := beq_eq_false_iff_ne.mpr hb0
   rw [if_neg (show ¬ ((0 : Int) ≠ 0) by simp)]
   clear hb0
   go_enter Tryz.func28, Tryz.ntmps28
   go_wp2
   go_loopg [8] 3 (fun gk s8 wr => ∃ i : Nat, s8 = .int .i64 i ∧ i ≤ 1 ∧ 2 - i ≤ gk ∧ wr = W)
   case atStart => exact ⟨0, rfl, by omega, by omega, rfl⟩
   case round =>
    obtain ⟨i, rfl, h2, h3, rfl⟩ := hrel
    obtain rfl | rfl : i = 0 ∨ i = 1 := by omega
    ·go_wp2
     go_roundg (1)
     case measure => omega
     case rel => exact ⟨1, by go_num, by omega, by omega, rfl⟩
    ·go_wp2
     go_ret
     exact ⟨rfl, 0, rfl⟩
 ·have hb1 : (a != 0) = true := bne_iff_ne.mpr ha
  have hb2 : (a == 0) = false := beq_eq_false_iff_ne.mpr ha
  rw [if_pos ha]
  clear ha
  go_enter Tryz.func28, Tryz.ntmps28
  go_wp2
  go_loopg [8] 3 (fun gk s8 wr => s8 = .int .i64 0 ∧ wr = W)
  case atStart => exact ⟨rfl, rfl⟩
  case round =>
   obtain ⟨rfl, rfl⟩ := hrel
   go_wp2
   go_ret
   exact ⟨rfl, 0, rfl⟩
theorem run_or2 (a b r : Int) (W : World) (g : Nat) (h : (if a ≠ 0 then a else b) = r) (hb : W.heap[g]? = some (.cells #[.int .i64 a, .int .i64 b] 3 (0, 0))) :
  Calls Tryz.prog 28 #[.slice (some ⟨g, 0, none⟩) 2 2] W fun e w' => e = .returned (.int .i64 r) ∧ ∃ q, w' = W.drewN q := by
 subst h
 exact run_or a b W g hb
theorem run_cmp2 (a b r : Int) (W : World) (h : (if a < b then (-1 : Int) else if b < a then 1 else 0) = r) : Calls Tryz.prog 29 #[.int .i64 a, .int .i64 b] W fun e w' => e = .returned (.int .i64 r) ∧ Drawn0 W w' := by
 subst h
 exact run_cmp1 a b W
theorem runC.drew {w W : World} (h : ∃ q os, W = Go.Sort.grow (w.drewN q) os) : ∃ q os, W.drew = Go.Sort.grow (w.drewN q) os := by
 obtain ⟨q, os, rfl⟩ := h
 exact ⟨q + 1, os, rfl⟩
def runC.T1 : Bool × List (List Nat × List Nat) := (true, [([], []), ([0], [0]), ([], []), ([2], [2]), ([1, 3], [1, 3]), ([], []), ([5], [5]), ([], []), ([7], [7]), ([6, 8, 4], [6, 8]), ([4, 9], [4, 9]), ([10, 9], [10]), ([11, 11, 0, 1, 2, 3, 4, 5, 6, 7, 8, 9, 10, 11], [11])])
def runC.B1 : List Nat := [0, 1, 0, 4, 15, 0, 32, 0, 128, 511, 1023, 2047, 4095]
theorem runC.tab1 : rtab .any (opsOf Tryz.f27 1) = runC.T1 := by kernel_rfl
theorem runC.bits1 : waitsOk runC.T1.2 runC.B1 = true := by kernel_rfl
theorem run_closure (x y : S32) (w : World) :
  Calls Tryz.prog 27 #[.agg (runEnc x).toArray, .agg (runEnc y).toArray] w fun e w' => e = .returned (.int .i64 (runCmp x y)) ∧ ∃ q os, w' = Go.Sort.grow (w.drewN q) os := by
 show Calls Tryz.prog 27 #[.agg #[.int .i64 x.f0, .int .i64 x.f1, .int .i64 x.f2], .agg #[.int .i64 y.f0, .int .i64 y.f1, .int .i64 y.f2]] w _
 unfold runCmp
 generalize ht8 : (if x.f0 < y.f0 then (-1 : Int) else if y.f0 < x.f0 then 1 else 0) = t198
 generalize ht9 : (if x.f1 < y.f1 then (-1 : Int) else if y.f1 < x.f1 then 1 else 0) = t199
 have HT8 := G.a ht8
 have HT9 := G.a ht9
 generalize hrr : (if t198 ≠ 0 then t198 else t199) = rr
 have HRR := G.a hrr
 clear ht8 ht9 hrr
 go_enter Tryz.func27, Tryz.ntmps27
 go_wp2_with fail
 have BK196 := G.a (show ((w.alloc (.cells #[.int .i64 x.f0, .int .i64 x.f1, .int .i64 x.f2] 32 (0, 0))).alloc (.cells #[.int .i64 y.f0, .int .i64 y.f1, .int .i64 y.f2] 32 (0, 0))).heap[w.heap.size]? = some (.cells #[.int .i64 x.f0, .int .i64 x.f1, .int .i64 x.f2] 32 (0, 0)) from blk_alloc (show (w.heap.push _)[w.heap.size]? = _ from Array.getElem?_push_size) _)
 have BK197 := G.a (show ((w.alloc (.cells #[.int .i64 x.f0, .int .i64 x.f1, .int .i64 x.f2] 32 (0, 0))).alloc (.cells #[.int .i64 y.f0, .int .i64 y.f1, .int .i64 y.f2] 32 (0, 0))).heap[w.heap.size + 1]? = some (.cells #[.int .i64 y.f0, .int .i64 y.f1, .int .i64 y.f2] 32 (0, 0)) by
  have h := Array.getElem?_push_size (xs := (w.alloc (.cells #[.int .i64 x.f0, .int .i64 x.f1, .int .i64 x.f2] 32 (0, 0))).heap) (x := (Obj.cells #[.int .i64 y.f0, .int .i64 y.f1, .int .i64 y.f2] 32 (0, 0)))
  rw [show (w.alloc (.cells #[.int .i64 x.f0, .int .i64 x.f1, .int .i64 x.f2] 32 (0, 0))).heap.size = w.heap.size + 1 from Array.size_push _] at h
  exact h)
 have HG := G.a (show ∃ q os, ((w.alloc (.cells #[.int .i64 x.f0, .int .i64 x.f1, .int .i64 x.f2] 32 (0, 0))).alloc (.cells #[.int .i64 y.f0, .int .i64 y.f1, .int .i64 y.f2] 32 (0, 0))) = Go.Sort.grow (w.drewN q) os from ⟨0, _, by rw [Go.Sort.alloc_eq_grow, Go.Sort.alloc_eq_grow, Go.Sort.grow_grow]; rfl⟩)
 generalize ((w.alloc (.cells #[.int .i64 x.f0, .int .i64 x.f1, .int .i64 x.f2] 32 (0, 0))).alloc (.cells #[.int .i64 y.f0, .int .i64 y.f1, .int .i64 y.f2] 32 (0, 0))) = w7 at BK196 BK197 HG ⊢
 generalize w.heap.size + 1 = gb197 at BK197 ⊢
 generalize w.heap.size = gb196 at BK196 ⊢
 have n0_ := G.a (blk_drew BK196.out)
 have n1_ := G.a (blk_drew BK197.out)
 have n2_ := G.a (runC.drew HG.out)
 clear BK196 BK197 HG
 have BK196 := n0_
 have BK197 := n1_
 have HG := n2_
 clear n0_ n1_ n2_
 refine start_ (n := 13) (S := fun w' => w'.cell? ⟨gb196, 0, none⟩ = some (.int .i64 x.f0) ∧ w'.cell? ⟨gb196, 1, none⟩ = some (.int .i64 x.f1) ∧ w'.cell? ⟨gb196, 2, none⟩ = some (.int .i64 x.f2) ∧ w'.cell? ⟨gb197, 0, none⟩ = some (.int .i64 y.f0) ∧ w'.cell? ⟨gb197, 1, none⟩ = some (.int .i64 y.f1) ∧ w'.cell? ⟨gb197, 2, none⟩ = some (.int .i64 y.f2)) (ds := []) #[false, false, false, false, false, false, false, false, false, false, false, false, false] (by kernel_rfl) rfl rfl ⟨(blk_cell BK196.out 0).trans rfl, (blk_cell BK196.out 1).trans rfl, (blk_cell BK196.out 2).trans rfl, (blk_cell BK197.out 0).trans rfl, (blk_cell BK197.out 1).trans rfl, (blk_cell BK197.out 2).trans rfl⟩ (fun hHeld => ?_); refine with_tabW runC.tab1 runC.bits1 (fun HT_ HW_ => ?_)
 generalize w7.drew = w8 at BK196 BK197 HG hHeld ⊢
 refine G.pu 0 5 (G.bs 13 1) ?_
 refine G.pu 2 7 (G.bs 13 5) ?_
 refine G.pu 5 10 (G.bs 13 37) ?_
 refine G.pu 7 12 (G.bs 13 165) ?_
 refine G.tk 1 6 (G.bs 13 167) rfl (by rintro w' ⟨s0, s1, s2, s3, s4, s5⟩; go_simp; with_reducible rfl) ?_
 refine G.tk 3 8 (G.bs 13 175) rfl (by rintro w' ⟨s0, s1, s2, s3, s4, s5⟩; go_simp; with_reducible rfl) ?_
 refine G.tk 6 11 (G.bs 13 239) rfl (by rintro w' ⟨s0, s1, s2, s3, s4, s5⟩; go_simp; with_reducible rfl) ?_
 refine G.tk 8 13 (G.bs 13 495) rfl (by rintro w' ⟨s0, s1, s2, s3, s4, s5⟩; go_simp; with_reducible rfl) ?_
 refine one_ (i := 4) (N := some 9) (G.bs 13 511) rfl rfl (one_of HT_.out (by kernel_rfl)) (by decide) (fun K hK => ?_)
 refine goes_ Tryz.func29 (by kernel_rfl) rfl #[.int .i64 x.f0, .int .i64 y.f0] (by rfl) rfl rfl G.ar ?_
 with_reducible refine (run_cmp2 x.f0 y.f0 t198 _ HT8.out).mono ?_
 rintro e w' ⟨rfl, ⟨nd1, rfl⟩⟩
 refine ⟨_, rfl, ?_⟩
 refine hK.out _ _ ⟨(blk_cell BK196.out 0).trans rfl, (blk_cell BK196.out 1).trans rfl, (blk_cell BK196.out 2).trans rfl, (blk_cell BK197.out 0).trans rfl, (blk_cell BK197.out 1).trans rfl, (blk_cell BK197.out 2).trans rfl⟩ (fun hHeld => ?_)
 clear hK K
 refine norm_ (a' := ?_) ?_ ?_
 rotate_left
 ·show Act.put _ (some 9) _ = _
  simp only [Act.put, List.setIfInBounds_toArray, List.set_cons_zero, List.set_cons_succ, i64_w, i32_w]
  rfl
 refine one_ (i := 9) (N := some 14) (G.bs 13 1023) rfl rfl (one_of HT_.out (by kernel_rfl)) (by decide) (fun K hK => ?_)
 refine goes_ Tryz.func29 (by kernel_rfl) rfl #[.int .i64 x.f1, .int .i64 y.f1] (by rfl) rfl rfl G.ar ?_
 with_reducible refine (run_cmp2 x.f1 y.f1 t199 _ HT9.out).mono ?_
 rintro e w' ⟨rfl, ⟨nd2, rfl⟩⟩
 refine ⟨_, rfl, ?_⟩
 refine hK.out _ _ ⟨(blk_cell BK196.out 0).trans rfl, (blk_cell BK196.out 1).trans rfl, (blk_cell BK196.out 2).trans rfl, (blk_cell BK197.out 0).trans rfl, (blk_cell BK197.out 1).trans rfl, (blk_cell BK197.out 2).trans rfl⟩ (fun hHeld => ?_)
 clear hK K
 refine norm_ (a' := ?_) ?_ ?_
 rotate_left
 ·show Act.put _ (some 14) _ = _
  simp only [Act.put, List.setIfInBounds_toArray, List.set_cons_zero, List.set_cons_succ, i64_w, i32_w]
  rfl
 refine one_ (i := 10) (N := some 15) (G.bs 13 2047) rfl rfl (one_of HT_.out (by kernel_rfl)) (by decide) (fun K hK => ?_)
 refine event_step rfl (w1 := ((w8.drewN nd1).drewN nd2).alloc (.cells #[.int .i64 t198, .int .i64 t199] 3 (0, 0))) (v := .slice (some ⟨w8.heap.size, 0, none⟩) 2 2) ?hr ?_
 (case hr => first | (go_simp; done) | (go_simp; rfl))
 have BO := G.a (show (((w8.drewN nd1).drewN nd2).alloc (Obj.cells #[.int .i64 t198, .int .i64 t199] 3 (0, 0))).heap[w8.heap.size]? = some (.cells #[.int .i64 t198, .int .i64 t199] 3 (0, 0)) from (show (w8.heap.push _)[w8.heap.size]? = _ from Array.getElem?_push_size))
 have n0_ := G.a (blk_alloc (show ((w8.drewN nd1).drewN nd2).heap[gb196]? = _ from BK196.out) (Obj.cells #[.int .i64 t198, .int .i64 t199] 3 (0, 0)))
 have n1_ := G.a (blk_alloc (show ((w8.drewN nd1).drewN nd2).heap[gb197]? = _ from BK197.out) (Obj.cells #[.int .i64 t198, .int .i64 t199] 3 (0, 0)))
 have n2_ := G.a (show ∃ q os, (((w8.drewN nd1).drewN nd2).alloc (Obj.cells #[.int .i64 t198, .int .i64 t199] 3 (0, 0))) = Go.Sort.grow (w.drewN q) os by
  obtain ⟨q, os, e⟩ := HG.out
  refine ⟨q + nd1 + nd2, os ++ #[(Obj.cells #[.int .i64 t198, .int .i64 t199] 3 (0, 0))], ?_⟩
  rw [e, Go.Sort.alloc_eq_grow]
  show Go.Sort.grow (Go.Sort.grow (((w.drewN q).drewN nd1).drewN nd2) os) _ = _
  rw [Go.Sort.grow_grow, World.drewN_drewN, World.drewN_drewN, Nat.add_assoc])
 clear BK196 BK197 HG
 have BK196 := n0_
 have BK197 := n1_
 have HG := n2_
 clear n0_ n1_ n2_
 generalize (((w8.drewN nd1).drewN nd2).alloc (Obj.cells #[.int .i64 t198, .int .i64 t199] 3 (0, 0))) = w9 at BO BK196 BK197 HG ⊢
 generalize w8.heap.size = g3 at BO ⊢
 refine hK.out _ _ ⟨(blk_cell BK196.out 0).trans rfl, (blk_cell BK196.out 1).trans rfl, (blk_cell BK196.out 2).trans rfl, (blk_cell BK197.out 0).trans rfl, (blk_cell BK197.out 1).trans rfl, (blk_cell BK197.out 2).trans rfl⟩ (fun hHeld => ?_)
 clear hK K
 refine norm_ (a' := ?_) ?_ ?_
 rotate_left
 ·show Act.put _ (some 15) _ = _
  simp only [Act.put, List.setIfInBounds_toArray, List.set_cons_zero, List.set_cons_succ, i64_w, i32_w]
  rfl
 refine one_ (i := 11) (N := some 16) (G.bs 13 4095) rfl rfl (one_of HT_.out (by kernel_rfl)) (by decide) (fun K hK => ?_)
 refine goes_ Tryz.func28 (by kernel_rfl) rfl #[.slice (some ⟨g3, 0, none⟩) 2 2] (by rfl) rfl rfl (by (try simp only [List.map_toArray, List.map_cons, List.map_nil]); first | done | rfl) ?_
 with_reducible refine (run_or2 t198 t199 rr _ g3 HRR.out BO.out).mono ?_
 rintro e w' ⟨rfl, ⟨nd3, rfl⟩⟩
 refine ⟨_, rfl, ?_⟩
 refine hK.out _ _ ⟨(blk_cell BK196.out 0).trans rfl, (blk_cell BK196.out 1).trans rfl, (blk_cell BK196.out 2).trans rfl, (blk_cell BK197.out 0).trans rfl, (blk_cell BK197.out 1).trans rfl, (blk_cell BK197.out 2).trans rfl⟩ (fun hHeld => ?_)
 clear hK K
 refine norm_ (a' := ?_) ?_ ?_
 rotate_left
 ·show Act.put _ (some 16) _ = _
  simp only [Act.put, List.setIfInBounds_toArray, List.set_cons_zero, List.set_cons_succ, i64_w, i32_w]
  rfl
 refine G.pu 12 4 (G.bs 13 8191) ?_
 refine done_ (done_of HT_.out (by kernel_rfl)) ?_
 try go_wp2
 go_ret
 obtain ⟨q, os, e⟩ := HG.out
 refine ⟨G.er, q + nd3, os, ?_⟩
 rw [e]
 show Go.Sort.grow ((w.drewN q).drewN nd3) os = _
 rw [World.drewN_drewN]
def run_lay_ren : Go.Shelf.Ren := ⟨fun | 6 => 26 | 15 => 42 | 14 => 41 | 28 => 62 | 29 => 63 | 20 => 54 | 21 => 55 | 22 => 56 | 23 => 57 | 24 => 58 | 25 => 59 | 26 => 60 | 27 => 61 | 46 => 76 | 47 => 77 | 48 => 78 | 49 => 79 | 50 => 80 | 57 => 91 | n => n, fun | 22 => 26 | 24 => 32 | 25 => 50 | 3 => 3 | 39 => 61 | 0 => 0 | 53 => 85 | 55 => 87 | 4 => 4 | 46 => 78 | 45 => 77 | 50 => 82 | 5 => 5 | 9 => 9 | 66 => 101 | 70 => 105 | 76 => 113 | 77 => 114 | n => n, fun | n => n⟩
theorem run_lay : Go.Proofs.SlLaysF0.n6 Tryz.prog run_lay_ren :=
 {mixed := by kernel_rfl,
  f6 := ⟨Tryz.f26.name, by decide, Tryz.func26.trans (congrArg some (by kernel_rfl))⟩,
  f14 := ⟨Tryz.f41.name, by decide, Tryz.func41.trans (congrArg some (by kernel_rfl))⟩,
  f15 := Tryz.func42.trans (congrArg some (by kernel_rfl)),
  f20 := ⟨Tryz.f54.name, by decide, Tryz.func54.trans (congrArg some (by kernel_rfl))⟩,
  f21 := ⟨Tryz.f55.name, by decide, Tryz.func55.trans (congrArg some (by kernel_rfl))⟩,
  f22 := ⟨Tryz.f56.name, by decide, Tryz.func56.trans (congrArg some (by kernel_rfl))⟩,
  f23 := ⟨Tryz.f57.name, by decide, Tryz.func57.trans (congrArg some (by kernel_rfl))⟩,
  f24 := ⟨Tryz.f58.name, by decide, Tryz.func58.trans (congrArg some (by kernel_rfl))⟩,
  f25 := ⟨Tryz.f59.name, by decide, Tryz.func59.trans (congrArg some (by kernel_rfl))⟩,
  f26 := ⟨Tryz.f60.name, by decide, Tryz.func60.trans (congrArg some (by kernel_rfl))⟩,
  f27 := ⟨Tryz.f61.name, by decide, Tryz.func61.trans (congrArg some (by kernel_rfl))⟩,
  f28 := Tryz.func62.trans (congrArg some (by kernel_rfl)),
  f29 := Tryz.func63.trans (congrArg some (by kernel_rfl)),
  f46 := ⟨Tryz.f76.name, by decide, Tryz.func76.trans (congrArg some (by kernel_rfl))⟩,
  f47 := Tryz.func77.trans (congrArg some (by kernel_rfl)),
  f48 := Tryz.func78.trans (congrArg some (by kernel_rfl)),
  f49 := ⟨Tryz.f79.name, by decide, Tryz.func79.trans (congrArg some (by kernel_rfl))⟩,
  f50 := ⟨Tryz.f80.name, by decide, Tryz.func80.trans (congrArg some (by kernel_rfl))⟩,
  f57 := ⟨Tryz.f91.name, by decide, Tryz.func91.trans (congrArg some (by kernel_rfl))⟩,
  t0 := Tryz.underlying0,
  a0 := Tryz.isAgg0,
  z0 := Tryz.sizeOf0,
  v0 := Tryz.zeroValue0,
  t3 := Tryz.underlying3,
  a3 := Tryz.isAgg3,
  z3 := Tryz.sizeOf3,
  v3 := Tryz.zeroValue3,
  t4 := Tryz.underlying4,
  a4 := Tryz.isAgg4,
  z4 := Tryz.sizeOf4,
  v4 := Tryz.zeroValue4,
  t5 := Tryz.underlying5,
  a5 := Tryz.isAgg5,
  z5 := Tryz.sizeOf5,
  v5 := Tryz.zeroValue5,
  t9 := Tryz.underlying9,
  a9 := Tryz.isAgg9,
  z9 := Tryz.sizeOf9,
  v9 := Tryz.zeroValue9,
  t22 := Tryz.underlying26,
  a22 := Tryz.isAgg26,
  z22 := Tryz.sizeOf26,
  v22 := Tryz.zeroValue26,
  t25 := Tryz.underlying50,
  a25 := Tryz.isAgg50,
  z25 := Tryz.sizeOf50,
  v25 := Tryz.zeroValue50,
  t39 := Tryz.underlying61,
  a39 := Tryz.isAgg61,
  z39 := Tryz.sizeOf61,
  v39 := Tryz.zeroValue61,
  t45 := Tryz.underlying77,
  a45 := Tryz.isAgg77,
  z45 := Tryz.sizeOf77,
  v45 := Tryz.zeroValue77,
  t46 := Tryz.underlying78,
  a46 := Tryz.isAgg78,
  z46 := Tryz.sizeOf78,
  v46 := Tryz.zeroValue78,
  t50 := Tryz.underlying82,
  a50 := Tryz.isAgg82,
  z50 := Tryz.sizeOf82,
  v50 := Tryz.zeroValue82,
  t53 := Tryz.underlying85,
  a53 := Tryz.isAgg85,
  z53 := Tryz.sizeOf85,
  v53 := Tryz.zeroValue85,
  t55 := Tryz.underlying87,
  a55 := Tryz.isAgg87,
  z55 := Tryz.sizeOf87,
  v55 := Tryz.zeroValue87,
  t66 := Tryz.underlying101,
  a66 := Tryz.isAgg101,
  z66 := Tryz.sizeOf101,
  v66 := Tryz.zeroValue101,
  t70 := Tryz.underlying105,
  a70 := Tryz.isAgg105,
  z70 := Tryz.sizeOf105,
  v70 := Tryz.zeroValue105,
  t76 := Tryz.underlying113,
  a76 := Tryz.isAgg113,
  z76 := Tryz.sizeOf113,
  v76 := Tryz.zeroValue113,
  t77 := Tryz.underlying114,
  a77 := Tryz.isAgg114,
  z77 := Tryz.sizeOf114,
  v77 := Tryz.zeroValue114 }
instance : Inhabited S32 := ⟨z32⟩
theorem run_lays (w : World) (g size : Nat) : CmpLays Tryz.prog 27 #[] runEnc 3 runCmp g 0 size w := fun _ _ _ _ x y => run_closure x y _
def runsO (l : List S32) : Option (List S32) := if l.Pairwise (fun x y => runKey x ≠ runKey y) ∧ l.length < 4611686018427387904 then some (G.sortK runKey l) else none
theorem run_inner {w : World} {base : Nat} {ok : Nat → Prop} : ∀ (l : List S32) (inner : List Value), Reps (k32.M w base ok) 3 l inner → inner = l.flatMap runEnc
 | [], inner, h => List.length_eq_zero_iff.1 (by simpa using h.1)
 | x :: l, inner, h => by
  have h0 := k32_openM (h.2 0 x rfl)
  rw [Nat.zero_mul, List.drop_zero] at h0
  have hl := h.1
  rw [List.length_cons] at hl
  have h1 := run_inner l (inner.drop 3) ⟨by rw [List.length_drop]; omega, fun j p hj => by
   have := h.2 (j + 1) p (by simpa using hj)
   rw [Nat.succ_mul] at this
   rw [List.drop_drop]
   rw [Nat.add_comm] at this
   exact this⟩
  rw [List.flatMap_cons, ← h1]
  show inner = [_, _, _] ++ _
  rw [← h0, List.take_append_drop]
theorem run_reps (w : World) (base : Nat) (ok : Nat → Prop) : ∀ l : List S32, Reps (k32.M w base ok) 3 l (l.flatMap runEnc)
 | [] => Reps.none _ _
 | x :: l => by
  have ih := run_reps w base ok l
  refine ⟨?_, fun j p hj => ?_⟩
  ·rw [List.flatMap_cons, List.length_append, ih.1, List.length_cons]; show 3 + _ = _; omega
  ·cases j with
   | zero =>
    obtain rfl : x = p := by simpa using hj
    exact k32_mkM w base ok x
   | succ j =>
    rw [List.flatMap_cons, Nat.succ_mul, Nat.add_comm]
    show k32.M w base ok p (((([_, _, _] : List Value) ++ l.flatMap runEnc).drop (3 + j * 3)).take 3)
    rw [← List.drop_drop]
    exact ih.2 j p (by simpa using hj)
theorem run_flat (l : List S32) : (Go.Sort.flatK runEnc 3 l.toArray).toList = l.flatMap runEnc := by
 have key : ∀ (m : List S32) (t : Nat), t < m.length * 3 → (m.flatMap runEnc)[t]? = some ((runEnc (m.getD (t / 3) z32))[t % 3]!) := by
  intro m
  induction m with
  | nil => intro t h; simp at h
  | cons x m ih =>
   intro t h
   rw [List.flatMap_cons]
   by_cases c : t < 3
   ·rw [List.getElem?_append_left (by show t < 3; exact c)]
    rw [Nat.div_eq_of_lt c, Nat.mod_eq_of_lt c]
    obtain rfl | rfl | rfl : t = 0 ∨ t = 1 ∨ t = 2 := by omega
    ·rfl
    ·rfl
    ·rfl
   ·rw [List.getElem?_append_right (by show 3 ≤ t; omega)]
    show (m.flatMap runEnc)[t - 3]? = _
    rw [List.length_cons] at h
    rw [ih (t - 3) (by omega)]
    obtain ⟨s, rfl⟩ : ∃ s, t = s + 3 := ⟨t - 3, by omega⟩
    rw [Nat.add_sub_cancel, Nat.add_mod_right, Nat.add_div_right _ (by omega)]
    rfl
 apply List.ext_getElem?
 intro t
 by_cases c : t < l.length * 3
 ·rw [key l t c]
  unfold Go.Sort.flatK
  simp only [List.size_toArray, Array.toList_map, Array.toList_range, List.getElem?_map]
  rw [List.getElem?_range (by simpa using c)]
  simp only [Option.map_some, Option.some.injEq]
  congr 2
  rw [G.getD_eq (by omega)]
  rw [getElem!_pos l.toArray (t / 3) (by simp; omega)]
  simp
 ·have h1 : (l.flatMap runEnc).length = l.length * 3 := (run_reps default 0 (fun _ => True) l).1
  rw [List.getElem?_eq_none (by simp [Go.Sort.flatK]; omega), List.getElem?_eq_none (by omega)]
set_option maxHeartbeats 4000000 in
theorem runs_sorted (v : Value) (l r : List S32) (w0 w : World) (hB : Below w0.heap.size w0 w) (ho : Kd.R k32 32 w w0.heap.size (fun _ => True) v l) (h : runsO l = some r) :
  Calls Tryz.prog 26 #[v, .func (.func 27) #[] #[]] w fun e w' => e = .returned (.tuple #[]) ∧ Kd.R k32 32 w' w0.heap.size (fun _ => True) v r ∧ Below w0.heap.size w0 w' := by
 unfold runsO at h
 by_cases hc : l.Pairwise (fun x y => runKey x ≠ runKey y) ∧ l.length < 4611686018427387904
 ·rw [if_pos hc] at h
  obtain ⟨hk, hsz⟩ := hc
  have hr := (Option.some.inj h).symm
  rcases Nat.eq_zero_or_pos l.length with hz | hpos
  ·obtain rfl : l = [] := List.length_eq_zero_iff.1 hz
   obtain ⟨A, c, rfl⟩ := Kd.R_slice ho
   have hs := AnyF.slices_SortFunc_none run_lay A c (.func (.func 27) #[] #[]) w
   change Calls Tryz.prog 26 #[.slice A 0 c, .func (.func 27) #[] #[]] w _ at hs
   refine hs.mono fun e w' ⟨he, hw⟩ => ?_
   subst hw
   rw [hr]
   exact ⟨he, ho, hB⟩
  ·obtain ⟨g, cap, rfl, hbase, hlt, _⟩ := Kd.R_form ho hpos
   obtain ⟨h0, inner, hown, hreps⟩ := ho
   have hin := run_inner l inner hreps
   have hil : inner.length = l.length * 3 := hreps.1
   rcases hown.2 with ⟨he, _⟩ | ⟨g', cap', cur, he, hb', hh, hn, hm, hs, ht⟩
   ·cases he
   ·injection he with ea _ ec
    injection ea with ea
    injection ea with ea
    subst ea ec
    have hT : G.Turned w w g (cap * 3) 32 inner := ⟨rfl, rfl, rfl, Nat.le_refl _, fun _ _ _ => rfl, cur, hh, hs, by rw [hil]; exact ht⟩
    have hfl : (Go.Sort.flatK runEnc 3 l.toArray).toList = inner := by rw [run_flat, hin]
    have hfs : (Go.Sort.flatK runEnc 3 l.toArray).size = inner.length := by rw [← hfl]; simp
    have hH : Go.Sort.HoldsK runEnc 3 w g 0 l.toArray := by
     intro j hj
     rw [hfs] at hj
     have := hT.cell j (.int .i64 0) hj
     rw [Nat.zero_add]
     refine ⟨this.1.trans ?_, this.2⟩
     congr 1
     rw [G.getD_eq hj, getElem!_pos _ j (by rw [hfs]; exact hj)]
     simp only [← hfl, Array.getElem_toList]
     rfl
    have hso := AnyQ.slices_SortFunc run_lay 3 Tryz.isAgg32 Tryz.sizeOf32 runEnc (fun _ => rfl) (fun x v hv => by
     simp only [runEnc, List.mem_cons, List.not_mem_nil, or_false] at hv
     rcases hv with rfl | rfl | rfl <;> rfl) runCmp runCmp_swo 27 #[] g 0 cap l.toArray w (enters_of Tryz.func27 (by kernel_rfl) rfl) (run_lays w g l.toArray.size) hH hlt (by simpa using hsz)
    change Calls Tryz.prog 26 #[.slice (some ⟨g, 0, none⟩) l.length cap, .func (.func 27) #[] #[]] w _ at hso
    refine hso.mono fun e w' ⟨he, d', n, os, hp, hsrt, hw⟩ => ?_
    have hdl : d'.size = l.length := by simpa using hp.1
    have hperm : d'.toList.Perm l := by
     have h3 := hp.2.2
     have e1 : d'.extract 0 l.toArray.size = d' := by
      rw [Array.extract_eq_self_of_le]
      simp
      omega
     have e2 : l.toArray.extract 0 l.toArray.size = l.toArray := by
      rw [Array.extract_eq_self_of_le]
      simp
     rw [e1, e2] at h3
     exact h3
    have hdr : d'.toList = r := by
     rw [hr]
     refine G.sortK_eq hk hperm ?_
     rw [List.pairwise_iff_getElem]
     intro i j hi hj hij
     have hi' : i < d'.size := by simpa using hi
     have hj' : j < d'.size := by simpa using hj
     have := hsrt i j (Nat.zero_le _) hij (by simp; omega)
     unfold ltOf at this
     rw [decide_eq_false_iff_not, runCmp_eq, getElem!_pos _ j hj', getElem!_pos _ i hi'] at this
     simp only [Array.getElem_toList]
     omega
    have hT2 : G.Turned w w' g (cap * 3) 32 (r.flatMap runEnc) := by
     have h5 := hT.sorted (enc := id) n (Go.Sort.flatK runEnc 3 d') os (by
      have : (Go.Sort.flatK runEnc 3 d').size = d'.size * 3 := by simp [Go.Sort.flatK]
      omega)
     rw [hw]
     have e5 : (Go.Sort.flatK runEnc 3 d').toList.map id = r.flatMap runEnc := by
      rw [List.map_id, ← hdr, ← run_flat d'.toList]
     rw [e5] at h5
     exact h5
    have hrl : r.length = l.length := by rw [← hdr]; simpa using hdl
    refine ⟨he, ⟨fun _ _ => trivial, r.flatMap runEnc, ?_, run_reps _ _ _ r⟩, ?_⟩
    ·refine ⟨(run_reps default 0 (fun _ => True) r).1, .inr ?_⟩
     obtain ⟨cur2, hh2, hs2, ht2⟩ := hT2.row
     rw [(run_reps default 0 (fun _ => True) r).1] at ht2
     exact ⟨g, cap, cur2, by rw [hrl], hb', hh2, by rw [hrl]; exact hn, hm, hs2, ht2⟩
    ·exact hB.trans ⟨hT2.os, hT2.tape, hT2.output, hT2.size, fun k hk2 => hT2.block k (Nat.lt_of_lt_of_le hk2 hB.size) (by omega)⟩
 ·rw [if_neg hc] at h
  cases h
mutual
def impl_RunsOf.l0 : Nat → List Int → List (S32) → Int → Option ((List (S32)))
 | 0, _, _, _ => none
 | k + 1, x0, x3, x4 => if (wrap64 (2 * x4)) ≤ (x0.length : Int) then (impl_RunsOf.l1 k x0 x3 x4 0) else (runsO x3)
def impl_RunsOf.l1 : Nat → List Int → List (S32) → Int → Int → Option ((List (S32)))
 | 0, _, _, _, _ => none
 | k + 1, x0, x3, x4, x5 => if (wrap64 (x5 + x4)) < (x0.length : Int) then (impl_RunsOf.l2 k x0 x3 x4 x5 (wrap64 (x5 + x4))) else (impl_RunsOf.l0 k x0 x3 (wrap64 (x4 + 1)))
def impl_RunsOf.l2 : Nat → List Int → List (S32) → Int → Int → Int → Option ((List (S32)))
 | 0, _, _, _, _, _ => none
 | k + 1, x0, x3, x4, x5, x6 => if x6 < (x0.length : Int) then (if 0 ≤ x6 then (if 0 ≤ (wrap64 (x6 - x4)) then (if (wrap64 (x6 - x4)) < (x0.length : Int) then (if (rd x0 x6) = (rd x0 (wrap64 (x6 - x4))) then (impl_RunsOf.l2 k x0 x3 x4 x5 (wrap64 (x6 + 1))) else (if (wrap64 (x6 - x5)) ≥ (wrap64 (2 * x4)) then (if 0 ≤ x5 then (if x5 ≤ x6 then (if x6 ≤ (x0.length : Int) then ((impl_LeastPeriod.f k ((x0.take (x6 : Int).toNat).drop (x5 : Int).toNat)).bind fun t502 => (if t502 = x4 then (if x3.length < 5864062014805 then (impl_RunsOf.l1 k x0 (x3 ++ [(⟨x5, x6, x4⟩ : S32)]) x4 (wrap64 ((wrap64 (x6 - x4)) + 1))) else (none)) else (impl_RunsOf.l1 k x0 x3 x4 (wrap64 ((wrap64 (x6 - x4)) + 1))))) else (none)) else (none)) else (none)) else (impl_RunsOf.l1 k x0 x3 x4 (wrap64 ((wrap64 (x6 - x4)) + 1))))) else (none)) else (none)) else (none)) else (if (wrap64 (x6 - x5)) ≥ (wrap64 (2 * x4)) then (if 0 ≤ x5 then (if x5 ≤ x6 then (if x6 ≤ (x0.length : Int) then ((impl_LeastPeriod.f k ((x0.take (x6 : Int).toNat).drop (x5 : Int).toNat)).bind fun t507 => (if t507 = x4 then (if x3.length < 5864062014805 then (impl_RunsOf.l1 k x0 (x3 ++ [(⟨x5, x6, x4⟩ : S32)]) x4 (wrap64 ((wrap64 (x6 - x4)) + 1))) else (none)) else (impl_RunsOf.l1 k x0 x3 x4 (wrap64 ((wrap64 (x6 - x4)) + 1))))) else (none)) else (none)) else (none)) else (impl_RunsOf.l1 k x0 x3 x4 (wrap64 ((wrap64 (x6 - x4)) + 1))))
end
def impl_RunsOf.f (k : Nat) (l0 : List Int) : Option ((List (S32))) := (some (([] : List (S32)) : List (S32))).bind fun y496 => (if (l0.length : Int) > 64 then (some y496) else (impl_RunsOf.l0 k l0 y496 1))
theorem impl_RunsOf.calls (k : Nat) (A0 : Option Addr) (c0 : Nat) (l0 : List Int) (r : List (S32)) (w : World) (hr0 : Kd.C (Kd.int .i64) w A0 l0.length l0) (hc0 : l0.length ≤ c0) (h : impl_RunsOf.f k l0 = some r) :
  Calls Tryz.prog 6 #[.slice A0 l0.length c0] w fun e w' => ∃ v0_ : Value, e = .returned (v0_) ∧ Kd.R k32 32 w' w.heap.size (fun _ => True) v0_ r ∧ Below w.heap.size w w' := by
 have hu32 := Tryz.underlying32
 have HR0 := G.a hr0
 have HC0 := G.a hc0
 clear hr0 hc0
 have HB := G.a (Below.refl w.heap.size w)
 have H : ((some (([] : List (S32)) : List (S32))).bind fun y496 => (if (l0.length : Int) > 64 then (some y496) else (impl_RunsOf.l0 k l0 y496 1))) = some r := h
 clear h
 obtain ⟨y496, hy496⟩ : ∃ y_ : List (S32), y_ = (([] : List (S32))) := ⟨_, rfl⟩
 replace H : (if (l0.length : Int) > 64 then (some y496) else (impl_RunsOf.l0 k l0 y496 1)) = some r := by first | (rw [hy496]; with_reducible exact H) | (have H2_ := (Option.bind_some _ _).symm.trans H; rw [hy496]; with_reducible exact H2_) | (have H2_ := (Option.bind_some _ _).symm.trans H; with_reducible exact H2_) | with_reducible exact H | (rw [hy496]; exact H) | exact H
 have Ny496 := G.a hy496
 clear hy496
 by_cases c2 : (l0.length : Int) > 64
 ·rw [if_pos c2] at H
  have c2b0 : decide (64 < (l0.length : Int)) = true := decide_eq_true c2
  have c2b1 : decide (64 < l0.length) = true := decide_eq_true (by omega)
  clear c2
  obtain rfl := Option.some.inj H
  go_enter Tryz.func6, Tryz.ntmps6
  go_wp2_with (first | ((with_reducible refine gate_dst (N := 7) rfl ?_); refine Kd.R_lit k32 _ 32 ?hg (N := 7) ?hd (xs := ([] : List (S32))) (inner := []) (ok := fun _ => True) (okp := fun _ => True) ?hr ?hp (fun _ hk => hk) trivial (Below.refl _ _) (Nat.le_refl _) (by simp) ?_; (case hd => rfl); (case hg => rfl); (case hr => first | (go_simp; done) | (go_simp; rfl)); (case hp => exact (Reps.none _ _)); intro v497 w3 ho4 hb hg_ hnew_; clear hg_ hnew_; (first | rw [← Ny496.out] at ho4 | (simp only [Int.reduceToNat] at ho4; rw [← Ny496.out] at ho4)); have n0_ := G.a (Kd.R_lower ho4 (below_size G.bel)); have n1_ := G.a (below_step G.bel hb); clear HB; have HO498 := n0_; have HB := n1_; clear n0_ n1_; clear hb ho4))
  repeat (go_quiet (first | ((with_reducible refine gate_dst (N := 7) rfl ?_); refine Kd.R_lit k32 _ 32 ?hg (N := 7) ?hd (xs := ([] : List (S32))) (inner := []) (ok := fun _ => True) (okp := fun _ => True) ?hr ?hp (fun _ hk => hk) trivial (Below.refl _ _) (Nat.le_refl _) (by simp) ?_; (case hd => rfl); (case hg => rfl); (case hr => first | (go_simp; done) | (go_simp; rfl)); (case hp => exact (Reps.none _ _)); intro v497 w3 ho4 hb hg_ hnew_; clear hg_ hnew_; (first | rw [← Ny496.out] at ho4 | (simp only [Int.reduceToNat] at ho4; rw [← Ny496.out] at ho4)); have n0_ := G.a (Kd.R_lower ho4 (below_size G.bel)); have n1_ := G.a (below_step G.bel hb); clear HB; have HO498 := n0_; have HB := n1_; clear n0_ n1_; clear hb ho4)); try go_wp2_with (first | ((with_reducible refine gate_dst (N := 7) rfl ?_); refine Kd.R_lit k32 _ 32 ?hg (N := 7) ?hd (xs := ([] : List (S32))) (inner := []) (ok := fun _ => True) (okp := fun _ => True) ?hr ?hp (fun _ hk => hk) trivial (Below.refl _ _) (Nat.le_refl _) (by simp) ?_; (case hd => rfl); (case hg => rfl); (case hr => first | (go_simp; done) | (go_simp; rfl)); (case hp => exact (Reps.none _ _)); intro v497 w3 ho4 hb hg_ hnew_; clear hg_ hnew_; (first | rw [← Ny496.out] at ho4 | (simp only [Int.reduceToNat] at ho4; rw [← Ny496.out] at ho4)); have n0_ := G.a (Kd.R_lower ho4 (below_size G.bel)); have n1_ := G.a (below_step G.bel hb); clear HB; have HO498 := n0_; have HB := n1_; clear n0_ n1_; clear hb ho4)))
  go_ret
  exact ⟨_, G.er, G.kR HO498.out, G.bel⟩
 ·rw [if_neg c2] at H
  have c2b0 : decide (64 < (l0.length : Int)) = false := decide_eq_false c2
  have c2b1 : decide (64 < l0.length) = false := decide_eq_false (by omega)
  clear c2
  have H' := G.a H
  clear H
  go_enter Tryz.func6, Tryz.ntmps6
  go_wp2_with (first | ((with_reducible refine gate_dst (N := 7) rfl ?_); refine Kd.R_lit k32 _ 32 ?hg (N := 7) ?hd (xs := ([] : List (S32))) (inner := []) (ok := fun _ => True) (okp := fun _ => True) ?hr ?hp (fun _ hk => hk) trivial (Below.refl _ _) (Nat.le_refl _) (by simp) ?_; (case hd => rfl); (case hg => rfl); (case hr => first | (go_simp; done) | (go_simp; rfl)); (case hp => exact (Reps.none _ _)); intro v497 w5 ho6 hb hg_ hnew_; clear hg_ hnew_; (first | rw [← Ny496.out] at ho6 | (simp only [Int.reduceToNat] at ho6; rw [← Ny496.out] at ho6)); have n0_ := G.a (Kd.R_lower ho6 (below_size G.bel)); have n1_ := G.a (below_step G.bel hb); clear HB; have HO498 := n0_; have HB := n1_; clear n0_ n1_; clear hb ho6))
  repeat (go_quiet (first | ((with_reducible refine gate_dst (N := 7) rfl ?_); refine Kd.R_lit k32 _ 32 ?hg (N := 7) ?hd (xs := ([] : List (S32))) (inner := []) (ok := fun _ => True) (okp := fun _ => True) ?hr ?hp (fun _ hk => hk) trivial (Below.refl _ _) (Nat.le_refl _) (by simp) ?_; (case hd => rfl); (case hg => rfl); (case hr => first | (go_simp; done) | (go_simp; rfl)); (case hp => exact (Reps.none _ _)); intro v497 w5 ho6 hb hg_ hnew_; clear hg_ hnew_; (first | rw [← Ny496.out] at ho6 | (simp only [Int.reduceToNat] at ho6; rw [← Ny496.out] at ho6)); have n0_ := G.a (Kd.R_lower ho6 (below_size G.bel)); have n1_ := G.a (below_step G.bel hb); clear HB; have HO498 := n0_; have HB := n1_; clear n0_ n1_; clear hb ho6)); try go_wp2_with (first | ((with_reducible refine gate_dst (N := 7) rfl ?_); refine Kd.R_lit k32 _ 32 ?hg (N := 7) ?hd (xs := ([] : List (S32))) (inner := []) (ok := fun _ => True) (okp := fun _ => True) ?hr ?hp (fun _ hk => hk) trivial (Below.refl _ _) (Nat.le_refl _) (by simp) ?_; (case hd => rfl); (case hg => rfl); (case hr => first | (go_simp; done) | (go_simp; rfl)); (case hp => exact (Reps.none _ _)); intro v497 w5 ho6 hb hg_ hnew_; clear hg_ hnew_; (first | rw [← Ny496.out] at ho6 | (simp only [Int.reduceToNat] at ho6; rw [← Ny496.out] at ho6)); have n0_ := G.a (Kd.R_lower ho6 (below_size G.bel)); have n1_ := G.a (below_step G.bel hb); clear HB; have HO498 := n0_; have HB := n1_; clear n0_ n1_; clear hb ho6)))
  go_loopg [3, 4] k (fun kq v3 v4 w' => ∃ (x3_1 : List (S32)) (x4_1 : Int), v4 = .int .i64 x4_1 ∧ Aside0 (impl_RunsOf.l0 kq l0 x3_1 x4_1 = some r) ∧ Aside0 (kq ≤ k) ∧ Aside0 (Kd.R k32 32 w' w.heap.size (fun _ => True) v3 x3_1) ∧ Aside0 (Below w.heap.size w w'))
  case atStart => exact ⟨(y496), (1), G.tr, H', ⟨Nat.le_refl _⟩, ⟨G.kR HO498.out⟩, ⟨G.bel⟩⟩
  case round =>
   clear H'
   try clear c2; try clear c2b0; try clear c2b1; try clear p2; try clear c6
   obtain ⟨x3_1, x4_1, rfl, HA, HK1, HO_3, HB⟩ := hrel
   cases gk with
   | zero => exact absurd HA.out (by simp [impl_RunsOf.l0])
   | succ k1 =>
    have H := HA.out
    clear HA
    simp only [impl_RunsOf.l0] at H
    by_cases c7 : (wrap64 (2 * x4_1)) ≤ (l0.length : Int)
    ·rw [if_pos c7] at H
     have c7b0 : decide ((wrap64 (2 * x4_1)) ≤ (l0.length : Int)) = true := decide_eq_true c7
     clear c7
     have H' := G.a H
     clear H
     go_wp2
     repeat (go_quiet (fail); try go_wp2)
     go_loopg [3, 5] k1 (fun kq v3 v5 w' => ∃ (x3_2 : List (S32)) (x5_2 : Int), v5 = .int .i64 x5_2 ∧ Aside0 (impl_RunsOf.l1 kq l0 x3_2 x4_1 x5_2 = some r) ∧ Aside0 (kq ≤ k1) ∧ Aside0 (Kd.R k32 32 w' w.heap.size (fun _ => True) v3 x3_2) ∧ Aside0 (Below w.heap.size w w'))
     case atStart => exact ⟨(x3_1), (0), G.tr, H', ⟨Nat.le_refl _⟩, ⟨G.kR HO_3.out⟩, ⟨G.bel⟩⟩
     case round =>
      clear H'
      try clear c2; try clear c2b0; try clear c2b1; try clear p2; try clear c6; try clear p6; try clear c7; try clear c7b0; try clear p2
      obtain ⟨x3_2, x5_2, rfl, HA, HK2, HO_3, HB⟩ := hrel
      cases gk with
      | zero => exact absurd HA.out (by simp [impl_RunsOf.l1])
      | succ k2 =>
       have H := HA.out
       clear HA
       simp only [impl_RunsOf.l1] at H
       by_cases c8 : (wrap64 (x5_2 + x4_1)) < (l0.length : Int)
       ·rw [if_pos c8] at H
        have c8b0 : decide ((wrap64 (x5_2 + x4_1)) < (l0.length : Int)) = true := decide_eq_true c8
        clear c8
        have H' := G.a H
        clear H
        go_wp2
        repeat (go_quiet (fail); try go_wp2)
        go_loopg [6] k2 (fun kq v6 w' => ∃ (x6_3 : Int), v6 = .int .i64 x6_3 ∧ Aside0 (impl_RunsOf.l2 kq l0 x3_2 x4_1 x5_2 x6_3 = some r) ∧ Aside0 (kq ≤ k2) ∧ Aside0 (Kd.R k32 32 w' w.heap.size (fun _ => True) u3 x3_2) ∧ Aside0 (Below w.heap.size w w'))
        case atStart => exact ⟨(wrap64 (x5_2 + x4_1)), G.tr, H', ⟨Nat.le_refl _⟩, ⟨G.kR HO_3.out⟩, ⟨G.bel⟩⟩
        case round =>
         clear H'
         try clear c2; try clear c2b0; try clear c2b1; try clear p2; try clear c6; try clear p6; try clear c7; try clear c7b0; try clear c8; try clear c8b0; try clear p2; try clear p6
         obtain ⟨x6_3, rfl, HA, HK3, HO_3, HB⟩ := hrel
         cases gk with
         | zero => exact absurd HA.out (by simp [impl_RunsOf.l2])
         | succ k3 =>
          have H := HA.out
          clear HA
          simp only [impl_RunsOf.l2] at H
          by_cases c9 : x6_3 < (l0.length : Int)
          ·rw [if_pos c9] at H
           have c9b0 : decide (x6_3 < (l0.length : Int)) = true := decide_eq_true c9
           clear c9
           by_cases c10 : 0 ≤ x6_3
           ·rw [if_pos c10] at H
            have c10b0 : decide (0 ≤ x6_3) = true := decide_eq_true c10
            clear c10
            obtain ⟨ji11, hji11⟩ : ∃ j_ : Int, (wrap64 (x6_3 - x4_1)) = j_ := ⟨_, rfl⟩
            replace H : (if 0 ≤ (ji11) then (if (ji11) < (l0.length : Int) then (if (rd l0 x6_3) = (rd l0 (ji11)) then (impl_RunsOf.l2 k3 l0 x3_2 x4_1 x5_2 (wrap64 (x6_3 + 1))) else (if (wrap64 (x6_3 - x5_2)) ≥ (wrap64 (2 * x4_1)) then (if 0 ≤ x5_2 then (if x5_2 ≤ x6_3 then (if x6_3 ≤ (l0.length : Int) then ((impl_LeastPeriod.f k3 ((l0.take (x6_3 : Int).toNat).drop (x5_2 : Int).toNat)).bind fun t502 => (if t502 = x4_1 then (if x3_2.length < 5864062014805 then (impl_RunsOf.l1 k3 l0 (x3_2 ++ [(⟨x5_2, x6_3, x4_1⟩ : S32)]) x4_1 (wrap64 ((ji11) + 1))) else (none)) else (impl_RunsOf.l1 k3 l0 x3_2 x4_1 (wrap64 ((ji11) + 1))))) else (none)) else (none)) else (none)) else (impl_RunsOf.l1 k3 l0 x3_2 x4_1 (wrap64 ((ji11) + 1))))) else (none)) else (none)) = some r := by first | (rw [hji11] at H; exact H) | (simp only [hji11] at H ⊢; exact H)
            have hji11w : (IntKind.i64.wrap (x6_3 - x4_1)) = ji11 := (i64_w _).trans hji11
            by_cases c12 : 0 ≤ (ji11)
            ·rw [if_pos c12] at H
             have c12b0 : decide (0 ≤ (ji11)) = true := decide_eq_true c12
             clear c12
             by_cases c13 : (ji11) < (l0.length : Int)
             ·rw [if_pos c13] at H
              have c13b0 : decide ((ji11) < (l0.length : Int)) = true := decide_eq_true c13
              clear c13
              by_cases c14 : (rd l0 x6_3) = (rd l0 (ji11))
              ·rw [if_pos c14] at H
               have c14b0 : ((rd l0 x6_3) == (rd l0 (ji11))) = true := beq_iff_eq.mpr c14
               have c14b1 : ((rd l0 x6_3) != (rd l0 (ji11))) = false := bne_eq_false_iff_eq.mpr c14
               clear c14
               have H' := G.a H
               clear H
               have p499 : 0 ≤ (x6_3 : Int) := G.odt
               have q499 : x6_3 < (l0.length : Int) := G.odt
               obtain ⟨ad499, e499, hx499_0⟩ := Kd.at_int HR0.out x6_3 p499 q499
               cases e499
               replace hx499_0 := (HB.out.cell (World.block_lt_of_cell? w _ hx499_0)).trans hx499_0
               replace p499 := eq_true p499
               replace q499 := eq_true q499
               have p500 : 0 ≤ ((ji11) : Int) := G.odt
               have q500 : (ji11) < (l0.length : Int) := G.odt
               obtain ⟨ad500, e500, hx500_0⟩ := Kd.at_int HR0.out (ji11) p500 q500
               obtain rfl : ad499 = ad500 := (by injection e500)
               replace hx500_0 := (HB.out.cell (World.block_lt_of_cell? w _ hx500_0)).trans hx500_0
               replace p500 := eq_true p500
               replace q500 := eq_true q500
               go_wp2
               repeat (go_quiet (fail); try go_wp2)
               go_roundg k3
               case measure => have := HK1.out; have := HK2.out; have := HK3.out; omega
               case rel => exact ⟨(wrap64 (x6_3 + 1)), G.tr, H', ⟨by have := HK1.out; have := HK2.out; have := HK3.out; omega⟩, ⟨G.kR HO_3.out⟩, ⟨G.bel⟩⟩
              ·rw [if_neg c14] at H
               have c14b0 : ((rd l0 x6_3) == (rd l0 (ji11))) = false := beq_eq_false_iff_ne.mpr c14
               have c14b1 : ((rd l0 x6_3) != (rd l0 (ji11))) = true := bne_iff_ne.mpr c14
               by_cases c15 : (wrap64 (x6_3 - x5_2)) ≥ (wrap64 (2 * x4_1))
               ·rw [if_pos c15] at H
                have c15b0 : decide ((wrap64 (2 * x4_1)) ≤ (wrap64 (x6_3 - x5_2))) = true := decide_eq_true c15
                clear c15
                by_cases c16 : 0 ≤ x5_2
                ·rw [if_pos c16] at H
                 have c16b0 := eq_true c16
                 have c16b1 : decide (0 ≤ x5_2) = true := decide_eq_true c16
                 clear c16
                 by_cases c17 : x5_2 ≤ x6_3
                 ·rw [if_pos c17] at H
                  have c17b0 := eq_true c17
                  have c17b1 : decide (x5_2 ≤ x6_3) = true := decide_eq_true c17
                  clear c17
                  by_cases c18 : x6_3 ≤ (l0.length : Int)
                  ·rw [if_pos c18] at H
                   have c18b0 := eq_true c18
                   have c18b1 : decide (x6_3 ≤ (l0.length : Int)) = true := decide_eq_true c18
                   clear c18
                   obtain ⟨t502, A19, H⟩ := G.bx H
                   by_cases c20 : t502 = x4_1
                   ·rw [if_pos c20] at H
                    have c20b0 : (t502 == x4_1) = true := beq_iff_eq.mpr c20
                    have c20b1 : (t502 != x4_1) = false := bne_eq_false_iff_eq.mpr c20
                    clear c20
                    by_cases c21 : x3_2.length < 5864062014805
                    ·rw [if_pos c21] at H
                     have LMc21 := G.a c21
                     clear c21
                     obtain ⟨y503, hy503⟩ : ∃ y_ : List (S32), y_ = (x3_2 ++ [(⟨x5_2, x6_3, x4_1⟩ : S32)]) := ⟨_, rfl⟩
                     replace H : (impl_RunsOf.l1 k3 l0 y503 x4_1 (wrap64 ((ji11) + 1))) = some r := by first | (rw [hy503]; with_reducible exact H) | (have H2_ := (Option.bind_some _ _).symm.trans H; rw [hy503]; with_reducible exact H2_) | (have H2_ := (Option.bind_some _ _).symm.trans H; with_reducible exact H2_) | with_reducible exact H | (rw [hy503]; exact H) | exact H
                     have Ny503 := G.a hy503
                     clear hy503
                     have H' := G.a H
                     clear H
                     have p499 : 0 ≤ (x6_3 : Int) := G.odt
                     have q499 : x6_3 < (l0.length : Int) := G.odt
                     obtain ⟨ad499, e499, hx499_0⟩ := Kd.at_int HR0.out x6_3 p499 q499
                     cases e499
                     replace hx499_0 := (HB.out.cell (World.block_lt_of_cell? w _ hx499_0)).trans hx499_0
                     replace p499 := eq_true p499
                     replace q499 := eq_true q499
                     have p500 : 0 ≤ ((ji11) : Int) := G.odt
                     have q500 : (ji11) < (l0.length : Int) := G.odt
                     obtain ⟨ad500, e500, hx500_0⟩ := Kd.at_int HR0.out (ji11) p500 q500
                     obtain rfl : ad499 = ad500 := (by injection e500)
                     replace hx500_0 := (HB.out.cell (World.block_lt_of_cell? w _ hx500_0)).trans hx500_0
                     replace p500 := eq_true p500
                     replace q500 := eq_true q500
                     obtain ⟨i022, hi022, _, hsz22, _⟩ := info_parts info3
                     obtain ⟨A22, hcut22, hA22, hC22⟩ := print_mid_of (P := Tryz.prog) (Value.int .i64) 0 24 3 .i64 .i64 Tryz.underlying24 hi022 hsz22 (some ad499) c0 l0 x5_2 x6_3 G.odt (by first | omega | exact G.odt) G.odt HC0.out
                     have HR501 := G.a (Kd.C_of_reads (h1 := fun _ => rfl) (hA22 _ (Kd.reads_of_C HR0.out)))
                     have HC501 := G.a hC22
                     clear hA22 hC22 hi022 hsz22
                     go_wp2_with (first | (go_at_call 25; rw [show x6_3.toNat - x5_2.toNat = ((l0.take (x6_3 : Int).toNat).drop (x5_2 : Int).toNat).length from by rw [List.length_drop, List.length_take, Nat.min_eq_left (Int.toNat_le.mpr G.odt)]]; (with_reducible refine (impl_LeastPeriod.calls k3 _ _ ((l0.take (x6_3 : Int).toNat).drop (x5_2 : Int).toNat) t502 _ ?side1 ?side2 A19.out).mono ?_); (case side1 => exact G.kC (Kd.C_below HR501.out HB.out)); (case side2 => exact HC501.out); rintro e w23 ⟨rfl, hb⟩; have n0_ := G.a (Kd.R_below (G.kR HO_3.out) hb); have n1_ := G.a (below_step G.bel hb); clear HO_3; clear HB; have HO_3 := n0_; have HB := n1_; clear n0_ n1_; (try clear hb); (try clear hb2); (try clear hk); (try clear hi)) | ((with_reducible refine gate_builtin (b := .append) (xs := #[.tmp 62, .tmp 67]) rfl ?_); at_builtin; refine Kd.R_append k32 (w0 := w) w.heap.size rfl (.tmp 62) (.tmp 67) 26 32 (.agg #[(.int .i64 0), (.int .i64 0), (.int .i64 0)]) 24 rfl Tryz.underlying26 info32 rfl (by decide) (by omega) u3 x3_2 (⟨x5_2, x6_3, x4_1⟩ : S32) [.int .i64 x5_2, .int .i64 x6_3, .int .i64 x4_1] (fun _ => True) (fun _ => False) rfl rfl ?aP (fun _ hk => hk.elim) ?aF ?aO ?aB ?aS ?aL ?_; (case aP => exact k32_mkM _ _ _ (⟨x5_2, x6_3, x4_1⟩ : S32)); (case aB => exact G.bel); (case aF => exact (fun _ _ => trivial)); (case aO => exact (G.kR HO_3.out)); (case aS => exact (below_size G.bel)); (case aL => have := LMc21.out; omega); intro v504 w24 ho hb hg hat; rw [← Ny503.out] at ho; have n0_ := G.a (hb); have n1_ := G.a (ho); clear HB; clear HO_3; have HB := n0_; have HO505 := n1_; clear n0_ n1_; clear ho hb hg hat))
                     repeat (go_quiet (first | (go_at_call 25; rw [show x6_3.toNat - x5_2.toNat = ((l0.take (x6_3 : Int).toNat).drop (x5_2 : Int).toNat).length from by rw [List.length_drop, List.length_take, Nat.min_eq_left (Int.toNat_le.mpr G.odt)]]; (with_reducible refine (impl_LeastPeriod.calls k3 _ _ ((l0.take (x6_3 : Int).toNat).drop (x5_2 : Int).toNat) t502 _ ?side1 ?side2 A19.out).mono ?_); (case side1 => exact G.kC (Kd.C_below HR501.out HB.out)); (case side2 => exact HC501.out); rintro e w23 ⟨rfl, hb⟩; have n0_ := G.a (Kd.R_below (G.kR HO_3.out) hb); have n1_ := G.a (below_step G.bel hb); clear HO_3; clear HB; have HO_3 := n0_; have HB := n1_; clear n0_ n1_; (try clear hb); (try clear hb2); (try clear hk); (try clear hi)) | ((with_reducible refine gate_builtin (b := .append) (xs := #[.tmp 62, .tmp 67]) rfl ?_); at_builtin; refine Kd.R_append k32 (w0 := w) w.heap.size rfl (.tmp 62) (.tmp 67) 26 32 (.agg #[(.int .i64 0), (.int .i64 0), (.int .i64 0)]) 24 rfl Tryz.underlying26 info32 rfl (by decide) (by omega) u3 x3_2 (⟨x5_2, x6_3, x4_1⟩ : S32) [.int .i64 x5_2, .int .i64 x6_3, .int .i64 x4_1] (fun _ => True) (fun _ => False) rfl rfl ?aP (fun _ hk => hk.elim) ?aF ?aO ?aB ?aS ?aL ?_; (case aP => exact k32_mkM _ _ _ (⟨x5_2, x6_3, x4_1⟩ : S32)); (case aB => exact G.bel); (case aF => exact (fun _ _ => trivial)); (case aO => exact (G.kR HO_3.out)); (case aS => exact (below_size G.bel)); (case aL => have := LMc21.out; omega); intro v504 w24 ho hb hg hat; rw [← Ny503.out] at ho; have n0_ := G.a (hb); have n1_ := G.a (ho); clear HB; clear HO_3; have HB := n0_; have HO505 := n1_; clear n0_ n1_; clear ho hb hg hat)); try go_wp2_with (first | (go_at_call 25; rw [show x6_3.toNat - x5_2.toNat = ((l0.take (x6_3 : Int).toNat).drop (x5_2 : Int).toNat).length from by rw [List.length_drop, List.length_take, Nat.min_eq_left (Int.toNat_le.mpr G.odt)]]; (with_reducible refine (impl_LeastPeriod.calls k3 _ _ ((l0.take (x6_3 : Int).toNat).drop (x5_2 : Int).toNat) t502 _ ?side1 ?side2 A19.out).mono ?_); (case side1 => exact G.kC (Kd.C_below HR501.out HB.out)); (case side2 => exact HC501.out); rintro e w23 ⟨rfl, hb⟩; have n0_ := G.a (Kd.R_below (G.kR HO_3.out) hb); have n1_ := G.a (below_step G.bel hb); clear HO_3; clear HB; have HO_3 := n0_; have HB := n1_; clear n0_ n1_; (try clear hb); (try clear hb2); (try clear hk); (try clear hi)) | ((with_reducible refine gate_builtin (b := .append) (xs := #[.tmp 62, .tmp 67]) rfl ?_); at_builtin; refine Kd.R_append k32 (w0 := w) w.heap.size rfl (.tmp 62) (.tmp 67) 26 32 (.agg #[(.int .i64 0), (.int .i64 0), (.int .i64 0)]) 24 rfl Tryz.underlying26 info32 rfl (by decide) (by omega) u3 x3_2 (⟨x5_2, x6_3, x4_1⟩ : S32) [.int .i64 x5_2, .int .i64 x6_3, .int .i64 x4_1] (fun _ => True) (fun _ => False) rfl rfl ?aP (fun _ hk => hk.elim) ?aF ?aO ?aB ?aS ?aL ?_; (case aP => exact k32_mkM _ _ _ (⟨x5_2, x6_3, x4_1⟩ : S32)); (case aB => exact G.bel); (case aF => exact (fun _ _ => trivial)); (case aO => exact (G.kR HO_3.out)); (case aS => exact (below_size G.bel)); (case aL => have := LMc21.out; omega); intro v504 w24 ho hb hg hat; rw [← Ny503.out] at ho; have n0_ := G.a (hb); have n1_ := G.a (ho); clear HB; clear HO_3; have HB := n0_; have HO505 := n1_; clear n0_ n1_; clear ho hb hg hat)))
                     go_roundg k3
                     case measure => have := HK1.out; have := HK2.out; have := HK3.out; omega
                     case rel => exact ⟨(y503), (wrap64 ((ji11) + 1)), (by first | rfl | (simp; done) | (simp only [← hji11] <;> (first | rfl | simp)) | (simp [*]; done)), H', ⟨by have := HK1.out; have := HK2.out; have := HK3.out; omega⟩, ⟨G.kR HO505.out⟩, ⟨G.bel⟩⟩
                    ·rw [if_neg c21] at H
                     exact absurd H (by simp)
                   ·rw [if_neg c20] at H
                    have c20b0 : (t502 == x4_1) = false := beq_eq_false_iff_ne.mpr c20
                    have c20b1 : (t502 != x4_1) = true := bne_iff_ne.mpr c20
                    have H' := G.a H
                    clear H
                    have p499 : 0 ≤ (x6_3 : Int) := G.odt
                    have q499 : x6_3 < (l0.length : Int) := G.odt
                    obtain ⟨ad499, e499, hx499_0⟩ := Kd.at_int HR0.out x6_3 p499 q499
                    cases e499
                    replace hx499_0 := (HB.out.cell (World.block_lt_of_cell? w _ hx499_0)).trans hx499_0
                    replace p499 := eq_true p499
                    replace q499 := eq_true q499
                    have p500 : 0 ≤ ((ji11) : Int) := G.odt
                    have q500 : (ji11) < (l0.length : Int) := G.odt
                    obtain ⟨ad500, e500, hx500_0⟩ := Kd.at_int HR0.out (ji11) p500 q500
                    obtain rfl : ad499 = ad500 := (by injection e500)
                    replace hx500_0 := (HB.out.cell (World.block_lt_of_cell? w _ hx500_0)).trans hx500_0
                    replace p500 := eq_true p500
                    replace q500 := eq_true q500
                    obtain ⟨i025, hi025, _, hsz25, _⟩ := info_parts info3
                    obtain ⟨A25, hcut25, hA25, hC25⟩ := print_mid_of (P := Tryz.prog) (Value.int .i64) 0 24 3 .i64 .i64 Tryz.underlying24 hi025 hsz25 (some ad499) c0 l0 x5_2 x6_3 G.odt (by first | omega | exact G.odt) G.odt HC0.out
                    have HR501 := G.a (Kd.C_of_reads (h1 := fun _ => rfl) (hA25 _ (Kd.reads_of_C HR0.out)))
                    have HC501 := G.a hC25
                    clear hA25 hC25 hi025 hsz25
                    go_wp2_with (first | (go_at_call 25; rw [show x6_3.toNat - x5_2.toNat = ((l0.take (x6_3 : Int).toNat).drop (x5_2 : Int).toNat).length from by rw [List.length_drop, List.length_take, Nat.min_eq_left (Int.toNat_le.mpr G.odt)]]; (with_reducible refine (impl_LeastPeriod.calls k3 _ _ ((l0.take (x6_3 : Int).toNat).drop (x5_2 : Int).toNat) t502 _ ?side1 ?side2 A19.out).mono ?_); (case side1 => exact G.kC (Kd.C_below HR501.out HB.out)); (case side2 => exact HC501.out); rintro e w26 ⟨rfl, hb⟩; have n0_ := G.a (Kd.R_below (G.kR HO_3.out) hb); have n1_ := G.a (below_step G.bel hb); clear HO_3; clear HB; have HO_3 := n0_; have HB := n1_; clear n0_ n1_; (try clear hb); (try clear hb2); (try clear hk); (try clear hi)))
                    repeat (go_quiet (first | (go_at_call 25; rw [show x6_3.toNat - x5_2.toNat = ((l0.take (x6_3 : Int).toNat).drop (x5_2 : Int).toNat).length from by rw [List.length_drop, List.length_take, Nat.min_eq_left (Int.toNat_le.mpr G.odt)]]; (with_reducible refine (impl_LeastPeriod.calls k3 _ _ ((l0.take (x6_3 : Int).toNat).drop (x5_2 : Int).toNat) t502 _ ?side1 ?side2 A19.out).mono ?_); (case side1 => exact G.kC (Kd.C_below HR501.out HB.out)); (case side2 => exact HC501.out); rintro e w26 ⟨rfl, hb⟩; have n0_ := G.a (Kd.R_below (G.kR HO_3.out) hb); have n1_ := G.a (below_step G.bel hb); clear HO_3; clear HB; have HO_3 := n0_; have HB := n1_; clear n0_ n1_; (try clear hb); (try clear hb2); (try clear hk); (try clear hi))); try go_wp2_with (first | (go_at_call 25; rw [show x6_3.toNat - x5_2.toNat = ((l0.take (x6_3 : Int).toNat).drop (x5_2 : Int).toNat).length from by rw [List.length_drop, List.length_take, Nat.min_eq_left (Int.toNat_le.mpr G.odt)]]; (with_reducible refine (impl_LeastPeriod.calls k3 _ _ ((l0.take (x6_3 : Int).toNat).drop (x5_2 : Int).toNat) t502 _ ?side1 ?side2 A19.out).mono ?_); (case side1 => exact G.kC (Kd.C_below HR501.out HB.out)); (case side2 => exact HC501.out); rintro e w26 ⟨rfl, hb⟩; have n0_ := G.a (Kd.R_below (G.kR HO_3.out) hb); have n1_ := G.a (below_step G.bel hb); clear HO_3; clear HB; have HO_3 := n0_; have HB := n1_; clear n0_ n1_; (try clear hb); (try clear hb2); (try clear hk); (try clear hi))))
                    go_roundg k3
                    case measure => have := HK1.out; have := HK2.out; have := HK3.out; omega
                    case rel => exact ⟨(x3_2), (wrap64 ((ji11) + 1)), (by first | rfl | (simp; done) | (simp only [← hji11] <;> (first | rfl | simp)) | (simp [*]; done)), H', ⟨by have := HK1.out; have := HK2.out; have := HK3.out; omega⟩, ⟨G.kR HO_3.out⟩, ⟨G.bel⟩⟩
                  ·rw [if_neg c18] at H
                   exact absurd H (by simp)
                 ·rw [if_neg c17] at H
                  exact absurd H (by simp)
                ·rw [if_neg c16] at H
                 exact absurd H (by simp)
               ·rw [if_neg c15] at H
                have c15b0 : decide ((wrap64 (2 * x4_1)) ≤ (wrap64 (x6_3 - x5_2))) = false := decide_eq_false c15
                clear c15
                have H' := G.a H
                clear H
                have p499 : 0 ≤ (x6_3 : Int) := G.odt
                have q499 : x6_3 < (l0.length : Int) := G.odt
                obtain ⟨ad499, e499, hx499_0⟩ := Kd.at_int HR0.out x6_3 p499 q499
                cases e499
                replace hx499_0 := (HB.out.cell (World.block_lt_of_cell? w _ hx499_0)).trans hx499_0
                replace p499 := eq_true p499
                replace q499 := eq_true q499
                have p500 : 0 ≤ ((ji11) : Int) := G.odt
                have q500 : (ji11) < (l0.length : Int) := G.odt
                obtain ⟨ad500, e500, hx500_0⟩ := Kd.at_int HR0.out (ji11) p500 q500
                obtain rfl : ad499 = ad500 := (by injection e500)
                replace hx500_0 := (HB.out.cell (World.block_lt_of_cell? w _ hx500_0)).trans hx500_0
                replace p500 := eq_true p500
                replace q500 := eq_true q500
                go_wp2
                repeat (go_quiet (fail); try go_wp2)
                go_roundg k3
                case measure => have := HK1.out; have := HK2.out; have := HK3.out; omega
                case rel => exact ⟨(x3_2), (wrap64 ((ji11) + 1)), (by first | rfl | (simp; done) | (simp only [← hji11] <;> (first | rfl | simp)) | (simp [*]; done)), H', ⟨by have := HK1.out; have := HK2.out; have := HK3.out; omega⟩, ⟨G.kR HO_3.out⟩, ⟨G.bel⟩⟩
             ·rw [if_neg c13] at H
              exact absurd H (by simp)
            ·rw [if_neg c12] at H
             exact absurd H (by simp)
           ·rw [if_neg c10] at H
            exact absurd H (by simp)
          ·rw [if_neg c9] at H
           have c9b0 : decide (x6_3 < (l0.length : Int)) = false := decide_eq_false c9
           clear c9
           by_cases c27 : (wrap64 (x6_3 - x5_2)) ≥ (wrap64 (2 * x4_1))
           ·rw [if_pos c27] at H
            have c27b0 : decide ((wrap64 (2 * x4_1)) ≤ (wrap64 (x6_3 - x5_2))) = true := decide_eq_true c27
            clear c27
            by_cases c28 : 0 ≤ x5_2
            ·rw [if_pos c28] at H
             have c28b0 := eq_true c28
             have c28b1 : decide (0 ≤ x5_2) = true := decide_eq_true c28
             clear c28
             by_cases c29 : x5_2 ≤ x6_3
             ·rw [if_pos c29] at H
              have c29b0 := eq_true c29
              have c29b1 : decide (x5_2 ≤ x6_3) = true := decide_eq_true c29
              clear c29
              by_cases c30 : x6_3 ≤ (l0.length : Int)
              ·rw [if_pos c30] at H
               have c30b0 := eq_true c30
               have c30b1 : decide (x6_3 ≤ (l0.length : Int)) = true := decide_eq_true c30
               clear c30
               obtain ⟨t507, A31, H⟩ := G.bx H
               by_cases c32 : t507 = x4_1
               ·rw [if_pos c32] at H
                have c32b0 : (t507 == x4_1) = true := beq_iff_eq.mpr c32
                have c32b1 : (t507 != x4_1) = false := bne_eq_false_iff_eq.mpr c32
                clear c32
                by_cases c33 : x3_2.length < 5864062014805
                ·rw [if_pos c33] at H
                 have LMc33 := G.a c33
                 clear c33
                 obtain ⟨y508, hy508⟩ : ∃ y_ : List (S32), y_ = (x3_2 ++ [(⟨x5_2, x6_3, x4_1⟩ : S32)]) := ⟨_, rfl⟩
                 replace H : (impl_RunsOf.l1 k3 l0 y508 x4_1 (wrap64 ((wrap64 (x6_3 - x4_1)) + 1))) = some r := by first | (rw [hy508]; with_reducible exact H) | (have H2_ := (Option.bind_some _ _).symm.trans H; rw [hy508]; with_reducible exact H2_) | (have H2_ := (Option.bind_some _ _).symm.trans H; with_reducible exact H2_) | with_reducible exact H | (rw [hy508]; exact H) | exact H
                 have Ny508 := G.a hy508
                 clear hy508
                 have H' := G.a H
                 clear H
                 obtain ⟨i034, hi034, _, hsz34, _⟩ := info_parts info3
                 obtain ⟨A34, hcut34, hA34, hC34⟩ := print_mid_of (P := Tryz.prog) (Value.int .i64) 0 24 3 .i64 .i64 Tryz.underlying24 hi034 hsz34 A0 c0 l0 x5_2 x6_3 G.odt (by first | omega | exact G.odt) G.odt HC0.out
                 have HR506 := G.a (Kd.C_of_reads (h1 := fun _ => rfl) (hA34 _ (Kd.reads_of_C HR0.out)))
                 have HC506 := G.a hC34
                 clear hA34 hC34 hi034 hsz34
                 go_wp2_with (first | (go_at_call 25; rw [show x6_3.toNat - x5_2.toNat = ((l0.take (x6_3 : Int).toNat).drop (x5_2 : Int).toNat).length from by rw [List.length_drop, List.length_take, Nat.min_eq_left (Int.toNat_le.mpr G.odt)]]; (with_reducible refine (impl_LeastPeriod.calls k3 _ _ ((l0.take (x6_3 : Int).toNat).drop (x5_2 : Int).toNat) t507 _ ?side1 ?side2 A31.out).mono ?_); (case side1 => exact G.kC (Kd.C_below HR506.out HB.out)); (case side2 => exact HC506.out); rintro e w35 ⟨rfl, hb⟩; have n0_ := G.a (Kd.R_below (G.kR HO_3.out) hb); have n1_ := G.a (below_step G.bel hb); clear HO_3; clear HB; have HO_3 := n0_; have HB := n1_; clear n0_ n1_; (try clear hb); (try clear hb2); (try clear hk); (try clear hi)) | ((with_reducible refine gate_builtin (b := .append) (xs := #[.tmp 62, .tmp 67]) rfl ?_); at_builtin; refine Kd.R_append k32 (w0 := w) w.heap.size rfl (.tmp 62) (.tmp 67) 26 32 (.agg #[(.int .i64 0), (.int .i64 0), (.int .i64 0)]) 24 rfl Tryz.underlying26 info32 rfl (by decide) (by omega) u3 x3_2 (⟨x5_2, x6_3, x4_1⟩ : S32) [.int .i64 x5_2, .int .i64 x6_3, .int .i64 x4_1] (fun _ => True) (fun _ => False) rfl rfl ?aP (fun _ hk => hk.elim) ?aF ?aO ?aB ?aS ?aL ?_; (case aP => exact k32_mkM _ _ _ (⟨x5_2, x6_3, x4_1⟩ : S32)); (case aB => exact G.bel); (case aF => exact (fun _ _ => trivial)); (case aO => exact (G.kR HO_3.out)); (case aS => exact (below_size G.bel)); (case aL => have := LMc33.out; omega); intro v509 w36 ho hb hg hat; rw [← Ny508.out] at ho; have n0_ := G.a (hb); have n1_ := G.a (ho); clear HB; clear HO_3; have HB := n0_; have HO510 := n1_; clear n0_ n1_; clear ho hb hg hat))
                 repeat (go_quiet (first | (go_at_call 25; rw [show x6_3.toNat - x5_2.toNat = ((l0.take (x6_3 : Int).toNat).drop (x5_2 : Int).toNat).length from by rw [List.length_drop, List.length_take, Nat.min_eq_left (Int.toNat_le.mpr G.odt)]]; (with_reducible refine (impl_LeastPeriod.calls k3 _ _ ((l0.take (x6_3 : Int).toNat).drop (x5_2 : Int).toNat) t507 _ ?side1 ?side2 A31.out).mono ?_); (case side1 => exact G.kC (Kd.C_below HR506.out HB.out)); (case side2 => exact HC506.out); rintro e w35 ⟨rfl, hb⟩; have n0_ := G.a (Kd.R_below (G.kR HO_3.out) hb); have n1_ := G.a (below_step G.bel hb); clear HO_3; clear HB; have HO_3 := n0_; have HB := n1_; clear n0_ n1_; (try clear hb); (try clear hb2); (try clear hk); (try clear hi)) | ((with_reducible refine gate_builtin (b := .append) (xs := #[.tmp 62, .tmp 67]) rfl ?_); at_builtin; refine Kd.R_append k32 (w0 := w) w.heap.size rfl (.tmp 62) (.tmp 67) 26 32 (.agg #[(.int .i64 0), (.int .i64 0), (.int .i64 0)]) 24 rfl Tryz.underlying26 info32 rfl (by decide) (by omega) u3 x3_2 (⟨x5_2, x6_3, x4_1⟩ : S32) [.int .i64 x5_2, .int .i64 x6_3, .int .i64 x4_1] (fun _ => True) (fun _ => False) rfl rfl ?aP (fun _ hk => hk.elim) ?aF ?aO ?aB ?aS ?aL ?_; (case aP => exact k32_mkM _ _ _ (⟨x5_2, x6_3, x4_1⟩ : S32)); (case aB => exact G.bel); (case aF => exact (fun _ _ => trivial)); (case aO => exact (G.kR HO_3.out)); (case aS => exact (below_size G.bel)); (case aL => have := LMc33.out; omega); intro v509 w36 ho hb hg hat; rw [← Ny508.out] at ho; have n0_ := G.a (hb); have n1_ := G.a (ho); clear HB; clear HO_3; have HB := n0_; have HO510 := n1_; clear n0_ n1_; clear ho hb hg hat)); try go_wp2_with (first | (go_at_call 25; rw [show x6_3.toNat - x5_2.toNat = ((l0.take (x6_3 : Int).toNat).drop (x5_2 : Int).toNat).length from by rw [List.length_drop, List.length_take, Nat.min_eq_left (Int.toNat_le.mpr G.odt)]]; (with_reducible refine (impl_LeastPeriod.calls k3 _ _ ((l0.take (x6_3 : Int).toNat).drop (x5_2 : Int).toNat) t507 _ ?side1 ?side2 A31.out).mono ?_); (case side1 => exact G.kC (Kd.C_below HR506.out HB.out)); (case side2 => exact HC506.out); rintro e w35 ⟨rfl, hb⟩; have n0_ := G.a (Kd.R_below (G.kR HO_3.out) hb); have n1_ := G.a (below_step G.bel hb); clear HO_3; clear HB; have HO_3 := n0_; have HB := n1_; clear n0_ n1_; (try clear hb); (try clear hb2); (try clear hk); (try clear hi)) | ((with_reducible refine gate_builtin (b := .append) (xs := #[.tmp 62, .tmp 67]) rfl ?_); at_builtin; refine Kd.R_append k32 (w0 := w) w.heap.size rfl (.tmp 62) (.tmp 67) 26 32 (.agg #[(.int .i64 0), (.int .i64 0), (.int .i64 0)]) 24 rfl Tryz.underlying26 info32 rfl (by decide) (by omega) u3 x3_2 (⟨x5_2, x6_3, x4_1⟩ : S32) [.int .i64 x5_2, .int .i64 x6_3, .int .i64 x4_1] (fun _ => True) (fun _ => False) rfl rfl ?aP (fun _ hk => hk.elim) ?aF ?aO ?aB ?aS ?aL ?_; (case aP => exact k32_mkM _ _ _ (⟨x5_2, x6_3, x4_1⟩ : S32)); (case aB => exact G.bel); (case aF => exact (fun _ _ => trivial)); (case aO => exact (G.kR HO_3.out)); (case aS => exact (below_size G.bel)); (case aL => have := LMc33.out; omega); intro v509 w36 ho hb hg hat; rw [← Ny508.out] at ho; have n0_ := G.a (hb); have n1_ := G.a (ho); clear HB; clear HO_3; have HB := n0_; have HO510 := n1_; clear n0_ n1_; clear ho hb hg hat)))
                 go_roundg k3
                 case measure => have := HK1.out; have := HK2.out; have := HK3.out; omega
                 case rel => exact ⟨(y508), (wrap64 ((wrap64 (x6_3 - x4_1)) + 1)), G.tr, H', ⟨by have := HK1.out; have := HK2.out; have := HK3.out; omega⟩, ⟨G.kR HO510.out⟩, ⟨G.bel⟩⟩
                ·rw [if_neg c33] at H
                 exact absurd H (by simp)
               ·rw [if_neg c32] at H
                have c32b0 : (t507 == x4_1) = false := beq_eq_false_iff_ne.mpr c32
                have c32b1 : (t507 != x4_1) = true := bne_iff_ne.mpr c32
                have H' := G.a H
                clear H
                obtain ⟨i037, hi037, _, hsz37, _⟩ := info_parts info3
                obtain ⟨A37, hcut37, hA37, hC37⟩ := print_mid_of (P := Tryz.prog) (Value.int .i64) 0 24 3 .i64 .i64 Tryz.underlying24 hi037 hsz37 A0 c0 l0 x5_2 x6_3 G.odt (by first | omega | exact G.odt) G.odt HC0.out
                have HR506 := G.a (Kd.C_of_reads (h1 := fun _ => rfl) (hA37 _ (Kd.reads_of_C HR0.out)))
                have HC506 := G.a hC37
                clear hA37 hC37 hi037 hsz37
                go_wp2_with (first | (go_at_call 25; rw [show x6_3.toNat - x5_2.toNat = ((l0.take (x6_3 : Int).toNat).drop (x5_2 : Int).toNat).length from by rw [List.length_drop, List.length_take, Nat.min_eq_left (Int.toNat_le.mpr G.odt)]]; (with_reducible refine (impl_LeastPeriod.calls k3 _ _ ((l0.take (x6_3 : Int).toNat).drop (x5_2 : Int).toNat) t507 _ ?side1 ?side2 A31.out).mono ?_); (case side1 => exact G.kC (Kd.C_below HR506.out HB.out)); (case side2 => exact HC506.out); rintro e w38 ⟨rfl, hb⟩; have n0_ := G.a (Kd.R_below (G.kR HO_3.out) hb); have n1_ := G.a (below_step G.bel hb); clear HO_3; clear HB; have HO_3 := n0_; have HB := n1_; clear n0_ n1_; (try clear hb); (try clear hb2); (try clear hk); (try clear hi)))
                repeat (go_quiet (first | (go_at_call 25; rw [show x6_3.toNat - x5_2.toNat = ((l0.take (x6_3 : Int).toNat).drop (x5_2 : Int).toNat).length from by rw [List.length_drop, List.length_take, Nat.min_eq_left (Int.toNat_le.mpr G.odt)]]; (with_reducible refine (impl_LeastPeriod.calls k3 _ _ ((l0.take (x6_3 : Int).toNat).drop (x5_2 : Int).toNat) t507 _ ?side1 ?side2 A31.out).mono ?_); (case side1 => exact G.kC (Kd.C_below HR506.out HB.out)); (case side2 => exact HC506.out); rintro e w38 ⟨rfl, hb⟩; have n0_ := G.a (Kd.R_below (G.kR HO_3.out) hb); have n1_ := G.a (below_step G.bel hb); clear HO_3; clear HB; have HO_3 := n0_; have HB := n1_; clear n0_ n1_; (try clear hb); (try clear hb2); (try clear hk); (try clear hi))); try go_wp2_with (first | (go_at_call 25; rw [show x6_3.toNat - x5_2.toNat = ((l0.take (x6_3 : Int).toNat).drop (x5_2 : Int).toNat).length from by rw [List.length_drop, List.length_take, Nat.min_eq_left (Int.toNat_le.mpr G.odt)]]; (with_reducible refine (impl_LeastPeriod.calls k3 _ _ ((l0.take (x6_3 : Int).toNat).drop (x5_2 : Int).toNat) t507 _ ?side1 ?side2 A31.out).mono ?_); (case side1 => exact G.kC (Kd.C_below HR506.out HB.out)); (case side2 => exact HC506.out); rintro e w38 ⟨rfl, hb⟩; have n0_ := G.a (Kd.R_below (G.kR HO_3.out) hb); have n1_ := G.a (below_step G.bel hb); clear HO_3; clear HB; have HO_3 := n0_; have HB := n1_; clear n0_ n1_; (try clear hb); (try clear hb2); (try clear hk); (try clear hi))))
                go_roundg k3
                case measure => have := HK1.out; have := HK2.out; have := HK3.out; omega
                case rel => exact ⟨(x3_2), (wrap64 ((wrap64 (x6_3 - x4_1)) + 1)), G.tr, H', ⟨by have := HK1.out; have := HK2.out; have := HK3.out; omega⟩, ⟨G.kR HO_3.out⟩, ⟨G.bel⟩⟩
              ·rw [if_neg c30] at H
               exact absurd H (by simp)
             ·rw [if_neg c29] at H
              exact absurd H (by simp)
            ·rw [if_neg c28] at H
             exact absurd H (by simp)
           ·rw [if_neg c27] at H
            have c27b0 : decide ((wrap64 (2 * x4_1)) ≤ (wrap64 (x6_3 - x5_2))) = false := decide_eq_false c27
            clear c27
            have H' := G.a H
            clear H
            go_wp2
            repeat (go_quiet (fail); try go_wp2)
            go_roundg k3
            case measure => have := HK1.out; have := HK2.out; have := HK3.out; omega
            case rel => exact ⟨(x3_2), (wrap64 ((wrap64 (x6_3 - x4_1)) + 1)), G.tr, H', ⟨by have := HK1.out; have := HK2.out; have := HK3.out; omega⟩, ⟨G.kR HO_3.out⟩, ⟨G.bel⟩⟩
       ·rw [if_neg c8] at H
        have c8b0 : decide ((wrap64 (x5_2 + x4_1)) < (l0.length : Int)) = false := decide_eq_false c8
        clear c8
        have H' := G.a H
        clear H
        go_wp2
        repeat (go_quiet (fail); try go_wp2)
        go_roundg k2
        case measure => have := HK1.out; have := HK2.out; omega
        case rel => exact ⟨(x3_2), (wrap64 (x4_1 + 1)), G.tr, H', ⟨by have := HK1.out; have := HK2.out; omega⟩, ⟨G.kR HO_3.out⟩, ⟨G.bel⟩⟩
    ·rw [if_neg c7] at H
     have c7b0 : decide ((wrap64 (2 * x4_1)) ≤ (l0.length : Int)) = false := decide_eq_false c7
     clear c7
     have HSO_ := G.a (show runsO x3_1 = some r from H)
     clear H
     obtain ⟨Ao39, co39, eo39⟩ := Kd.R_slice HO_3.out
     subst eo39
     go_wp2_with (go_at_call 26; (with_reducible refine (runs_sorted _ x3_1 r w _ ?side1 ?side2 HSO_.out).mono ?_); (case side1 => repeat (first | (with_reducible first | exact HB.out | apply below_alloc | apply pw_below_drewN | apply below_drew1) | exact HB.out)); (case side2 => (with_reducible repeat (first | apply Kd.R_alloc | apply Kd.R_drewN | apply Kd.R_drew)); exact HO_3.out); rintro e ws_ ⟨rfl, hy0, hb⟩; have ny_ := G.a hy0; have nb_ := G.a hb; clear HO_3 HB; have HO_3 := ny_; have HB := nb_; clear ny_ nb_ hy0 hb)
     go_ret
     exact ⟨_, G.er, G.kR HO_3.out, G.bel⟩
mutual
def spec_l9Borders.l0 : Nat → List Int → List Int → Int → Int → Option (List Int)
 | 0, _, _, _, _ => none
 | k + 1, x0, x3, x4, x5 => if x5 < (x0.length : Int) then (if x5 = 0 then (if x3.length < 17592186044416 then (spec_l9Borders.l0 k x0 (x3 ++ [0]) x4 (wrap64 (x5 + 1))) else (none)) else (spec_l9Borders.l1 k x0 x3 x4 x5)) else (some x3)
def spec_l9Borders.l1 : Nat → List Int → List Int → Int → Int → Option (List Int)
 | 0, _, _, _, _ => none
 | k + 1, x0, x3, x4, x5 => if x4 > 0 then (if 0 ≤ x5 then (if x5 < (x0.length : Int) then (if 0 ≤ x4 then (if x4 < (x0.length : Int) then (if (rd x0 x5) = (rd x0 x4) then (if x3.length < 17592186044416 then (spec_l9Borders.l0 k x0 (x3 ++ [wrap64 (x4 + 1)]) (wrap64 (x4 + 1)) (wrap64 (x5 + 1))) else (none)) else (if 0 ≤ (wrap64 (x4 - 1)) then (if (wrap64 (x4 - 1)) < (x3.length : Int) then (spec_l9Borders.l1 k x0 x3 (rd x3 (wrap64 (x4 - 1))) x5) else (none)) else (none))) else (none)) else (none)) else (none)) else (none)) else (if 0 ≤ x5 then (if x5 < (x0.length : Int) then (if 0 ≤ x4 then (if x4 < (x0.length : Int) then (if (rd x0 x5) = (rd x0 x4) then (if x3.length < 17592186044416 then (spec_l9Borders.l0 k x0 (x3 ++ [wrap64 (x4 + 1)]) (wrap64 (x4 + 1)) (wrap64 (x5 + 1))) else (none)) else (if x3.length < 17592186044416 then (spec_l9Borders.l0 k x0 (x3 ++ [x4]) x4 (wrap64 (x5 + 1))) else (none))) else (none)) else (none)) else (none)) else (none))
end
def spec_l9Borders.f (k : Nat) (l0 : List Int) : Option (List Int) := spec_l9Borders.l0 k l0 (([] : List Int)) 0 0
theorem spec_l9Borders.calls (k : Nat) (A0 : Option Addr) (c0 : Nat) (l0 : List Int) (r : List Int) (w : World) (hr0 : Kd.C (Kd.int .i64) w A0 l0.length l0) (hc0 : l0.length ≤ c0) (h : spec_l9Borders.f k l0 = some r) :
  Calls Tryz.prog 81 #[.slice A0 l0.length c0] w fun e w' => ∃ v0_ : Value, e = .returned (v0_) ∧ Kd.R (Kd.int .i64) 3 w' w.heap.size (fun _ => True) v0_ r ∧ Below w.heap.size w w' := by
 have HR0 := G.a hr0
 have HC0 := G.a hc0
 clear hr0 hc0
 have HB := G.a (Below.refl w.heap.size w)
 have H : (spec_l9Borders.l0 k l0 (([] : List Int)) 0 0) = some r := h
 clear h
 obtain ⟨y511, hy511⟩ : ∃ y_ : List Int, y_ = (([] : List Int)) := ⟨_, rfl⟩
 replace H : (spec_l9Borders.l0 k l0 y511 0 0) = some r := by first | (rw [hy511]; with_reducible exact H) | (have H2_ := (Option.bind_some _ _).symm.trans H; rw [hy511]; with_reducible exact H2_) | (have H2_ := (Option.bind_some _ _).symm.trans H; with_reducible exact H2_) | with_reducible exact H | (rw [hy511]; exact H) | exact H
 have Ny511 := G.a hy511
 clear hy511
 have H' := G.a H
 clear H
 go_enter Tryz.func81, Tryz.ntmps81
 go_wp2_with (first | ((with_reducible refine gate_dst (N := 6) rfl ?_); refine Kd.R_lit (Kd.int .i64) _ 3 ?hg (N := 6) ?hd (xs := ([] : List Int)) (inner := []) (ok := fun _ => True) (okp := fun _ => True) ?hr ?hp (fun _ hk => hk) trivial (Below.refl _ _) (Nat.le_refl _) (by simp) ?_; (case hd => rfl); (case hg => rfl); (case hr => first | (go_simp; done) | (go_simp; rfl)); (case hp => exact (Reps.none _ _)); intro v512 w2 ho3 hb hg_ hnew_; clear hg_ hnew_; (first | rw [← Ny511.out] at ho3 | (simp only [Int.reduceToNat] at ho3; rw [← Ny511.out] at ho3)); have n0_ := G.a (Kd.R_lower ho3 (below_size G.bel)); have n1_ := G.a (below_step G.bel hb); clear HB; have HO513 := n0_; have HB := n1_; clear n0_ n1_; clear hb ho3))
 repeat (go_quiet (first | ((with_reducible refine gate_dst (N := 6) rfl ?_); refine Kd.R_lit (Kd.int .i64) _ 3 ?hg (N := 6) ?hd (xs := ([] : List Int)) (inner := []) (ok := fun _ => True) (okp := fun _ => True) ?hr ?hp (fun _ hk => hk) trivial (Below.refl _ _) (Nat.le_refl _) (by simp) ?_; (case hd => rfl); (case hg => rfl); (case hr => first | (go_simp; done) | (go_simp; rfl)); (case hp => exact (Reps.none _ _)); intro v512 w2 ho3 hb hg_ hnew_; clear hg_ hnew_; (first | rw [← Ny511.out] at ho3 | (simp only [Int.reduceToNat] at ho3; rw [← Ny511.out] at ho3)); have n0_ := G.a (Kd.R_lower ho3 (below_size G.bel)); have n1_ := G.a (below_step G.bel hb); clear HB; have HO513 := n0_; have HB := n1_; clear n0_ n1_; clear hb ho3)); try go_wp2_with (first | ((with_reducible refine gate_dst (N := 6) rfl ?_); refine Kd.R_lit (Kd.int .i64) _ 3 ?hg (N := 6) ?hd (xs := ([] : List Int)) (inner := []) (ok := fun _ => True) (okp := fun _ => True) ?hr ?hp (fun _ hk => hk) trivial (Below.refl _ _) (Nat.le_refl _) (by simp) ?_; (case hd => rfl); (case hg => rfl); (case hr => first | (go_simp; done) | (go_simp; rfl)); (case hp => exact (Reps.none _ _)); intro v512 w2 ho3 hb hg_ hnew_; clear hg_ hnew_; (first | rw [← Ny511.out] at ho3 | (simp only [Int.reduceToNat] at ho3; rw [← Ny511.out] at ho3)); have n0_ := G.a (Kd.R_lower ho3 (below_size G.bel)); have n1_ := G.a (below_step G.bel hb); clear HB; have HO513 := n0_; have HB := n1_; clear n0_ n1_; clear hb ho3)))
 go_loopg [3, 4, 5] k (fun kq v3 v4 v5 w' => ∃ (x3_1 : List Int) (x4_1 : Int) (x5_1 : Int), v4 = .int .i64 x4_1 ∧ v5 = .int .i64 x5_1 ∧ Aside0 (spec_l9Borders.l0 kq l0 x3_1 x4_1 x5_1 = some r) ∧ Aside0 (kq ≤ k) ∧ Aside0 (Kd.R (Kd.int .i64) 3 w' w.heap.size (fun _ => True) v3 x3_1) ∧ Aside0 (Below w.heap.size w w'))
 case atStart => exact ⟨(y511), (0), (0), G.tr, G.tr, H', ⟨Nat.le_refl _⟩, ⟨G.kR HO513.out⟩, ⟨G.bel⟩⟩
 case round =>
  clear H'
  try clear p2
  obtain ⟨x3_1, x4_1, x5_1, rfl, rfl, HA, HK1, HO_3, HB⟩ := hrel
  cases gk with
  | zero => exact absurd HA.out (by simp [spec_l9Borders.l0])
  | succ k1 =>
   have H := HA.out
   clear HA
   simp only [spec_l9Borders.l0] at H
   by_cases c4 : x5_1 < (l0.length : Int)
   ·rw [if_pos c4] at H
    have c4b0 : decide (x5_1 < (l0.length : Int)) = true := decide_eq_true c4
    clear c4
    by_cases c5 : x5_1 = 0
    ·rw [if_pos c5] at H
     have c5b0 : (x5_1 == 0) = true := beq_iff_eq.mpr c5
     have c5b1 : (x5_1 != 0) = false := bne_eq_false_iff_eq.mpr c5
     clear c5
     by_cases c6 : x3_1.length < 17592186044416
     ·rw [if_pos c6] at H
      have LMc6 := G.a c6
      clear c6
      obtain ⟨y514, hy514⟩ : ∃ y_ : List Int, y_ = (x3_1 ++ [0]) := ⟨_, rfl⟩
      replace H : (spec_l9Borders.l0 k1 l0 y514 x4_1 (wrap64 (x5_1 + 1))) = some r := by first | (rw [hy514]; with_reducible exact H) | (have H2_ := (Option.bind_some _ _).symm.trans H; rw [hy514]; with_reducible exact H2_) | (have H2_ := (Option.bind_some _ _).symm.trans H; with_reducible exact H2_) | with_reducible exact H | (rw [hy514]; exact H) | exact H
      have Ny514 := G.a hy514
      clear hy514
      have H' := G.a H
      clear H
      go_wp2_with (first | ((with_reducible refine gate_builtin (b := .append) (xs := #[.tmp 15, .tmp 16]) rfl ?_); at_builtin; refine Kd.R_append (Kd.int .i64) (w0 := w) w.heap.size rfl (.tmp 15) (.tmp 16) 24 3 (.int .i64 0) 8 rfl Tryz.underlying24 info3 rfl (by decide) (by omega) u3 x3_1 0 [.int .i64 0] (fun _ => True) (fun _ => False) rfl rfl ?aP (fun _ hk => hk.elim) ?aF ?aO ?aB ?aS ?aL ?_; (case aP => exact rfl); (case aB => exact G.bel); (case aF => exact (fun _ _ => trivial)); (case aO => exact (G.kR HO_3.out)); (case aS => exact (below_size G.bel)); (case aL => have := LMc6.out; omega); intro v515 w7 ho hb hg hat; rw [← Ny514.out] at ho; have n0_ := G.a (hb); have n1_ := G.a (ho); clear HB; clear HO_3; have HB := n0_; have HO516 := n1_; clear n0_ n1_; clear ho hb hg hat))
      repeat (go_quiet (first | ((with_reducible refine gate_builtin (b := .append) (xs := #[.tmp 15, .tmp 16]) rfl ?_); at_builtin; refine Kd.R_append (Kd.int .i64) (w0 := w) w.heap.size rfl (.tmp 15) (.tmp 16) 24 3 (.int .i64 0) 8 rfl Tryz.underlying24 info3 rfl (by decide) (by omega) u3 x3_1 0 [.int .i64 0] (fun _ => True) (fun _ => False) rfl rfl ?aP (fun _ hk => hk.elim) ?aF ?aO ?aB ?aS ?aL ?_; (case aP => exact rfl); (case aB => exact G.bel); (case aF => exact (fun _ _ => trivial)); (case aO => exact (G.kR HO_3.out)); (case aS => exact (below_size G.bel)); (case aL => have := LMc6.out; omega); intro v515 w7 ho hb hg hat; rw [← Ny514.out] at ho; have n0_ := G.a (hb); have n1_ := G.a (ho); clear HB; clear HO_3; have HB := n0_; have HO516 := n1_; clear n0_ n1_; clear ho hb hg hat)); try go_wp2_with (first | ((with_reducible refine gate_builtin (b := .append) (xs := #[.tmp 15, .tmp 16]) rfl ?_); at_builtin; refine Kd.R_append (Kd.int .i64) (w0 := w) w.heap.size rfl (.tmp 15) (.tmp 16) 24 3 (.int .i64 0) 8 rfl Tryz.underlying24 info3 rfl (by decide) (by omega) u3 x3_1 0 [.int .i64 0] (fun _ => True) (fun _ => False) rfl rfl ?aP (fun _ hk => hk.elim) ?aF ?aO ?aB ?aS ?aL ?_; (case aP => exact rfl); (case aB => exact G.bel); (case aF => exact (fun _ _ => trivial)); (case aO => exact (G.kR HO_3.out)); (case aS => exact (below_size G.bel)); (case aL => have := LMc6.out; omega); intro v515 w7 ho hb hg hat; rw [← Ny514.out] at ho; have n0_ := G.a (hb); have n1_ := G.a (ho); clear HB; clear HO_3; have HB := n0_; have HO516 := n1_; clear n0_ n1_; clear ho hb hg hat)))
      go_roundg k1
      case measure => have := HK1.out; omega
      case rel => exact ⟨(y514), (x4_1), (wrap64 (x5_1 + 1)), G.tr, G.tr, H', ⟨by have := HK1.out; omega⟩, ⟨G.kR HO516.out⟩, ⟨G.bel⟩⟩
     ·rw [if_neg c6] at H
      exact absurd H (by simp)
    ·rw [if_neg c5] at H
     have c5b0 : (x5_1 == 0) = false := beq_eq_false_iff_ne.mpr c5
     have c5b1 : (x5_1 != 0) = true := bne_iff_ne.mpr c5
     have H' := G.a H
     clear H
     go_wp2
     repeat (go_quiet (fail); try go_wp2)
     go_loopg [4] k1 (fun kq v4 w' => ∃ (x4_2 : Int), v4 = .int .i64 x4_2 ∧ Aside0 (spec_l9Borders.l1 kq l0 x3_1 x4_2 x5_1 = some r) ∧ Aside0 (kq ≤ k1) ∧ Aside0 (Kd.R (Kd.int .i64) 3 w' w.heap.size (fun _ => True) u3 x3_1) ∧ Aside0 (Below w.heap.size w w'))
     case atStart => exact ⟨(x4_1), G.tr, H', ⟨Nat.le_refl _⟩, ⟨G.kR HO_3.out⟩, ⟨G.bel⟩⟩
     case round =>
      clear H'
      try clear p2; try clear c4; try clear c4b0; try clear c5; try clear c5b0; try clear c5b1; try clear c6; try clear p6; try clear p2
      obtain ⟨x4_2, rfl, HA, HK2, HO_3, HB⟩ := hrel
      cases gk with
      | zero => exact absurd HA.out (by simp [spec_l9Borders.l1])
      | succ k2 =>
       have H := HA.out
       clear HA
       simp only [spec_l9Borders.l1] at H
       by_cases c8 : x4_2 > 0
       ·rw [if_pos c8] at H
        have c8b0 : decide (0 < x4_2) = true := decide_eq_true c8
        clear c8
        by_cases c9 : 0 ≤ x5_1
        ·rw [if_pos c9] at H
         have c9b0 : decide (0 ≤ x5_1) = true := decide_eq_true c9
         clear c9
         by_cases c10 : x5_1 < (l0.length : Int)
         ·rw [if_pos c10] at H
          have c10b0 : decide (x5_1 < (l0.length : Int)) = true := decide_eq_true c10
          clear c10
          by_cases c11 : 0 ≤ x4_2
          ·rw [if_pos c11] at H
           have c11b0 : decide (0 ≤ x4_2) = true := decide_eq_true c11
           clear c11
           by_cases c12 : x4_2 < (l0.length : Int)
           ·rw [if_pos c12] at H
            have c12b0 : decide (x4_2 < (l0.length : Int)) = true := decide_eq_true c12
            clear c12
            by_cases c13 : (rd l0 x5_1) = (rd l0 x4_2)
            ·rw [if_pos c13] at H
             have c13b0 : ((rd l0 x5_1) == (rd l0 x4_2)) = true := beq_iff_eq.mpr c13
             have c13b1 : ((rd l0 x5_1) != (rd l0 x4_2)) = false := bne_eq_false_iff_eq.mpr c13
             clear c13
             by_cases c14 : x3_1.length < 17592186044416
             ·rw [if_pos c14] at H
              have LMc14 := G.a c14
              clear c14
              obtain ⟨y521, hy521⟩ : ∃ y_ : List Int, y_ = (x3_1 ++ [wrap64 (x4_2 + 1)]) := ⟨_, rfl⟩
              replace H : (spec_l9Borders.l0 k2 l0 y521 (wrap64 (x4_2 + 1)) (wrap64 (x5_1 + 1))) = some r := by first | (rw [hy521]; with_reducible exact H) | (have H2_ := (Option.bind_some _ _).symm.trans H; rw [hy521]; with_reducible exact H2_) | (have H2_ := (Option.bind_some _ _).symm.trans H; with_reducible exact H2_) | with_reducible exact H | (rw [hy521]; exact H) | exact H
              have Ny521 := G.a hy521
              clear hy521
              have H' := G.a H
              clear H
              have p517 : 0 ≤ (x5_1 : Int) := G.odt
              have q517 : x5_1 < (l0.length : Int) := G.odt
              obtain ⟨ad517, e517, hx517_0⟩ := Kd.at_int HR0.out x5_1 p517 q517
              cases e517
              replace hx517_0 := (HB.out.cell (World.block_lt_of_cell? w _ hx517_0)).trans hx517_0
              replace p517 := eq_true p517
              replace q517 := eq_true q517
              have p518 : 0 ≤ (x4_2 : Int) := G.odt
              have q518 : x4_2 < (l0.length : Int) := G.odt
              obtain ⟨ad518, e518, hx518_0⟩ := Kd.at_int HR0.out x4_2 p518 q518
              obtain rfl : ad517 = ad518 := (by injection e518)
              replace hx518_0 := (HB.out.cell (World.block_lt_of_cell? w _ hx518_0)).trans hx518_0
              replace p518 := eq_true p518
              replace q518 := eq_true q518
              have p519 : 0 ≤ (x5_1 : Int) := G.odt
              have q519 : x5_1 < (l0.length : Int) := G.odt
              obtain ⟨ad519, e519, hx519_0⟩ := Kd.at_int HR0.out x5_1 p519 q519
              obtain rfl : ad517 = ad519 := (by injection e519)
              replace hx519_0 := (HB.out.cell (World.block_lt_of_cell? w _ hx519_0)).trans hx519_0
              replace p519 := eq_true p519
              replace q519 := eq_true q519
              have p520 : 0 ≤ (x4_2 : Int) := G.odt
              have q520 : x4_2 < (l0.length : Int) := G.odt
              obtain ⟨ad520, e520, hx520_0⟩ := Kd.at_int HR0.out x4_2 p520 q520
              obtain rfl : ad517 = ad520 := (by injection e520)
              replace hx520_0 := (HB.out.cell (World.block_lt_of_cell? w _ hx520_0)).trans hx520_0
              replace p520 := eq_true p520
              replace q520 := eq_true q520
              go_wp2_with (first | ((with_reducible refine gate_builtin (b := .append) (xs := #[.tmp 47, .tmp 49]) rfl ?_); at_builtin; refine Kd.R_append (Kd.int .i64) (w0 := w) w.heap.size rfl (.tmp 47) (.tmp 49) 24 3 (.int .i64 0) 8 rfl Tryz.underlying24 info3 rfl (by decide) (by omega) u3 x3_1 (wrap64 (x4_2 + 1)) [.int .i64 (wrap64 (x4_2 + 1))] (fun _ => True) (fun _ => False) rfl rfl ?aP (fun _ hk => hk.elim) ?aF ?aO ?aB ?aS ?aL ?_; (case aP => exact rfl); (case aB => exact G.bel); (case aF => exact (fun _ _ => trivial)); (case aO => exact (G.kR HO_3.out)); (case aS => exact (below_size G.bel)); (case aL => have := LMc14.out; omega); intro v522 w15 ho hb hg hat; rw [← Ny521.out] at ho; have n0_ := G.a (hb); have n1_ := G.a (ho); clear HB; clear HO_3; have HB := n0_; have HO523 := n1_; clear n0_ n1_; clear ho hb hg hat))
              repeat (go_quiet (first | ((with_reducible refine gate_builtin (b := .append) (xs := #[.tmp 47, .tmp 49]) rfl ?_); at_builtin; refine Kd.R_append (Kd.int .i64) (w0 := w) w.heap.size rfl (.tmp 47) (.tmp 49) 24 3 (.int .i64 0) 8 rfl Tryz.underlying24 info3 rfl (by decide) (by omega) u3 x3_1 (wrap64 (x4_2 + 1)) [.int .i64 (wrap64 (x4_2 + 1))] (fun _ => True) (fun _ => False) rfl rfl ?aP (fun _ hk => hk.elim) ?aF ?aO ?aB ?aS ?aL ?_; (case aP => exact rfl); (case aB => exact G.bel); (case aF => exact (fun _ _ => trivial)); (case aO => exact (G.kR HO_3.out)); (case aS => exact (below_size G.bel)); (case aL => have := LMc14.out; omega); intro v522 w15 ho hb hg hat; rw [← Ny521.out] at ho; have n0_ := G.a (hb); have n1_ := G.a (ho); clear HB; clear HO_3; have HB := n0_; have HO523 := n1_; clear n0_ n1_; clear ho hb hg hat)); try go_wp2_with (first | ((with_reducible refine gate_builtin (b := .append) (xs := #[.tmp 47, .tmp 49]) rfl ?_); at_builtin; refine Kd.R_append (Kd.int .i64) (w0 := w) w.heap.size rfl (.tmp 47) (.tmp 49) 24 3 (.int .i64 0) 8 rfl Tryz.underlying24 info3 rfl (by decide) (by omega) u3 x3_1 (wrap64 (x4_2 + 1)) [.int .i64 (wrap64 (x4_2 + 1))] (fun _ => True) (fun _ => False) rfl rfl ?aP (fun _ hk => hk.elim) ?aF ?aO ?aB ?aS ?aL ?_; (case aP => exact rfl); (case aB => exact G.bel); (case aF => exact (fun _ _ => trivial)); (case aO => exact (G.kR HO_3.out)); (case aS => exact (below_size G.bel)); (case aL => have := LMc14.out; omega); intro v522 w15 ho hb hg hat; rw [← Ny521.out] at ho; have n0_ := G.a (hb); have n1_ := G.a (ho); clear HB; clear HO_3; have HB := n0_; have HO523 := n1_; clear n0_ n1_; clear ho hb hg hat)))
              go_roundg k2
              case measure => have := HK1.out; have := HK2.out; omega
              case rel => exact ⟨(y521), (wrap64 (x4_2 + 1)), (wrap64 (x5_1 + 1)), G.tr, G.tr, H', ⟨by have := HK1.out; have := HK2.out; omega⟩, ⟨G.kR HO523.out⟩, ⟨G.bel⟩⟩
             ·rw [if_neg c14] at H
              exact absurd H (by simp)
            ·rw [if_neg c13] at H
             have c13b0 : ((rd l0 x5_1) == (rd l0 x4_2)) = false := beq_eq_false_iff_ne.mpr c13
             have c13b1 : ((rd l0 x5_1) != (rd l0 x4_2)) = true := bne_iff_ne.mpr c13
             obtain ⟨ji16, hji16⟩ : ∃ j_ : Int, (wrap64 (x4_2 - 1)) = j_ := ⟨_, rfl⟩
             replace H : (if 0 ≤ (ji16) then (if (ji16) < (x3_1.length : Int) then (spec_l9Borders.l1 k2 l0 x3_1 (rd x3_1 (ji16)) x5_1) else (none)) else (none)) = some r := by first | (rw [hji16] at H; exact H) | (simp only [hji16] at H ⊢; exact H)
             have hji16w : (IntKind.i64.wrap (x4_2 - 1)) = ji16 := (i64_w _).trans hji16
             by_cases c17 : 0 ≤ (ji16)
             ·rw [if_pos c17] at H
              have c17b0 : decide (0 ≤ (ji16)) = true := decide_eq_true c17
              clear c17
              by_cases c18 : (ji16) < (x3_1.length : Int)
              ·rw [if_pos c18] at H
               have c18b0 : decide ((ji16) < (x3_1.length : Int)) = true := decide_eq_true c18
               clear c18
               have H' := G.a H
               clear H
               have p517 : 0 ≤ (x5_1 : Int) := G.odt
               have q517 : x5_1 < (l0.length : Int) := G.odt
               obtain ⟨ad517, e517, hx517_0⟩ := Kd.at_int HR0.out x5_1 p517 q517
               cases e517
               replace hx517_0 := (HB.out.cell (World.block_lt_of_cell? w _ hx517_0)).trans hx517_0
               replace p517 := eq_true p517
               replace q517 := eq_true q517
               have p518 : 0 ≤ (x4_2 : Int) := G.odt
               have q518 : x4_2 < (l0.length : Int) := G.odt
               obtain ⟨ad518, e518, hx518_0⟩ := Kd.at_int HR0.out x4_2 p518 q518
               obtain rfl : ad517 = ad518 := (by injection e518)
               replace hx518_0 := (HB.out.cell (World.block_lt_of_cell? w _ hx518_0)).trans hx518_0
               replace p518 := eq_true p518
               replace q518 := eq_true q518
               obtain ⟨Ao19, co19, eo19⟩ := Kd.R_slice HO_3.out
               subst eo19
               have p524 : 0 ≤ ((ji16) : Int) := G.odt
               have q524 : (ji16) < (x3_1.length : Int) := G.odt
               obtain ⟨ad524, e524, hx524_0⟩ := Kd.at_int (Kd.R_reads' HO_3.out).2.2 (ji16) p524 q524
               cases e524
               replace p524 := eq_true p524
               replace q524 := eq_true q524
               go_wp2
               repeat (go_quiet (fail); try go_wp2)
               go_roundg k2
               case measure => have := HK1.out; have := HK2.out; omega
               case rel => exact ⟨(rd x3_1 (ji16)), (by first | rfl | (simp; done) | (simp only [← hji16] <;> (first | rfl | simp)) | (simp [*]; done)), H', ⟨by have := HK1.out; have := HK2.out; omega⟩, ⟨G.kR HO_3.out⟩, ⟨G.bel⟩⟩
              ·rw [if_neg c18] at H
               exact absurd H (by simp)
             ·rw [if_neg c17] at H
              exact absurd H (by simp)
           ·rw [if_neg c12] at H
            exact absurd H (by simp)
          ·rw [if_neg c11] at H
           exact absurd H (by simp)
         ·rw [if_neg c10] at H
          exact absurd H (by simp)
        ·rw [if_neg c9] at H
         exact absurd H (by simp)
       ·rw [if_neg c8] at H
        have c8b0 : decide (0 < x4_2) = false := decide_eq_false c8
        clear c8
        by_cases c20 : 0 ≤ x5_1
        ·rw [if_pos c20] at H
         have c20b0 : decide (0 ≤ x5_1) = true := decide_eq_true c20
         clear c20
         by_cases c21 : x5_1 < (l0.length : Int)
         ·rw [if_pos c21] at H
          have c21b0 : decide (x5_1 < (l0.length : Int)) = true := decide_eq_true c21
          clear c21
          by_cases c22 : 0 ≤ x4_2
          ·rw [if_pos c22] at H
           have c22b0 : decide (0 ≤ x4_2) = true := decide_eq_true c22
           clear c22
           by_cases c23 : x4_2 < (l0.length : Int)
           ·rw [if_pos c23] at H
            have c23b0 : decide (x4_2 < (l0.length : Int)) = true := decide_eq_true c23
            clear c23
            by_cases c24 : (rd l0 x5_1) = (rd l0 x4_2)
            ·rw [if_pos c24] at H
             have c24b0 : ((rd l0 x5_1) == (rd l0 x4_2)) = true := beq_iff_eq.mpr c24
             have c24b1 : ((rd l0 x5_1) != (rd l0 x4_2)) = false := bne_eq_false_iff_eq.mpr c24
             clear c24
             by_cases c25 : x3_1.length < 17592186044416
             ·rw [if_pos c25] at H
              have LMc25 := G.a c25
              clear c25
              obtain ⟨y527, hy527⟩ : ∃ y_ : List Int, y_ = (x3_1 ++ [wrap64 (x4_2 + 1)]) := ⟨_, rfl⟩
              replace H : (spec_l9Borders.l0 k2 l0 y527 (wrap64 (x4_2 + 1)) (wrap64 (x5_1 + 1))) = some r := by first | (rw [hy527]; with_reducible exact H) | (have H2_ := (Option.bind_some _ _).symm.trans H; rw [hy527]; with_reducible exact H2_) | (have H2_ := (Option.bind_some _ _).symm.trans H; with_reducible exact H2_) | with_reducible exact H | (rw [hy527]; exact H) | exact H
              have Ny527 := G.a hy527
              clear hy527
              have H' := G.a H
              clear H
              have p525 : 0 ≤ (x5_1 : Int) := G.odt
              have q525 : x5_1 < (l0.length : Int) := G.odt
              obtain ⟨ad525, e525, hx525_0⟩ := Kd.at_int HR0.out x5_1 p525 q525
              cases e525
              replace hx525_0 := (HB.out.cell (World.block_lt_of_cell? w _ hx525_0)).trans hx525_0
              replace p525 := eq_true p525
              replace q525 := eq_true q525
              have p526 : 0 ≤ (x4_2 : Int) := G.odt
              have q526 : x4_2 < (l0.length : Int) := G.odt
              obtain ⟨ad526, e526, hx526_0⟩ := Kd.at_int HR0.out x4_2 p526 q526
              obtain rfl : ad525 = ad526 := (by injection e526)
              replace hx526_0 := (HB.out.cell (World.block_lt_of_cell? w _ hx526_0)).trans hx526_0
              replace p526 := eq_true p526
              replace q526 := eq_true q526
              go_wp2_with (first | ((with_reducible refine gate_builtin (b := .append) (xs := #[.tmp 47, .tmp 49]) rfl ?_); at_builtin; refine Kd.R_append (Kd.int .i64) (w0 := w) w.heap.size rfl (.tmp 47) (.tmp 49) 24 3 (.int .i64 0) 8 rfl Tryz.underlying24 info3 rfl (by decide) (by omega) u3 x3_1 (wrap64 (x4_2 + 1)) [.int .i64 (wrap64 (x4_2 + 1))] (fun _ => True) (fun _ => False) rfl rfl ?aP (fun _ hk => hk.elim) ?aF ?aO ?aB ?aS ?aL ?_; (case aP => exact rfl); (case aB => exact G.bel); (case aF => exact (fun _ _ => trivial)); (case aO => exact (G.kR HO_3.out)); (case aS => exact (below_size G.bel)); (case aL => have := LMc25.out; omega); intro v528 w26 ho hb hg hat; rw [← Ny527.out] at ho; have n0_ := G.a (hb); have n1_ := G.a (ho); clear HB; clear HO_3; have HB := n0_; have HO529 := n1_; clear n0_ n1_; clear ho hb hg hat))
              repeat (go_quiet (first | ((with_reducible refine gate_builtin (b := .append) (xs := #[.tmp 47, .tmp 49]) rfl ?_); at_builtin; refine Kd.R_append (Kd.int .i64) (w0 := w) w.heap.size rfl (.tmp 47) (.tmp 49) 24 3 (.int .i64 0) 8 rfl Tryz.underlying24 info3 rfl (by decide) (by omega) u3 x3_1 (wrap64 (x4_2 + 1)) [.int .i64 (wrap64 (x4_2 + 1))] (fun _ => True) (fun _ => False) rfl rfl ?aP (fun _ hk => hk.elim) ?aF ?aO ?aB ?aS ?aL ?_; (case aP => exact rfl); (case aB => exact G.bel); (case aF => exact (fun _ _ => trivial)); (case aO => exact (G.kR HO_3.out)); (case aS => exact (below_size G.bel)); (case aL => have := LMc25.out; omega); intro v528 w26 ho hb hg hat; rw [← Ny527.out] at ho; have n0_ := G.a (hb); have n1_ := G.a (ho); clear HB; clear HO_3; have HB := n0_; have HO529 := n1_; clear n0_ n1_; clear ho hb hg hat)); try go_wp2_with (first | ((with_reducible refine gate_builtin (b := .append) (xs := #[.tmp 47, .tmp 49]) rfl ?_); at_builtin; refine Kd.R_append (Kd.int .i64) (w0 := w) w.heap.size rfl (.tmp 47) (.tmp 49) 24 3 (.int .i64 0) 8 rfl Tryz.underlying24 info3 rfl (by decide) (by omega) u3 x3_1 (wrap64 (x4_2 + 1)) [.int .i64 (wrap64 (x4_2 + 1))] (fun _ => True) (fun _ => False) rfl rfl ?aP (fun _ hk => hk.elim) ?aF ?aO ?aB ?aS ?aL ?_; (case aP => exact rfl); (case aB => exact G.bel); (case aF => exact (fun _ _ => trivial)); (case aO => exact (G.kR HO_3.out)); (case aS => exact (below_size G.bel)); (case aL => have := LMc25.out; omega); intro v528 w26 ho hb hg hat; rw [← Ny527.out] at ho; have n0_ := G.a (hb); have n1_ := G.a (ho); clear HB; clear HO_3; have HB := n0_; have HO529 := n1_; clear n0_ n1_; clear ho hb hg hat)))
              go_roundg k2
              case measure => have := HK1.out; have := HK2.out; omega
              case rel => exact ⟨(y527), (wrap64 (x4_2 + 1)), (wrap64 (x5_1 + 1)), G.tr, G.tr, H', ⟨by have := HK1.out; have := HK2.out; omega⟩, ⟨G.kR HO529.out⟩, ⟨G.bel⟩⟩
             ·rw [if_neg c25] at H
              exact absurd H (by simp)
            ·rw [if_neg c24] at H
             have c24b0 : ((rd l0 x5_1) == (rd l0 x4_2)) = false := beq_eq_false_iff_ne.mpr c24
             have c24b1 : ((rd l0 x5_1) != (rd l0 x4_2)) = true := bne_iff_ne.mpr c24
             by_cases c27 : x3_1.length < 17592186044416
             ·rw [if_pos c27] at H
              have LMc27 := G.a c27
              clear c27
              obtain ⟨y530, hy530⟩ : ∃ y_ : List Int, y_ = (x3_1 ++ [x4_2]) := ⟨_, rfl⟩
              replace H : (spec_l9Borders.l0 k2 l0 y530 x4_2 (wrap64 (x5_1 + 1))) = some r := by first | (rw [hy530]; with_reducible exact H) | (have H2_ := (Option.bind_some _ _).symm.trans H; rw [hy530]; with_reducible exact H2_) | (have H2_ := (Option.bind_some _ _).symm.trans H; with_reducible exact H2_) | with_reducible exact H | (rw [hy530]; exact H) | exact H
              have Ny530 := G.a hy530
              clear hy530
              have H' := G.a H
              clear H
              have p525 : 0 ≤ (x5_1 : Int) := G.odt
              have q525 : x5_1 < (l0.length : Int) := G.odt
              obtain ⟨ad525, e525, hx525_0⟩ := Kd.at_int HR0.out x5_1 p525 q525
              cases e525
              replace hx525_0 := (HB.out.cell (World.block_lt_of_cell? w _ hx525_0)).trans hx525_0
              replace p525 := eq_true p525
              replace q525 := eq_true q525
              have p526 : 0 ≤ (x4_2 : Int) := G.odt
              have q526 : x4_2 < (l0.length : Int) := G.odt
              obtain ⟨ad526, e526, hx526_0⟩ := Kd.at_int HR0.out x4_2 p526 q526
              obtain rfl : ad525 = ad526 := (by injection e526)
              replace hx526_0 := (HB.out.cell (World.block_lt_of_cell? w _ hx526_0)).trans hx526_0
              replace p526 := eq_true p526
              replace q526 := eq_true q526
              go_wp2_with (first | ((with_reducible refine gate_builtin (b := .append) (xs := #[.tmp 47, .tmp 49]) rfl ?_); at_builtin; refine Kd.R_append (Kd.int .i64) (w0 := w) w.heap.size rfl (.tmp 47) (.tmp 49) 24 3 (.int .i64 0) 8 rfl Tryz.underlying24 info3 rfl (by decide) (by omega) u3 x3_1 x4_2 [.int .i64 x4_2] (fun _ => True) (fun _ => False) rfl rfl ?aP (fun _ hk => hk.elim) ?aF ?aO ?aB ?aS ?aL ?_; (case aP => exact rfl); (case aB => exact G.bel); (case aF => exact (fun _ _ => trivial)); (case aO => exact (G.kR HO_3.out)); (case aS => exact (below_size G.bel)); (case aL => have := LMc27.out; omega); intro v531 w28 ho hb hg hat; rw [← Ny530.out] at ho; have n0_ := G.a (hb); have n1_ := G.a (ho); clear HB; clear HO_3; have HB := n0_; have HO532 := n1_; clear n0_ n1_; clear ho hb hg hat))
              repeat (go_quiet (first | ((with_reducible refine gate_builtin (b := .append) (xs := #[.tmp 47, .tmp 49]) rfl ?_); at_builtin; refine Kd.R_append (Kd.int .i64) (w0 := w) w.heap.size rfl (.tmp 47) (.tmp 49) 24 3 (.int .i64 0) 8 rfl Tryz.underlying24 info3 rfl (by decide) (by omega) u3 x3_1 x4_2 [.int .i64 x4_2] (fun _ => True) (fun _ => False) rfl rfl ?aP (fun _ hk => hk.elim) ?aF ?aO ?aB ?aS ?aL ?_; (case aP => exact rfl); (case aB => exact G.bel); (case aF => exact (fun _ _ => trivial)); (case aO => exact (G.kR HO_3.out)); (case aS => exact (below_size G.bel)); (case aL => have := LMc27.out; omega); intro v531 w28 ho hb hg hat; rw [← Ny530.out] at ho; have n0_ := G.a (hb); have n1_ := G.a (ho); clear HB; clear HO_3; have HB := n0_; have HO532 := n1_; clear n0_ n1_; clear ho hb hg hat)); try go_wp2_with (first | ((with_reducible refine gate_builtin (b := .append) (xs := #[.tmp 47, .tmp 49]) rfl ?_); at_builtin; refine Kd.R_append (Kd.int .i64) (w0 := w) w.heap.size rfl (.tmp 47) (.tmp 49) 24 3 (.int .i64 0) 8 rfl Tryz.underlying24 info3 rfl (by decide) (by omega) u3 x3_1 x4_2 [.int .i64 x4_2] (fun _ => True) (fun _ => False) rfl rfl ?aP (fun _ hk => hk.elim) ?aF ?aO ?aB ?aS ?aL ?_; (case aP => exact rfl); (case aB => exact G.bel); (case aF => exact (fun _ _ => trivial)); (case aO => exact (G.kR HO_3.out)); (case aS => exact (below_size G.bel)); (case aL => have := LMc27.out; omega); intro v531 w28 ho hb hg hat; rw [← Ny530.out] at ho; have n0_ := G.a (hb); have n1_ := G.a (ho); clear HB; clear HO_3; have HB := n0_; have HO532 := n1_; clear n0_ n1_; clear ho hb hg hat)))
              go_roundg k2
              case measure => have := HK1.out; have := HK2.out; omega
              case rel => exact ⟨(y530), (x4_2), (wrap64 (x5_1 + 1)), G.tr, G.tr, H', ⟨by have := HK1.out; have := HK2.out; omega⟩, ⟨G.kR HO532.out⟩, ⟨G.bel⟩⟩
             ·rw [if_neg c27] at H
              exact absurd H (by simp)
           ·rw [if_neg c23] at H
            exact absurd H (by simp)
          ·rw [if_neg c22] at H
           exact absurd H (by simp)
         ·rw [if_neg c21] at H
          exact absurd H (by simp)
        ·rw [if_neg c20] at H
         exact absurd H (by simp)
   ·rw [if_neg c4] at H
    have c4b0 : decide (x5_1 < (l0.length : Int)) = false := decide_eq_false c4
    clear c4
    obtain rfl := Option.some.inj H
    go_wp2
    repeat (go_quiet (fail); try go_wp2)
    go_ret
    exact ⟨_, G.er, G.kR HO_3.out, G.bel⟩
end Go.Proofs.YtolikggioekalabGreat.PFnRuns
