/- The given statement of FnExactSameRelation: at every input the law answers true, and its arguments read as before. No condition. -/
import Derived.Test.YtaolbdkehlobiaaRows
import Derived.Test.YtaolbdkehlobiaaMFnExactSameRelationx5
import Derived.Test.YtaolbdkehlobiaaG0
import Derived.Test.YtaolbdkehlobiaaGArgs
import Derived.Test.YtaolbdkehlobiaaPureFnExactSameRelation
import Derived.WalkKit
import Derived.ProofKit
import Derived.OpenShut
import Derived.ChangeOld
import Derived.Below
import Derived.SizedLaws
import Derived.Lib.SmallJoins
namespace Go.Proofs.Ytaolbdkehlobiaa.fnExactSameRelation
open Go.ChangeShapes Go.WideShapes Go.ChangeAt Go.RowKit Go.Joins Go.Proofs.Ytaolbdkehlobiaa.PFnExactSameRelation Go.Proofs.YtaolbdkehlobiaaW.PrintWords Go.Proofs.YtaolbdkehlobiaaW.PrintMore Go.Proofs.Ytaolbdkehlobiaa.G
set_option linter.unusedVariables false

theorem own : ownKnob Try.prog.godebug = none := by kernel_rfl
theorem laidOut : laidOutB Try.prog = true := by kernel_rfl
theorem cells0 : Try.prog.cellsOf 30 = 4 := by kernel_rfl
theorem cells1 : Try.prog.cellsOf 30 = 4 := by kernel_rfl
set_option maxRecDepth 100000 in
set_option maxHeartbeats 4000000 in
theorem lifted (os : Os) (started : os.Started) (H : Type) (enc : TypeId × Value → H) :
    ReturnsInHanded {} Try.checked os 4 .any (Rows.fnExactSameRelationSpec.pre6 enc Try.prog Try.f4 Rows.fnExactSameRelationRow.domain false) (Rows.fnExactSameRelationSpec.post enc Try.prog Try.f4 false true false false) := by
  refine returnsInHanded_of_change_sized (C := Try.checked) own started (by kernel_rfl) Try.func4
    (ChangeSpec.witness6 (enc := enc) (C := Try.checked) false ⟨#[], #[.agg #[.int .i64 0, .int .i64 0, .slice none 0 0, .slice none 0 0], .agg #[.int .i64 0, .int .i64 0, .slice none 0 0, .slice none 0 0]], []⟩ 8 (by kernel_rfl) (by kernel_rfl) (by kernel_rfl) (by kernel_rfl)) ?_
  intro W base args ds gs before hval0 hW hcnd hsz0 _
  have hval : ∀ (j : Nat) t v, Try.f4.params[j]? = some t → args[j]? = some v → Value.okWide Try.prog W .any base t v := hval0
  have hW' := hW
  obtain ⟨p, q, hA0, hV, rfl, hfz, hnd⟩ := hW
  have hA : DataW.TrodAll enc Try.prog W 0 (fun _ => true) true Try.f4.params.toList args.toList ds p := hA0
  rw [Try.params4] at hA hval
  obtain ⟨v0, vs0, d0, ds0, p0, q0, hargs, rfl, rfl, h0, r0⟩ := trodAll_cons hA
  obtain ⟨v1, vs1, d1, ds1, p1, q1, rfl, rfl, rfl, h1, r1⟩ := trodAll_cons r0
  obtain ⟨rfl, rfl, rfl⟩ := trodAll_nil r1
  obtain rfl : args = #[v0, v1] := by cases args; simp_all
  obtain ⟨rfl, rfl⟩ := trodVars_none hV
  have k0 := h0
  have lt0 : ∀ x ∈ p0, x.block < W.heap.size := by obtain ⟨m, hm⟩ := k0; exact DataW.trod_lt m _ _ _ hm
  have k1 := h1
  have lt1 : ∀ x ∈ p1, x.block < W.heap.size := by obtain ⟨m, hm⟩ := k1; exact DataW.trod_lt m _ _ _ hm
  obtain ⟨c0_0, c0_1, c0_2, c0_3, y0_0, y0_1, y0_2, y0_3, m0, rfl, rfl, rfl, hy0_0, hy0_1, hy0_2, hy0_3⟩ := open_agg4 Try.underlying30 (by kernel_rfl) cells0 (hval 0 30 v0 rfl rfl) h0
  obtain ⟨x0_0, e0_0, rfl, wx0_0⟩ := DataW.trod_int Try.underlying3 hy0_0
  simp only [List.cons.injEq, and_true] at e0_0
  subst e0_0
  obtain ⟨x0_1, e0_1, rfl, wx0_1⟩ := DataW.trod_int Try.underlying3 hy0_1
  simp only [List.cons.injEq, and_true] at e0_1
  subst e0_1
  obtain ⟨A0_2, n0_2, l0_2, e0_2, hn0_2, hm0_2, hC0_2, hr0_2, hw0_2⟩ := rows_C Try.underlying22 Try.underlying42 Try.underlying3 (by kernel_rfl) (by kernel_rfl) hy0_2
  subst e0_2
  obtain ⟨A0_3, n0_3, l0_3, e0_3, hn0_3, hm0_3, hC0_3⟩ := bools_C Try.underlying28 Try.underlying4 (by kernel_rfl) hy0_3
  subst e0_3
  obtain ⟨c1_0, c1_1, c1_2, c1_3, y1_0, y1_1, y1_2, y1_3, m1, rfl, rfl, rfl, hy1_0, hy1_1, hy1_2, hy1_3⟩ := open_agg4 Try.underlying30 (by kernel_rfl) cells1 (hval 1 30 v1 rfl rfl) h1
  obtain ⟨x1_0, e1_0, rfl, wx1_0⟩ := DataW.trod_int Try.underlying3 hy1_0
  simp only [List.cons.injEq, and_true] at e1_0
  subst e1_0
  obtain ⟨x1_1, e1_1, rfl, wx1_1⟩ := DataW.trod_int Try.underlying3 hy1_1
  simp only [List.cons.injEq, and_true] at e1_1
  subst e1_1
  obtain ⟨A1_2, n1_2, l1_2, e1_2, hn1_2, hm1_2, hC1_2, hr1_2, hw1_2⟩ := rows_C Try.underlying22 Try.underlying42 Try.underlying3 (by kernel_rfl) (by kernel_rfl) hy1_2
  subst e1_2
  obtain ⟨A1_3, n1_3, l1_3, e1_3, hn1_3, hm1_3, hC1_3⟩ := bools_C Try.underlying28 Try.underlying4 (by kernel_rfl) hy1_3
  subst e1_3
  clear hA0 hval0 hsz0
  obtain ⟨k, hk⟩ := Pure.FnExactSameRelation x0_0 x0_1 l0_2 l0_3 x1_0 x1_1 l1_2 l1_3 hm0_2 hr0_2 hm0_3 hm1_2 hr1_2 hm1_3
  refine (laws_FnExactSameRelation.calls k x0_0 x0_1 A0_2 n0_2 l0_2 A0_3 n0_3 l0_3 x1_0 x1_1 A1_2 n1_2 l1_2 A1_3 n1_3 l1_3 true W hC0_2 hn0_2 hC0_3 hn0_3 hC1_2 hn1_2 hC1_3 hn1_3 hk).mono fun e W' ⟨he, bel⟩ => ?_
  subst he
  exact ⟨_, rfl, _, _, _, [], _, [], hW', trodAll_mk1 (shut_bool Try.underlying4 _), (trodAll_cons_mk (Below.trod laidOut (by kernel_rfl) (of_decide_eq_true (by kernel_rfl)) k0 bel lt0) (trodAll_cons_mk (Below.trod laidOut (by kernel_rfl) (of_decide_eq_true (by kernel_rfl)) k1 bel lt1) trodAll_mk0)), rfl, bel.frame _, fun h => by cases h⟩
theorem over : Rows.fnExactSameRelationRow.holds Try.pinned (OpenSpec.ofChange Rows.fnExactSameRelationSpec) :=
  OpenClaim.holds_of_wide 4 Try.f4 rfl rfl rfl rfl rfl rfl rfl ⟨rfl, rfl, rfl, rfl, rfl⟩ rfl rfl rfl rfl rfl (by kernel_rfl) Try.func4 (by kernel_rfl)
    (of_decide_eq_true (by kernel_rfl)) (by unfold Func.isWrapper; first | (rw [if_pos (by decide +kernel)]; kernel_rfl) | (rw [if_neg (by decide +kernel)]; exact ⟨rfl, rfl⟩))
    (fun os started H enc _ => lifted os started H enc)
theorem proved : Rows.FnExactSameRelationSaid := over
end Go.Proofs.Ytaolbdkehlobiaa.fnExactSameRelation
namespace Go.Proofs.Ytaolbdkehlobiaa
/-- The row, under a short name, for the claim. -/
theorem fnExactSameRelation_holds : Rows.FnExactSameRelationSaid := fnExactSameRelation.proved
end Go.Proofs.Ytaolbdkehlobiaa
