/- The given statement of FnExactIsRelation: at every relation the law answers true, and its argument reads as before. No condition. -/
import Derived.Test.YtoaonfacjcienabRows
import Derived.Test.YtoaonfacjcienabMFnExactIsRelationx6
import Derived.Test.YtoaonfacjcienabG0
import Derived.Test.YtoaonfacjcienabGArgs
import Derived.Test.YtoaonfacjcienabPureFnExactIsRelation
import Derived.WalkKit
import Derived.ProofKit
import Derived.OpenShut
import Derived.ChangeOld
import Derived.Below
import Derived.SizedLaws
import Derived.Lib.SmallJoins
namespace Go.Proofs.Ytoaonfacjcienab.fnExactIsRelation
open Go.ChangeShapes Go.WideShapes Go.ChangeAt Go.RowKit Go.Joins Go.Proofs.Ytoaonfacjcienab.PFnExactIsRelation Go.Proofs.YtoaonfacjcienabW.PrintWords Go.Proofs.YtoaonfacjcienabW.PrintMore Go.Proofs.Ytoaonfacjcienab.G
set_option linter.unusedVariables false

theorem own : ownKnob Try.prog.godebug = none := by kernel_rfl
theorem laidOut : laidOutB Try.prog = true := by kernel_rfl
theorem cells : Try.prog.cellsOf 59 = 4 := by kernel_rfl
set_option maxRecDepth 100000 in
theorem lifted (os : Os) (started : os.Started) (H : Type) (enc : TypeId × Value → H) :
    ReturnsInHanded {} Try.checked os 12 .any (Rows.fnExactIsRelationSpec.pre6 enc Try.prog Try.f12 Rows.fnExactIsRelationRow.domain false) (Rows.fnExactIsRelationSpec.post enc Try.prog Try.f12 false true false false) := by
  refine returnsInHanded_of_change_sized (C := Try.checked) own started (by kernel_rfl) Try.func12
    (ChangeSpec.witness6 (enc := enc) (C := Try.checked) false ⟨#[], #[.agg #[.int .i64 0, .int .i64 0, .slice none 0 0, .slice none 0 0]], []⟩ 8 (by kernel_rfl) (by kernel_rfl) (by kernel_rfl) (by kernel_rfl)) ?_
  intro W base args ds gs before hval0 hW hcnd hsz0 _
  have hval : ∀ (j : Nat) t v, Try.f12.params[j]? = some t → args[j]? = some v → Value.okWide Try.prog W .any base t v := hval0
  have hW' := hW
  obtain ⟨p, q, hA0, hV, rfl, hfz, hnd⟩ := hW
  have hA : DataW.TrodAll enc Try.prog W 0 (fun _ => true) true Try.f12.params.toList args.toList ds p := hA0
  rw [Try.params12] at hA hval
  obtain ⟨v0, vs0, d0, ds0, p0, q0, hargs, rfl, rfl, h0, r0⟩ := trodAll_cons hA
  obtain ⟨rfl, rfl, rfl⟩ := trodAll_nil r0
  obtain rfl : args = #[v0] := by cases args; simp_all
  obtain ⟨rfl, rfl⟩ := trodVars_none hV
  have k0 := h0
  have lt0 : ∀ x ∈ p0, x.block < W.heap.size := by obtain ⟨m, hm⟩ := k0; exact DataW.trod_lt m _ _ _ hm
  obtain ⟨c0, c1, c2, c3, y0, y1, y2, y3, m, rfl, rfl, rfl, hy0, hy1, hy2, hy3⟩ := open_agg4 Try.underlying59 (by kernel_rfl) cells (hval 0 59 v0 rfl rfl) h0
  obtain ⟨x0, e0, rfl, wx0⟩ := DataW.trod_int Try.underlying3 hy0
  obtain ⟨x1, e1, rfl, wx1⟩ := DataW.trod_int Try.underlying3 hy1
  simp only [List.cons.injEq, and_true] at e0 e1
  subst e0 e1
  obtain ⟨A2, n2, l2, rfl, hn2, hm2, hC2, hr2, _⟩ := rows_C Try.underlying29 Try.underlying22 Try.underlying3 (by kernel_rfl) (by kernel_rfl) hy2
  obtain ⟨A3, n3, l3, rfl, hn3, hm3, hC3⟩ := bools_C Try.underlying57 Try.underlying4 (by kernel_rfl) hy3
  clear hA0 hval0 hsz0
  obtain ⟨k, hk⟩ := Pure.FnExactIsRelation x0 x1 l2 l3 hm2 hr2 hm3
  refine (laws_FnExactIsRelation.calls k x0 x1 A2 n2 l2 A3 n3 l3 true W hC2 hn2 hC3 hn3 hk).mono fun e W' ⟨he, bel⟩ => ?_
  subst he
  exact ⟨_, rfl, _, _, _, [], _, [], hW', trodAll_mk1 (shut_bool Try.underlying4 _), (trodAll_cons_mk (Below.trod laidOut (by kernel_rfl) (of_decide_eq_true (by kernel_rfl)) k0 bel lt0) trodAll_mk0), rfl, bel.frame _, fun h => by cases h⟩
theorem over : Rows.fnExactIsRelationRow.holds Try.pinned (OpenSpec.ofChange Rows.fnExactIsRelationSpec) :=
  OpenClaim.holds_of_wide 12 Try.f12 rfl rfl rfl rfl rfl rfl rfl ⟨rfl, rfl, rfl, rfl, rfl⟩ rfl rfl rfl rfl rfl (by kernel_rfl) Try.func12 (by kernel_rfl)
    (of_decide_eq_true (by kernel_rfl)) (by unfold Func.isWrapper; first | (rw [if_pos (by decide +kernel)]; kernel_rfl) | (rw [if_neg (by decide +kernel)]; exact ⟨rfl, rfl⟩))
    (fun os started H enc _ => lifted os started H enc)
theorem proved : Rows.FnExactIsRelationSaid := over
end Go.Proofs.Ytoaonfacjcienab.fnExactIsRelation
namespace Go.Proofs.Ytoaonfacjcienab
/-- The row, under a short name, for the claim. -/
theorem fnExactIsRelation_holds : Rows.FnExactIsRelationSaid := fnExactIsRelation.proved
end Go.Proofs.Ytoaonfacjcienab
