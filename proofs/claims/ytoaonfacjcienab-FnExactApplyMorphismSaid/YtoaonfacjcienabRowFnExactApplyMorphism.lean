/- The given statement of FnExactApplyMorphism: at every morphism and word the law answers true, and its arguments read as before. No condition. -/
import Derived.Test.YtoaonfacjcienabRows
import Derived.Test.YtoaonfacjcienabMFnExactApplyMorphismx5
import Derived.Test.YtoaonfacjcienabG0
import Derived.Test.YtoaonfacjcienabGArgs
import Derived.Test.YtoaonfacjcienabPureFnExactApplyMorphism
import Derived.WalkKit
import Derived.ProofKit
import Derived.OpenShut
import Derived.ChangeOld
import Derived.Below
import Derived.SizedLaws
import Derived.Lib.SmallJoins
namespace Go.Proofs.Ytoaonfacjcienab.fnExactApplyMorphism
open Go.ChangeShapes Go.WideShapes Go.ChangeAt Go.RowKit Go.Joins Go.Proofs.Ytoaonfacjcienab.PFnExactApplyMorphism Go.Proofs.YtoaonfacjcienabW.PrintWords Go.Proofs.YtoaonfacjcienabW.PrintMore Go.Proofs.Ytoaonfacjcienab.G
set_option linter.unusedVariables false

theorem own : ownKnob Try.prog.godebug = none := by kernel_rfl
theorem laidOut : laidOutB Try.prog = true := by kernel_rfl
theorem cells : Try.prog.cellsOf 48 = 1 := by kernel_rfl
set_option maxRecDepth 100000 in
set_option maxHeartbeats 2000000 in
theorem lifted (os : Os) (started : os.Started) (H : Type) (enc : TypeId × Value → H) :
    ReturnsInHanded {} Try.checked os 11 .any (Rows.fnExactApplyMorphismSpec.pre6 enc Try.prog Try.f11 Rows.fnExactApplyMorphismRow.domain false) (Rows.fnExactApplyMorphismSpec.post enc Try.prog Try.f11 false true false false) := by
  refine returnsInHanded_of_change_sized (C := Try.checked) own started (by kernel_rfl) Try.func11
    (ChangeSpec.witness6 (enc := enc) (C := Try.checked) false ⟨#[], #[.agg #[.slice none 0 0], .slice none 0 0], []⟩ 8 (by kernel_rfl) (by kernel_rfl) (by kernel_rfl) (by kernel_rfl)) ?_
  intro W base args ds gs before hval0 hW hcnd hsz0 _
  have hval : ∀ (j : Nat) t v, Try.f11.params[j]? = some t → args[j]? = some v → Value.okWide Try.prog W .any base t v := hval0
  have hW' := hW
  obtain ⟨p, q, hA0, hV, rfl, hfz, hnd⟩ := hW
  have hA : DataW.TrodAll enc Try.prog W 0 (fun _ => true) true Try.f11.params.toList args.toList ds p := hA0
  rw [Try.params11] at hA hval
  obtain ⟨v0, vs0, d0, ds0, p0, q0, hargs, rfl, rfl, h0, r0⟩ := trodAll_cons hA
  obtain ⟨v1, vs1, d1, ds1, p1, q1, rfl, rfl, rfl, h1, r1⟩ := trodAll_cons r0
  obtain ⟨rfl, rfl, rfl⟩ := trodAll_nil r1
  obtain rfl : args = #[v0, v1] := by cases args; simp_all
  obtain ⟨rfl, rfl⟩ := trodVars_none hV
  have k0 := h0
  have k1 := h1
  have lt0 : ∀ x ∈ p0, x.block < W.heap.size := by obtain ⟨m, hm⟩ := k0; exact DataW.trod_lt m _ _ _ hm
  have lt1 : ∀ x ∈ p1, x.block < W.heap.size := by obtain ⟨m, hm⟩ := k1; exact DataW.trod_lt m _ _ _ hm
  obtain ⟨c0, y0, m, rfl, rfl, rfl, hy0⟩ := open_agg1 Try.underlying48 (by kernel_rfl) cells (hval 0 48 v0 rfl rfl) h0
  obtain ⟨A2, n2, l2, rfl, hn2, hm2, hC2, hr2, _⟩ := rows_C Try.underlying29 Try.underlying22 Try.underlying3 (by kernel_rfl) (by kernel_rfl) hy0
  obtain ⟨a1, len1, cap1, rfl⟩ := okWide_slice Try.underlying22 (hval 1 22 v1 rfl rfl)
  obtain ⟨fuel1, hf1⟩ := h1
  obtain ⟨A3, n3, l3, e3, hn3, hm3, hC3, _⟩ := ints_C Try.underlying22 Try.underlying3 (by kernel_rfl) (show DataW.trod enc Try.prog W 0 (fun _ => true) true fuel1 22 [.slice a1 len1 cap1] = some (d1, p1) from by simpa [Value.cells] using hf1)
  injection e3 with ea en ec
  subst ea en ec
  clear hA0 hval0 hsz0
  obtain ⟨k, hk⟩ := Pure.FnExactApplyMorphism l2 l3 hm2 hr2
  refine (laws_FnExactApplyMorphism.calls k A2 n2 l2 a1 cap1 l3 true W hC2 hn2 hC3 hn3 hk).mono fun e W' ⟨he, bel⟩ => ?_
  subst he
  exact ⟨_, rfl, _, _, _, [], _, [], hW', trodAll_mk1 (shut_bool Try.underlying4 _), (trodAll_cons_mk (Below.trod laidOut (by kernel_rfl) (of_decide_eq_true (by kernel_rfl)) k0 bel lt0) (trodAll_cons_mk (Below.trod laidOut (by kernel_rfl) (of_decide_eq_true (by kernel_rfl)) k1 bel lt1) trodAll_mk0)), rfl, bel.frame _, fun h => by cases h⟩
theorem over : Rows.fnExactApplyMorphismRow.holds Try.pinned (OpenSpec.ofChange Rows.fnExactApplyMorphismSpec) :=
  OpenClaim.holds_of_wide 11 Try.f11 rfl rfl rfl rfl rfl rfl rfl ⟨rfl, rfl, rfl, rfl, rfl⟩ rfl rfl rfl rfl rfl (by kernel_rfl) Try.func11 (by kernel_rfl)
    (of_decide_eq_true (by kernel_rfl)) (by unfold Func.isWrapper; first | (rw [if_pos (by decide +kernel)]; kernel_rfl) | (rw [if_neg (by decide +kernel)]; exact ⟨rfl, rfl⟩))
    (fun os started H enc _ => lifted os started H enc)
theorem proved : Rows.FnExactApplyMorphismSaid := over
end Go.Proofs.Ytoaonfacjcienab.fnExactApplyMorphism
namespace Go.Proofs.Ytoaonfacjcienab
/-- The row, under a short name, for the claim. -/
theorem fnExactApplyMorphism_holds : Rows.FnExactApplyMorphismSaid := fnExactApplyMorphism.proved
end Go.Proofs.Ytoaonfacjcienab
