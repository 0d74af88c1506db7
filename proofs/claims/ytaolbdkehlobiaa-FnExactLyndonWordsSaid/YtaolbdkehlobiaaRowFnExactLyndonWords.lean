/- The given statement of FnExactLyndonWords: at every input the law answers true, and its arguments read as before. No condition. -/
import Derived.Test.YtaolbdkehlobiaaRows
import Derived.Test.YtaolbdkehlobiaaWalkFnExactLyndonWords
import Derived.Test.YtaolbdkehlobiaaG0
import Derived.Test.YtaolbdkehlobiaaGArgs
import Derived.Test.YtaolbdkehlobiaaPureFnExactLyndonWords
import Derived.WalkKit
import Derived.ProofKit
import Derived.OpenShut
import Derived.ChangeOld
import Derived.Below
import Derived.SizedLaws
import Derived.Lib.SmallJoins
namespace Go.Proofs.Ytaolbdkehlobiaa.fnExactLyndonWords
open Go.ChangeShapes Go.WideShapes Go.ChangeAt Go.RowKit Go.Joins Go.Proofs.Ytaolbdkehlobiaa.PFnExactLyndonWords Go.Proofs.YtaolbdkehlobiaaW.PrintWords Go.Proofs.YtaolbdkehlobiaaW.PrintMore Go.Proofs.Ytaolbdkehlobiaa.G
set_option linter.unusedVariables false

theorem own : ownKnob Try.prog.godebug = none := by kernel_rfl
theorem laidOut : laidOutB Try.prog = true := by kernel_rfl
set_option maxRecDepth 100000 in
set_option maxHeartbeats 4000000 in
theorem lifted (os : Os) (started : os.Started) (H : Type) (enc : TypeId × Value → H) :
    ReturnsInHanded {} Try.checked os 3 .any (Rows.fnExactLyndonWordsSpec.pre6 enc Try.prog Try.f3 Rows.fnExactLyndonWordsRow.domain false) (Rows.fnExactLyndonWordsSpec.post enc Try.prog Try.f3 false true false false) := by
  refine returnsInHanded_of_change_sized (C := Try.checked) own started (by kernel_rfl) Try.func3
    (ChangeSpec.witness6 (enc := enc) (C := Try.checked) false ⟨#[], #[.int .i64 0, .int .i64 0], []⟩ 8 (by kernel_rfl) (by kernel_rfl) (by kernel_rfl) (by kernel_rfl)) ?_
  intro W base args ds gs before hval0 hW hcnd hsz0 _
  have hval : ∀ (j : Nat) t v, Try.f3.params[j]? = some t → args[j]? = some v → Value.okWide Try.prog W .any base t v := hval0
  have hW' := hW
  obtain ⟨p, q, hA0, hV, rfl, hfz, hnd⟩ := hW
  have hA : DataW.TrodAll enc Try.prog W 0 (fun _ => true) true Try.f3.params.toList args.toList ds p := hA0
  rw [Try.params3] at hA hval
  obtain ⟨v0, vs0, d0, ds0, p0, q0, hargs, rfl, rfl, h0, r0⟩ := trodAll_cons hA
  obtain ⟨v1, vs1, d1, ds1, p1, q1, rfl, rfl, rfl, h1, r1⟩ := trodAll_cons r0
  obtain ⟨rfl, rfl, rfl⟩ := trodAll_nil r1
  obtain rfl : args = #[v0, v1] := by cases args; simp_all
  obtain ⟨rfl, rfl⟩ := trodVars_none hV
  have k0 := h0
  have lt0 : ∀ x ∈ p0, x.block < W.heap.size := by obtain ⟨m, hm⟩ := k0; exact DataW.trod_lt m _ _ _ hm
  have k1 := h1
  have lt1 : ∀ x ∈ p1, x.block < W.heap.size := by obtain ⟨m, hm⟩ := k1; exact DataW.trod_lt m _ _ _ hm
  obtain ⟨x0_0, rfl⟩ := okWide_int Try.underlying3 (hval 0 3 v0 rfl rfl)
  have wx0_0 : (Lit.int .i64 x0_0).wf = true := by
    obtain ⟨f_, hf_⟩ := h0
    obtain ⟨y_, e_, _, w_⟩ := DataW.trod_int Try.underlying3 hf_
    simp [Value.cells] at e_
    subst e_
    exact w_
  obtain ⟨x1_0, rfl⟩ := okWide_int Try.underlying3 (hval 1 3 v1 rfl rfl)
  have wx1_0 : (Lit.int .i64 x1_0).wf = true := by
    obtain ⟨f_, hf_⟩ := h1
    obtain ⟨y_, e_, _, w_⟩ := DataW.trod_int Try.underlying3 hf_
    simp [Value.cells] at e_
    subst e_
    exact w_
  clear hA0 hval0 hsz0
  have main : Calls Try.prog 3 #[.int .i64 x0_0, .int .i64 x1_0] W fun e W' => e = .returned (.bool true) ∧ Below W.heap.size W W' := by
    obtain ⟨k, R, R', b, mg, h1, h2, h3, h4, h5, h6⟩ := Pure.FnExactLyndonWords_all x0_0 x1_0 wx0_0 wx1_0
    exact laws_FnExactLyndonWords.calls k x0_0 x1_0 R R' b mg W h1 h2 h3 h4 h5 h6
  refine main.mono fun e W' ⟨he, bel⟩ => ?_
  subst he
  exact ⟨_, rfl, _, _, _, [], _, [], hW', trodAll_mk1 (shut_bool Try.underlying4 _), (trodAll_cons_mk (Below.trod laidOut (by kernel_rfl) (of_decide_eq_true (by kernel_rfl)) k0 bel lt0) (trodAll_cons_mk (Below.trod laidOut (by kernel_rfl) (of_decide_eq_true (by kernel_rfl)) k1 bel lt1) trodAll_mk0)), rfl, bel.frame _, fun h => by cases h⟩
theorem over : Rows.fnExactLyndonWordsRow.holds Try.pinned (OpenSpec.ofChange Rows.fnExactLyndonWordsSpec) :=
  OpenClaim.holds_of_wide 3 Try.f3 rfl rfl rfl rfl rfl rfl rfl ⟨rfl, rfl, rfl, rfl, rfl⟩ rfl rfl rfl rfl rfl (by kernel_rfl) Try.func3 (by kernel_rfl)
    (of_decide_eq_true (by kernel_rfl)) (by unfold Func.isWrapper; first | (rw [if_pos (by decide +kernel)]; kernel_rfl) | (rw [if_neg (by decide +kernel)]; exact ⟨rfl, rfl⟩))
    (fun os started H enc _ => lifted os started H enc)
theorem proved : Rows.FnExactLyndonWordsSaid := over
end Go.Proofs.Ytaolbdkehlobiaa.fnExactLyndonWords
namespace Go.Proofs.Ytaolbdkehlobiaa
/-- The row, under a short name, for the claim. -/
theorem fnExactLyndonWords_holds : Rows.FnExactLyndonWordsSaid := fnExactLyndonWords.proved
end Go.Proofs.Ytaolbdkehlobiaa
