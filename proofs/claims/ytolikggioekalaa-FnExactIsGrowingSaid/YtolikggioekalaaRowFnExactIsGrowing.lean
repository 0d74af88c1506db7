/- The given statement of FnExactIsGrowing: at every input the law answers true, and its arguments read as before. No condition. -/
import Derived.Test.YtolikggioekalaaRows
import Derived.Test.YtolikggioekalaaWalkFnExactIsGrowing
import Derived.Test.YtolikggioekalaaG0
import Derived.Test.YtolikggioekalaaGArgs
import Derived.Test.YtolikggioekalaaPureFnExactIsGrowing
import Derived.WalkKit
import Derived.ProofKit
import Derived.OpenShut
import Derived.ChangeOld
import Derived.Below
import Derived.SizedLaws
import Derived.Lib.SmallJoins
namespace Go.Proofs.Ytolikggioekalaa.fnExactIsGrowing
open Go.ChangeShapes Go.WideShapes Go.ChangeAt Go.RowKit Go.Joins Go.Proofs.Ytolikggioekalaa.PFnExactIsGrowing Go.Proofs.YtolikggioekalaaW.PrintWords Go.Proofs.YtolikggioekalaaW.PrintMore Go.Proofs.Ytolikggioekalaa.G
set_option linter.unusedVariables false

theorem own : ownKnob Try.prog.godebug = none := by kernel_rfl
theorem laidOut : laidOutB Try.prog = true := by kernel_rfl
theorem cells0 : Try.prog.cellsOf 24 = 1 := by kernel_rfl
set_option maxRecDepth 100000 in
set_option maxHeartbeats 4000000 in
theorem lifted (os : Os) (started : os.Started) (H : Type) (enc : TypeId × Value → H) :
    ReturnsInHanded {} Try.checked os 3 .any (Rows.fnExactIsGrowingSpec.pre6 enc Try.prog Try.f3 Rows.fnExactIsGrowingRow.domain false) (Rows.fnExactIsGrowingSpec.post enc Try.prog Try.f3 false true false false) := by
  refine returnsInHanded_of_change_sized (C := Try.checked) own started (by kernel_rfl) Try.func3
    (ChangeSpec.witness6 (enc := enc) (C := Try.checked) false ⟨#[], #[.agg #[.slice none 0 0], .int .i64 0], []⟩ 8 (by kernel_rfl) (by kernel_rfl) (by kernel_rfl) (by kernel_rfl)) ?_
  intro W base args ds gs before hval0 hW hcnd hsz0 _
  have hval : ∀ (j : Nat) t v, Try.f3.params[j]? = some t → args[j]? = some v → Value.okWide Try.prog W .any base t v := hval0
  have hW' := hW
  obtain ⟨p, q, hA0, hV, rfl, hfz, hnd⟩ := hW
  have hA : DataW.TrodAll enc Try.prog W 0 (fun _ => true) true Try.f3.params.toList args.toList ds p := hA0
  rw [Try.params3] at hA hval
  obtain ⟨v0, vs0, d0, ds0, p0, q0, hargs, rfl, rfl, h0, r0⟩ := trodAll_cons hA
  obtain ⟨v1, vs1, d1, ds1, p1, q1, rfl, rfl, rfl, h1, r1⟩ := trodAll_cons r0
  obtain ⟨rfl, rfl, rfl⟩ := trodAll_nil r1
  obtain rfl : args = #[v0, v1] := by cases args; simp_all
  obtain ⟨rfl, rfl⟩ := trodVars_none hV
  have k0 := h0
  have lt0 : ∀ x ∈ p0, x.block < W.heap.size := by obtain ⟨m, hm⟩ := k0; exact DataW.trod_lt m _ _ _ hm
  have k1 := h1
  have lt1 : ∀ x ∈ p1, x.block < W.heap.size := by obtain ⟨m, hm⟩ := k1; exact DataW.trod_lt m _ _ _ hm
  obtain ⟨c0_0, y0_0, m0, rfl, rfl, rfl, hy0_0⟩ := open_agg1 Try.underlying24 (by kernel_rfl) cells0 (hval 0 24 v0 rfl rfl) h0
  obtain ⟨A0_0, n0_0, l0_0, e0_0, hn0_0, hm0_0, hC0_0, hr0_0, hw0_0⟩ := rows_C Try.underlying22 Try.underlying39 Try.underlying3 (by kernel_rfl) (by kernel_rfl) hy0_0
  subst e0_0
  obtain ⟨x1_0, rfl⟩ := okWide_int Try.underlying3 (hval 1 3 v1 rfl rfl)
  have wx1_0 : (Lit.int .i64 x1_0).wf = true := by
    obtain ⟨f_, hf_⟩ := h1
    obtain ⟨y_, e_, _, w_⟩ := DataW.trod_int Try.underlying3 hf_
    simp [Value.cells] at e_
    subst e_
    exact w_
  clear hA0 hval0 hsz0
  have main : Calls Try.prog 3 #[.agg #[.slice A0_0 l0_0.length n0_0], .int .i64 x1_0] W fun e W' => e = .returned (.bool true) ∧ Below W.heap.size W W' := by
    obtain ⟨t, ⟨K1, g1⟩, g2⟩ := Pure.laws_szMorphism_ev l0_0 hm0_0 hr0_0
    by_cases c : t < 0
    · exact laws_IsGrowing.neg K1 A0_0 n0_0 l0_0 x1_0 t W hC0_0 hn0_0 (g1 K1 (Nat.le_refl _)) c
    obtain ⟨m1, m2⟩ := g2.resolve_left c
    obtain ⟨K2, r, h⟩ := Pure.FnExactIsGrowing_all l0_0 x1_0 m1 m2
    obtain ⟨h1, h2, h3, h4⟩ := h (K1 + K2) (by omega)
    exact laws_IsGrowing.calls (K1 + K2) A0_0 n0_0 l0_0 x1_0 r t W hC0_0 hn0_0 (by omega) (g1 _ (by omega)) h1 h2 h3 h4
  refine main.mono fun e W' ⟨he, bel⟩ => ?_
  subst he
  exact ⟨_, rfl, _, _, _, [], _, [], hW', trodAll_mk1 (shut_bool Try.underlying4 _), (trodAll_cons_mk (Below.trod laidOut (by kernel_rfl) (of_decide_eq_true (by kernel_rfl)) k0 bel lt0) (trodAll_cons_mk (Below.trod laidOut (by kernel_rfl) (of_decide_eq_true (by kernel_rfl)) k1 bel lt1) trodAll_mk0)), rfl, bel.frame _, fun h => by cases h⟩
theorem over : Rows.fnExactIsGrowingRow.holds Try.pinned (OpenSpec.ofChange Rows.fnExactIsGrowingSpec) :=
  OpenClaim.holds_of_wide 3 Try.f3 rfl rfl rfl rfl rfl rfl rfl ⟨rfl, rfl, rfl, rfl, rfl⟩ rfl rfl rfl rfl rfl (by kernel_rfl) Try.func3 (by kernel_rfl)
    (of_decide_eq_true (by kernel_rfl)) (by unfold Func.isWrapper; first | (rw [if_pos (by decide +kernel)]; kernel_rfl) | (rw [if_neg (by decide +kernel)]; exact ⟨rfl, rfl⟩))
    (fun os started H enc _ => lifted os started H enc)
theorem proved : Rows.FnExactIsGrowingSaid := over
end Go.Proofs.Ytolikggioekalaa.fnExactIsGrowing
namespace Go.Proofs.Ytolikggioekalaa
/-- The row, under a short name, for the claim. -/
theorem fnExactIsGrowing_holds : Rows.FnExactIsGrowingSaid := fnExactIsGrowing.proved
end Go.Proofs.Ytolikggioekalaa
