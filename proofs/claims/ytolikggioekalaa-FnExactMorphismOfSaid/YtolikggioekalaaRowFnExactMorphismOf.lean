/- The given statement of FnExactMorphismOf: at every input the law answers true, and its arguments read as before. No condition. -/
import Derived.Test.YtolikggioekalaaRows
import Derived.Test.YtolikggioekalaaWalkFnExactMorphismOf
import Derived.Test.YtolikggioekalaaG0
import Derived.Test.YtolikggioekalaaGArgs
import Derived.Test.YtolikggioekalaaPureFnExactMorphismOf
import Derived.WalkKit
import Derived.ProofKit
import Derived.OpenShut
import Derived.ChangeOld
import Derived.Below
import Derived.SizedLaws
import Derived.Lib.SmallJoins
namespace Go.Proofs.Ytolikggioekalaa.fnExactMorphismOf
open Go.ChangeShapes Go.WideShapes Go.ChangeAt Go.RowKit Go.Joins Go.Proofs.Ytolikggioekalaa.PFnExactMorphismOf Go.Proofs.YtolikggioekalaaW.PrintWords Go.Proofs.YtolikggioekalaaW.PrintMore Go.Proofs.Ytolikggioekalaa.G
set_option linter.unusedVariables false

theorem own : ownKnob Try.prog.godebug = none := by kernel_rfl
theorem laidOut : laidOutB Try.prog = true := by kernel_rfl
theorem cells0 : Try.prog.cellsOf 47 = 3 := by kernel_rfl
set_option maxRecDepth 100000 in
set_option maxHeartbeats 4000000 in
theorem lifted (os : Os) (started : os.Started) (H : Type) (enc : TypeId × Value → H) :
    ReturnsInHanded {} Try.checked os 6 .any (Rows.fnExactMorphismOfSpec.pre6 enc Try.prog Try.f6 Rows.fnExactMorphismOfRow.domain false) (Rows.fnExactMorphismOfSpec.post enc Try.prog Try.f6 false true false false) := by
  refine returnsInHanded_of_change_sized (C := Try.checked) own started (by kernel_rfl) Try.func6
    (ChangeSpec.witness6 (enc := enc) (C := Try.checked) false ⟨#[], #[.agg #[.int .i64 0, .slice none 0 0, .slice none 0 0]], []⟩ 8 (by kernel_rfl) (by kernel_rfl) (by kernel_rfl) (by kernel_rfl)) ?_
  intro W base args ds gs before hval0 hW hcnd hsz0 _
  have hval : ∀ (j : Nat) t v, Try.f6.params[j]? = some t → args[j]? = some v → Value.okWide Try.prog W .any base t v := hval0
  have hW' := hW
  obtain ⟨p, q, hA0, hV, rfl, hfz, hnd⟩ := hW
  have hA : DataW.TrodAll enc Try.prog W 0 (fun _ => true) true Try.f6.params.toList args.toList ds p := hA0
  rw [Try.params6] at hA hval
  obtain ⟨v0, vs0, d0, ds0, p0, q0, hargs, rfl, rfl, h0, r0⟩ := trodAll_cons hA
  obtain ⟨rfl, rfl, rfl⟩ := trodAll_nil r0
  obtain rfl : args = #[v0] := by cases args; simp_all
  obtain ⟨rfl, rfl⟩ := trodVars_none hV
  have k0 := h0
  have lt0 : ∀ x ∈ p0, x.block < W.heap.size := by obtain ⟨m, hm⟩ := k0; exact DataW.trod_lt m _ _ _ hm
  obtain ⟨c0_0, c0_1, c0_2, y0_0, y0_1, y0_2, m0, rfl, rfl, rfl, hy0_0, hy0_1, hy0_2⟩ := open_agg3 Try.underlying47 (by kernel_rfl) cells0 (hval 0 47 v0 rfl rfl) h0
  obtain ⟨x0_0, e0_0, rfl, wx0_0⟩ := DataW.trod_int Try.underlying3 hy0_0
  simp only [List.cons.injEq, and_true] at e0_0
  subst e0_0
  obtain ⟨A0_1, n0_1, l0_1, e0_1, hn0_1, hm0_1, hC0_1, hr0_1, hw0_1⟩ := rows_C Try.underlying22 Try.underlying39 Try.underlying3 (by kernel_rfl) (by kernel_rfl) hy0_1
  subst e0_1
  obtain ⟨A0_2, n0_2, l0_2, e0_2, hn0_2, hm0_2, hC0_2, hw0_2⟩ := ints_C Try.underlying39 Try.underlying3 (by kernel_rfl) hy0_2
  subst e0_2
  clear hA0 hval0 hsz0
  have main : Calls Try.prog 6 #[.agg #[.int .i64 x0_0, .slice A0_1 l0_1.length n0_1, .slice A0_2 l0_2.length n0_2]] W fun e W' => e = .returned (.bool true) ∧ Below W.heap.size W W' := by
    obtain ⟨t, ⟨K1, g1⟩, g2⟩ := Pure.laws_szSequence_ev x0_0 l0_1 l0_2 hm0_1 hr0_1 hm0_2
    by_cases c : t < 0
    · exact laws_MorphismOf.neg K1 x0_0 A0_1 n0_1 l0_1 A0_2 n0_2 l0_2 t W hC0_1 hn0_1 hC0_2 hn0_2 (g1 K1 (Nat.le_refl _)) c
    obtain ⟨m1, m2, m3⟩ := g2.resolve_left c
    obtain ⟨K2, R, R', b, mg, mx, x2, h⟩ := Pure.FnExactMorphismOf_all x0_0 l0_1 l0_2 m1 m2 m3
    obtain ⟨h1, h2, h3, h4, h5, h6, h7, h8, h9, h10⟩ := h (K1 + K2) (by omega)
    exact laws_MorphismOf.calls (K1 + K2) x0_0 A0_1 n0_1 l0_1 A0_2 n0_2 l0_2 R R' b t mg mx x2 W hC0_1 hn0_1 hC0_2 hn0_2 (g1 _ (by omega)) (by omega) h1 h2 h3 h4 h5 h6 h7 h8 h9 h10
  refine main.mono fun e W' ⟨he, bel⟩ => ?_
  subst he
  exact ⟨_, rfl, _, _, _, [], _, [], hW', trodAll_mk1 (shut_bool Try.underlying4 _), (trodAll_cons_mk (Below.trod laidOut (by kernel_rfl) (of_decide_eq_true (by kernel_rfl)) k0 bel lt0) trodAll_mk0), rfl, bel.frame _, fun h => by cases h⟩
theorem over : Rows.fnExactMorphismOfRow.holds Try.pinned (OpenSpec.ofChange Rows.fnExactMorphismOfSpec) :=
  OpenClaim.holds_of_wide 6 Try.f6 rfl rfl rfl rfl rfl rfl rfl ⟨rfl, rfl, rfl, rfl, rfl⟩ rfl rfl rfl rfl rfl (by kernel_rfl) Try.func6 (by kernel_rfl)
    (of_decide_eq_true (by kernel_rfl)) (by unfold Func.isWrapper; first | (rw [if_pos (by decide +kernel)]; kernel_rfl) | (rw [if_neg (by decide +kernel)]; exact ⟨rfl, rfl⟩))
    (fun os started H enc _ => lifted os started H enc)
theorem proved : Rows.FnExactMorphismOfSaid := over
end Go.Proofs.Ytolikggioekalaa.fnExactMorphismOf
namespace Go.Proofs.Ytolikggioekalaa
/-- The row, under a short name, for the claim. -/
theorem fnExactMorphismOf_holds : Rows.FnExactMorphismOfSaid := fnExactMorphismOf.proved
end Go.Proofs.Ytolikggioekalaa
