/- The given statement of FnExactFixedPrefix: at every input the law answers true, and its arguments read as before. No condition. -/
import Derived.Test.YtolikggioekalaaRows
import Derived.Test.YtolikggioekalaaWalkFnExactFixedPrefix
import Derived.Test.YtolikggioekalaaG0
import Derived.Test.YtolikggioekalaaGArgs
import Derived.Test.YtolikggioekalaaPureFnExactFixedPrefix
import Derived.WalkKit
import Derived.ProofKit
import Derived.OpenShut
import Derived.ChangeOld
import Derived.Below
import Derived.SizedLaws
import Derived.Lib.SmallJoins
namespace Go.Proofs.Ytolikggioekalaa.fnExactFixedPrefix
open Go.ChangeShapes Go.WideShapes Go.ChangeAt Go.RowKit Go.Joins Go.Proofs.Ytolikggioekalaa.PFnExactFixedPrefix Go.Proofs.YtolikggioekalaaW.PrintWords Go.Proofs.YtolikggioekalaaW.PrintMore Go.Proofs.Ytolikggioekalaa.G
set_option linter.unusedVariables false

theorem own : ownKnob Try.prog.godebug = none := by kernel_rfl
theorem laidOut : laidOutB Try.prog = true := by kernel_rfl
theorem cells0 : Try.prog.cellsOf 24 = 1 := by kernel_rfl
set_option maxRecDepth 100000 in
set_option maxHeartbeats 4000000 in
theorem lifted (os : Os) (started : os.Started) (H : Type) (enc : TypeId × Value → H) :
    ReturnsInHanded {} Try.checked os 7 .any (Rows.fnExactFixedPrefixSpec.pre6 enc Try.prog Try.f7 Rows.fnExactFixedPrefixRow.domain false) (Rows.fnExactFixedPrefixSpec.post enc Try.prog Try.f7 false true false false) := by
  refine returnsInHanded_of_change_sized (C := Try.checked) own started (by kernel_rfl) Try.func7
    (ChangeSpec.witness6 (enc := enc) (C := Try.checked) false ⟨#[], #[.agg #[.slice none 0 0], .int .i64 0, .int .i64 0], []⟩ 8 (by kernel_rfl) (by kernel_rfl) (by kernel_rfl) (by kernel_rfl)) ?_
  intro W base args ds gs before hval0 hW hcnd hsz0 _
  have hval : ∀ (j : Nat) t v, Try.f7.params[j]? = some t → args[j]? = some v → Value.okWide Try.prog W .any base t v := hval0
  have hW' := hW
  obtain ⟨p, q, hA0, hV, rfl, hfz, hnd⟩ := hW
  have hA : DataW.TrodAll enc Try.prog W 0 (fun _ => true) true Try.f7.params.toList args.toList ds p := hA0
  rw [Try.params7] at hA hval
  obtain ⟨v0, vs0, d0, ds0, p0, q0, hargs, rfl, rfl, h0, r0⟩ := trodAll_cons hA
  obtain ⟨v1, vs1, d1, ds1, p1, q1, rfl, rfl, rfl, h1, r1⟩ := trodAll_cons r0
  obtain ⟨v2, vs2, d2, ds2, p2, q2, rfl, rfl, rfl, h2, r2⟩ := trodAll_cons r1
  obtain ⟨rfl, rfl, rfl⟩ := trodAll_nil r2
  obtain rfl : args = #[v0, v1, v2] := by cases args; simp_all
  obtain ⟨rfl, rfl⟩ := trodVars_none hV
  have k0 := h0
  have lt0 : ∀ x ∈ p0, x.block < W.heap.size := by obtain ⟨m, hm⟩ := k0; exact DataW.trod_lt m _ _ _ hm
  have k1 := h1
  have lt1 : ∀ x ∈ p1, x.block < W.heap.size := by obtain ⟨m, hm⟩ := k1; exact DataW.trod_lt m _ _ _ hm
  have k2 := h2
  have lt2 : ∀ x ∈ p2, x.block < W.heap.size := by obtain ⟨m, hm⟩ := k2; exact DataW.trod_lt m _ _ _ hm
  obtain ⟨c0_0, y0_0, m0, rfl, rfl, rfl, hy0_0⟩ := open_agg1 Try.underlying24 (by kernel_rfl) cells0 (hval 0 24 v0 rfl rfl) h0
  obtain ⟨A0_0, n0_0, l0_0, e0_0, hn0_0, hm0_0, hC0_0, hr0_0, hw0_0⟩ := rows_C Try.underlying22 Try.underlying39 Try.underlying3 (by kernel_rfl) (by kernel_rfl) hy0_0
  subst e0_0
  obtain ⟨x1_0, rfl⟩ := okWide_int Try.underlying3 (hval 1 3 v1 rfl rfl)
  have wx1_0 : (Lit.int .i64 x1_0).wf = true := by
    obtain ⟨f_, hf_⟩ := h1
    obtain ⟨y_, e_, _, w_⟩ := DataW.trod_int Try.underlying3 hf_
    simp [Value.cells] at e_
    subst e_
    exact w_
  obtain ⟨x2_0, rfl⟩ := okWide_int Try.underlying3 (hval 2 3 v2 rfl rfl)
  have wx2_0 : (Lit.int .i64 x2_0).wf = true := by
    obtain ⟨f_, hf_⟩ := h2
    obtain ⟨y_, e_, _, w_⟩ := DataW.trod_int Try.underlying3 hf_
    simp [Value.cells] at e_
    subst e_
    exact w_
  clear hA0 hval0 hsz0
  have main : Calls Try.prog 7 #[.agg #[.slice A0_0 l0_0.length n0_0], .int .i64 x1_0, .int .i64 x2_0] W fun e W' => e = .returned (.bool true) ∧ Below W.heap.size W W' := by
    obtain ⟨t, ⟨K1, g1⟩, g2⟩ := Pure.laws_szMorphism_ev l0_0 hm0_0 hr0_0
    by_cases c : t < 0
    · exact laws_FixedPrefix.neg K1 A0_0 n0_0 l0_0 x1_0 x2_0 t W hC0_0 hn0_0 (g1 K1 (Nat.le_refl _)) c
    obtain ⟨m1, m2⟩ := g2.resolve_left c
    obtain ⟨K2, R, R', b, mx, mg, x1, h⟩ := Pure.FnExactFixedPrefix_all l0_0 x1_0 x2_0 m1 m2
    obtain ⟨q1, q2, h1, h2, h3, h4, h5, h6, h7, h8⟩ := h (K1 + K2) (by omega)
    exact laws_FixedPrefix.calls (K1 + K2) A0_0 n0_0 l0_0 x1_0 x2_0 R R' b t mx mg x1 W hC0_0 hn0_0 (by omega) q1 q2 (g1 _ (by omega)) h1 h2 h3 h4 h5 h6 h7 h8
  refine main.mono fun e W' ⟨he, bel⟩ => ?_
  subst he
  exact ⟨_, rfl, _, _, _, [], _, [], hW', trodAll_mk1 (shut_bool Try.underlying4 _), (trodAll_cons_mk (Below.trod laidOut (by kernel_rfl) (of_decide_eq_true (by kernel_rfl)) k0 bel lt0) (trodAll_cons_mk (Below.trod laidOut (by kernel_rfl) (of_decide_eq_true (by kernel_rfl)) k1 bel lt1) (trodAll_cons_mk (Below.trod laidOut (by kernel_rfl) (of_decide_eq_true (by kernel_rfl)) k2 bel lt2) trodAll_mk0))), rfl, bel.frame _, fun h => by cases h⟩
theorem over : Rows.fnExactFixedPrefixRow.holds Try.pinned (OpenSpec.ofChange Rows.fnExactFixedPrefixSpec) :=
  OpenClaim.holds_of_wide 7 Try.f7 rfl rfl rfl rfl rfl rfl rfl ⟨rfl, rfl, rfl, rfl, rfl⟩ rfl rfl rfl rfl rfl (by kernel_rfl) Try.func7 (by kernel_rfl)
    (of_decide_eq_true (by kernel_rfl)) (by unfold Func.isWrapper; first | (rw [if_pos (by decide +kernel)]; kernel_rfl) | (rw [if_neg (by decide +kernel)]; exact ⟨rfl, rfl⟩))
    (fun os started H enc _ => lifted os started H enc)
theorem proved : Rows.FnExactFixedPrefixSaid := over
end Go.Proofs.Ytolikggioekalaa.fnExactFixedPrefix
namespace Go.Proofs.Ytolikggioekalaa
/-- The row, under a short name, for the claim. -/
theorem fnExactFixedPrefix_holds : Rows.FnExactFixedPrefixSaid := fnExactFixedPrefix.proved
end Go.Proofs.Ytolikggioekalaa
