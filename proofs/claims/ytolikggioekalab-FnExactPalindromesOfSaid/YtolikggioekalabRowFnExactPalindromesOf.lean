/- The given statement of FnExactPalindromesOf: at every input the law answers true, and its arguments read as before. No condition. -/
import Derived.Test.YtolikggioekalabRows
import Derived.Test.YtolikggioekalabWalkFnExactPalindromesOf
import Derived.Test.YtolikggioekalabG0
import Derived.Test.YtolikggioekalabGArgs
import Derived.Test.YtolikggioekalabPureFnExactPalindromesOf
import Derived.WalkKit
import Derived.ProofKit
import Derived.OpenShut
import Derived.ChangeOld
import Derived.Below
import Derived.SizedLaws
import Derived.Lib.SmallJoins
namespace Go.Proofs.Ytolikggioekalab.fnExactPalindromesOf
open Go.ChangeShapes Go.WideShapes Go.ChangeAt Go.RowKit Go.Joins Go.Proofs.Ytolikggioekalab.PFnExactPalindromesOf Go.Proofs.YtolikggioekalabW.PrintWords Go.Proofs.YtolikggioekalabW.PrintMore Go.Proofs.Ytolikggioekalab.G
set_option linter.unusedVariables false

theorem own : ownKnob Try.prog.godebug = none := by kernel_rfl
theorem laidOut : laidOutB Try.prog = true := by kernel_rfl
set_option maxRecDepth 100000 in
set_option maxHeartbeats 4000000 in
theorem lifted (os : Os) (started : os.Started) (H : Type) (enc : TypeId × Value → H) :
    ReturnsInHanded {} Try.checked os 8 .any (Rows.fnExactPalindromesOfSpec.pre6 enc Try.prog Try.f8 Rows.fnExactPalindromesOfRow.domain false) (Rows.fnExactPalindromesOfSpec.post enc Try.prog Try.f8 false true false false) := by
  refine returnsInHanded_of_change_sized (C := Try.checked) own started (by kernel_rfl) Try.func8
    (ChangeSpec.witness6 (enc := enc) (C := Try.checked) false ⟨#[], #[.slice none 0 0], []⟩ 8 (by kernel_rfl) (by kernel_rfl) (by kernel_rfl) (by kernel_rfl)) ?_
  intro W base args ds gs before hval0 hW hcnd hsz0 _
  have hval : ∀ (j : Nat) t v, Try.f8.params[j]? = some t → args[j]? = some v → Value.okWide Try.prog W .any base t v := hval0
  have hW' := hW
  obtain ⟨p, q, hA0, hV, rfl, hfz, hnd⟩ := hW
  have hA : DataW.TrodAll enc Try.prog W 0 (fun _ => true) true Try.f8.params.toList args.toList ds p := hA0
  rw [Try.params8] at hA hval
  obtain ⟨v0, vs0, d0, ds0, p0, q0, hargs, rfl, rfl, h0, r0⟩ := trodAll_cons hA
  obtain ⟨rfl, rfl, rfl⟩ := trodAll_nil r0
  obtain rfl : args = #[v0] := by cases args; simp_all
  obtain ⟨rfl, rfl⟩ := trodVars_none hV
  have k0 := h0
  have lt0 : ∀ x ∈ p0, x.block < W.heap.size := by obtain ⟨m, hm⟩ := k0; exact DataW.trod_lt m _ _ _ hm
  obtain ⟨a0_, n0_, c0_, rfl⟩ := okWide_slice Try.underlying22 (hval 0 22 v0 rfl rfl)
  obtain ⟨f0_, hf0_⟩ := h0
  obtain ⟨A0_0, n0_0, l0_0, e0_0, hn0_0, hm0_0, hC0_0, hw0_0⟩ := ints_C Try.underlying22 Try.underlying3 (by kernel_rfl) (show DataW.trod enc Try.prog W 0 (fun _ => true) true f0_ 22 [.slice a0_ n0_ c0_] = some (d0, p0) from by simpa [Value.cells] using hf0_)
  injection e0_0 with ea_ en_ ec_
  subst ea_ en_ ec_
  clear hA0 hval0 hsz0
  have main : Calls Try.prog 8 #[.slice a0_ l0_0.length c0_] W fun e W' => e = .returned (.bool true) ∧ Below W.heap.size W W' := by
    by_cases g0 : 1048576 < l0_0.length
    · exact laws_FnExactPalindromesOf.long0 a0_ c0_ l0_0 W  g0
    obtain ⟨k, R, R', mg, m0, x0, h1, h2, h3, h4, h5, h6, t0, q0, p0, hm⟩ := Pure.FnExactPalindromesOf_all l0_0 (by omega)
    exact laws_FnExactPalindromesOf.calls k a0_ c0_ l0_0 R R' mg m0 x0 W hC0_0 hn0_0 (by omega) h1 h2 h3 h4 h5 h6 t0 q0 p0 hm
  refine main.mono fun e W' ⟨he, bel⟩ => ?_
  subst he
  exact ⟨_, rfl, _, _, _, [], _, [], hW', trodAll_mk1 (shut_bool Try.underlying4 _), (trodAll_cons_mk (Below.trod laidOut (by kernel_rfl) (of_decide_eq_true (by kernel_rfl)) k0 bel lt0) trodAll_mk0), rfl, bel.frame _, fun h => by cases h⟩
theorem over : Rows.fnExactPalindromesOfRow.holds Try.pinned (OpenSpec.ofChange Rows.fnExactPalindromesOfSpec) :=
  OpenClaim.holds_of_wide 8 Try.f8 rfl rfl rfl rfl rfl rfl rfl ⟨rfl, rfl, rfl, rfl, rfl⟩ rfl rfl rfl rfl rfl (by kernel_rfl) Try.func8 (by kernel_rfl)
    (of_decide_eq_true (by kernel_rfl)) (by unfold Func.isWrapper; first | (rw [if_pos (by decide +kernel)]; kernel_rfl) | (rw [if_neg (by decide +kernel)]; exact ⟨rfl, rfl⟩))
    (fun os started H enc _ => lifted os started H enc)
theorem proved : Rows.FnExactPalindromesOfSaid := over
end Go.Proofs.Ytolikggioekalab.fnExactPalindromesOf
namespace Go.Proofs.Ytolikggioekalab
/-- The row, under a short name, for the claim. -/
theorem fnExactPalindromesOf_holds : Rows.FnExactPalindromesOfSaid := fnExactPalindromesOf.proved
end Go.Proofs.Ytolikggioekalab
