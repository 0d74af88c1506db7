/- The given statement of FnExactSequenceOf: at every input the law answers true, and its arguments read as before. No condition. -/
import Derived.Test.YtolikggioekalaaRows
import Derived.Test.YtolikggioekalaaVWalkFnExactSequenceOf
import Derived.Test.YtolikggioekalaaVG0
import Derived.Test.YtolikggioekalaaVGArgs
import Derived.Test.YtolikggioekalaaVPureFnExactSequenceOf
import Derived.WalkKit
import Derived.ProofKit
import Derived.OpenShut
import Derived.ChangeOld
import Derived.Below
import Derived.SizedLaws
import Derived.Lib.SmallJoins
namespace Go.Proofs.Ytolikggioekalaa.fnExactSequenceOf
open Go.ChangeShapes Go.WideShapes Go.ChangeAt Go.RowKit Go.Joins Go.Proofs.Ytolikggioekalaa.PFnExactSequenceOf Go.Proofs.YtolikggioekalaaW.PrintWords Go.Proofs.YtolikggioekalaaW.PrintMore Go.Proofs.Ytolikggioekalaa.G
set_option linter.unusedVariables false

theorem own : ownKnob Try.prog.godebug = none := by kernel_rfl
theorem laidOut : laidOutB Try.prog = true := by kernel_rfl
theorem cells0 : Try.prog.cellsOf 24 = 1 := by kernel_rfl
set_option maxRecDepth 100000 in
set_option maxHeartbeats 4000000 in
theorem lifted (os : Os) (started : os.Started) (H : Type) (enc : TypeId × Value → H) :
    ReturnsInHanded {} Try.checked os 8 .any (Rows.fnExactSequenceOfSpec.pre6 enc Try.prog Try.f8 Rows.fnExactSequenceOfRow.domain false) (Rows.fnExactSequenceOfSpec.post enc Try.prog Try.f8 false true false false) := by
  refine returnsInHanded_of_change_sized (C := Try.checked) own started (by kernel_rfl) Try.func8
    (ChangeSpec.witness6 (enc := enc) (C := Try.checked) false ⟨#[], #[.agg #[.slice none 0 0], .slice none 0 0], []⟩ 8 (by kernel_rfl) (by kernel_rfl) (by kernel_rfl) (by kernel_rfl)) ?_
  intro W base args ds gs before hval0 hW hcnd hsz0 _
  have hval : ∀ (j : Nat) t v, Try.f8.params[j]? = some t → args[j]? = some v → Value.okWide Try.prog W .any base t v := hval0
  have hW' := hW
  obtain ⟨p, q, hA0, hV, rfl, hfz, hnd⟩ := hW
  have hA : DataW.TrodAll enc Try.prog W 0 (fun _ => true) true Try.f8.params.toList args.toList ds p := hA0
  rw [Try.params8] at hA hval
  obtain ⟨v0, vs0, d0, ds0, p0, q0, hargs, rfl, rfl, h0, r0⟩ := trodAll_cons hA
  obtain ⟨v1, vs1, d1, ds1, p1, q1, rfl, rfl, rfl, h1, r1⟩ := trodAll_cons r0
  obtain ⟨rfl, rfl, rfl⟩ := trodAll_nil r1
  obtain rfl : args = #[v0, v1] := by cases args; simp_all
  obtain ⟨rfl, rfl⟩ := trodVars_none hV
  have k0 := h0
  have lt0 : ∀ x ∈ p0, x.block < W.heap.size := by obtain ⟨m, hm⟩ := k0; exact DataW.trod_lt m _ _ _ hm
  have k1 := h1
  have lt1 : ∀ x ∈ p1, x.block < W.heap.size := by obtain ⟨m, hm⟩ := k1; exact DataW.trod_lt m _ _ _ hm
  obtain ⟨c0_0, y0_0, m0, rfl, rfl, rfl, hy0_0⟩ := open_agg1 Try.underlying24 (by kernel_rfl) cells0 (hval 0 24 v0 rfl rfl) h0
  obtain ⟨A0_0, n0_0, l0_0, e0_0, hn0_0, hm0_0, hC0_0, hr0_0, hw0_0⟩ := rows_C Try.underlying22 Try.underlying39 Try.underlying3 (by kernel_rfl) (by kernel_rfl) hy0_0
  subst e0_0
  obtain ⟨a1_, n1_, c1_, rfl⟩ := okWide_slice Try.underlying39 (hval 1 39 v1 rfl rfl)
  obtain ⟨f1_, hf1_⟩ := h1
  obtain ⟨A1_0, n1_0, l1_0, e1_0, hn1_0, hm1_0, hC1_0, hw1_0⟩ := ints_C Try.underlying39 Try.underlying3 (by kernel_rfl) (show DataW.trod enc Try.prog W 0 (fun _ => true) true f1_ 39 [.slice a1_ n1_ c1_] = some (d1, p1) from by simpa [Value.cells] using hf1_)
  injection e1_0 with ea_ en_ ec_
  subst ea_ en_ ec_
  clear hA0 hval0 hsz0
  have main : Calls Try.prog 8 #[.agg #[.slice A0_0 l0_0.length n0_0], .slice a1_ l1_0.length c1_] W fun e W' => e = .returned (.bool true) ∧ Below W.heap.size W W' := by
    by_cases g : 1048576 < l1_0.length
    · exact laws_SequenceOf.long 0 A0_0 n0_0 l0_0 a1_ c1_ l1_0 W g
    obtain ⟨t, ⟨K1, g1⟩, g2⟩ := Pure.laws_szMorphism_ev l0_0 hm0_0 hr0_0
    by_cases c : t < 0
    · exact laws_SequenceOf.neg K1 A0_0 n0_0 l0_0 a1_ c1_ l1_0 t W hC0_0 hn0_0 hC1_0 hn1_0 (by omega) (g1 K1 (Nat.le_refl _)) c
    obtain ⟨m1, m2⟩ := g2.resolve_left c
    obtain ⟨K2, rb, R1, R1', R2, R2', b, p1, p2, mh, mg, x1, x2, h⟩ := Pure.FnExactSequenceOf_all l0_0 l1_0 m1 m2 (by omega)
    obtain ⟨q1, q2, h2, h3, h4, h5, h6, h7, h8, h9, h10, h11, h12, h13⟩ := h (K1 + K2) (by omega)
    exact laws_SequenceOf.calls (K1 + K2) A0_0 n0_0 l0_0 a1_ c1_ l1_0 rb R1 R1' R2 R2' b t p1 p2 mh mg x1 x2 W hC0_0 hn0_0 hC1_0 hn1_0 (by omega) (by omega) q1 q2 (g1 _ (by omega)) h2 h3 h4 h5 h6 h7 h8 h9 h10 h11 h12 h13
  refine main.mono fun e W' ⟨he, bel⟩ => ?_
  subst he
  exact ⟨_, rfl, _, _, _, [], _, [], hW', trodAll_mk1 (shut_bool Try.underlying4 _), (trodAll_cons_mk (Below.trod laidOut (by kernel_rfl) (of_decide_eq_true (by kernel_rfl)) k0 bel lt0) (trodAll_cons_mk (Below.trod laidOut (by kernel_rfl) (of_decide_eq_true (by kernel_rfl)) k1 bel lt1) trodAll_mk0)), rfl, bel.frame _, fun h => by cases h⟩
theorem over : Rows.fnExactSequenceOfRow.holds Try.pinned (OpenSpec.ofChange Rows.fnExactSequenceOfSpec) :=
  OpenClaim.holds_of_wide 8 Try.f8 rfl rfl rfl rfl rfl rfl rfl ⟨rfl, rfl, rfl, rfl, rfl⟩ rfl rfl rfl rfl rfl (by kernel_rfl) Try.func8 (by kernel_rfl)
    (of_decide_eq_true (by kernel_rfl)) (by unfold Func.isWrapper; first | (rw [if_pos (by decide +kernel)]; kernel_rfl) | (rw [if_neg (by decide +kernel)]; exact ⟨rfl, rfl⟩))
    (fun os started H enc _ => lifted os started H enc)
theorem proved : Rows.FnExactSequenceOfSaid := over
end Go.Proofs.Ytolikggioekalaa.fnExactSequenceOf
namespace Go.Proofs.Ytolikggioekalaa
/-- The row, under a short name, for the claim. -/
theorem fnExactSequenceOf_holds : Rows.FnExactSequenceOfSaid := fnExactSequenceOf.proved
end Go.Proofs.Ytolikggioekalaa
