/- The Go functions that the law FnPowers reaches (part 3): each as a Lean function, and that its code comes to these answers. No condition beyond those written. -/
import Derived.Test.YtolikggioekalabVGDraw
import Derived.Test.YtolikggioekalabVMFnPowersx2
import Derived.Test.YtolikggioekalabVMFnPowersx1
import Derived.Test.YtolikggioekalabVMFnPowersx0
namespace Go.Proofs.Ytolikggioekalab.PFnPowers
open Go.RowKit Go.Proofs.YtolikggioekalabW.PrintWords Go.Proofs.YtolikggioekalabW.PrintLast Go.Proofs.YtolikggioekalabW.PrintMore
attribute [local go_sem] max2_int min2_int max_two min_two max_three min_three max_four min_four   -- for this text's walks alone
set_option linter.unusedVariables false
set_option linter.unusedSimpArgs false

/-! ### spec_NamedSequence: own walk, a loose contract -/
-- lib: GDraw
-- num: RL=def rd_L(\d+) \(xs : List \(List Int\)\) \(i : Int\)
section
open Go.Proofs.Ytolikggioekalab.G
theorem seqB {ba : Int} {rows : List (List Int)} {out : List Int} (h : (decide (2 ≤ ba) && decide (ba ≤ 4) && decide (1 ≤ rows.length) && decide (rows.length ≤ 16) && decide (out.length = rows.length) && rows.all (fun r => decide ((r.length : Int) = ba) && r.all fun x => decide (0 ≤ x) && decide (x < (rows.length : Int))) && out.all fun x => decide (0 ≤ x) && decide (x ≤ 3)) = true) : SeqW ba rows out := by
 simp only [Bool.and_eq_true, decide_eq_true_eq, List.all_eq_true] at h
 exact ⟨h.1.1.1.1.1.1, h.1.1.1.1.1.2, h.1.1.1.1.2, h.1.1.1.2, h.1.1.2, h.1.2, h.2⟩
def names6 : List ByteArray := [{ data := #[116, 104, 117, 101] }, { data := #[114, 117, 100, 105, 110] }, { data := #[112, 101, 114, 105, 111, 100] }, { data := #[112, 111, 119, 101, 114, 115] }, { data := #[99, 97, 110, 116, 111, 114] }, { data := #[109, 111, 100] }]
set_option maxHeartbeats 8000000 in
set_option maxRecDepth 100000 in
theorem spec_NamedSequence.any (s : ByteArray) (hs : s ∈ names6) (w : World) :
  Calls Try.prog 200 #[.string s] w fun e w' => (∃ v : Value, e = .returned (.tuple #[v, .bool true]) ∧ SeqRet w' w.heap.size v) ∧ Below w.heap.size w w' := by
 simp only [names6, List.mem_cons, List.not_mem_nil, or_false] at hs
 have fin : ∀ (ba : Int) (rows : List (List Int)) (out : List Int) (vs : List Value) (g1 g2 n1 n2 : Nat) (W : World) (v : Value), v = .agg #[.int .i64 ba, .slice (some ⟨g1, 0, none⟩) n1 n1, .slice (some ⟨g2, 0, none⟩) n2 n2] → SeqW ba rows out → n1 = rows.length → n2 = out.length → w.heap.size ≤ g1 → w.heap.size ≤ g2 → W.heap[g1]? = some (.cells vs.toArray 22 (0, 0)) → W.heap[g2]? = some (.cells (nums .i64 out).toArray 3 (0, 0)) → LitRows W w.heap.size vs rows → SeqRet W w.heap.size v := by
  intro ba rows out vs g1 g2 n1 n2 W v hv hw h1 h2 h3 h4 h5 h6 h7
  have a1 := hw.n16
  have a2 := hw.olen
  have f1 := lit_F h1 h3 h5 (by omega) h7
  have f2 := lit_FI h2 h4 h6 (by omega)
  subst h1 h2
  exact ⟨ba, _, _, rows, _, _, out, hv, hw, f1, f2⟩
 have FIN := Aside0.mk fin
 have HB := Aside0.mk (Below.refl w.heap.size w)
 clear fin
 rcases hs with rfl | rfl | rfl | rfl | rfl | rfl
 all_goals
  go_enter Try.func200, Try.ntmps200
  go_wp2
 ·exact bodyPost_ret (results_ct rfl _ _ w.heap.size 134 _ (0, 0) _ rfl hlook Try.underlying134 rfl rfl) rfl ⟨⟨_, rfl, FIN.out 2 [[0, 1], [1, 0]] [0, 1] [_, _] _ _ _ _ _ _ rfl (seqB (by decide)) rfl rfl (by omega) (by omega) hlook hlook ⟨⟨_, rfl, by omega, by decide, hlook⟩, ⟨_, rfl, by omega, by decide, hlook⟩, trivial⟩⟩, bel⟩
 ·exact bodyPost_ret (results_ct rfl _ _ w.heap.size 134 _ (0, 0) _ rfl hlook Try.underlying134 rfl rfl) rfl ⟨⟨_, rfl, FIN.out 2 [[0, 1], [0, 2], [3, 1], [3, 2]] [0, 0, 1, 1] [_, _, _, _] _ _ _ _ _ _ rfl (seqB (by decide)) rfl rfl (by omega) (by omega) hlook hlook ⟨⟨_, rfl, by omega, by decide, hlook⟩, ⟨_, rfl, by omega, by decide, hlook⟩, ⟨_, rfl, by omega, by decide, hlook⟩, ⟨_, rfl, by omega, by decide, hlook⟩, trivial⟩⟩, bel⟩
 ·exact bodyPost_ret (results_ct rfl _ _ w.heap.size 134 _ (0, 0) _ rfl hlook Try.underlying134 rfl rfl) rfl ⟨⟨_, rfl, FIN.out 2 [[0, 1], [2, 3], [0, 1], [2, 3]] [0, 0, 1, 1] [_, _, _, _] _ _ _ _ _ _ rfl (seqB (by decide)) rfl rfl (by omega) (by omega) hlook hlook ⟨⟨_, rfl, by omega, by decide, hlook⟩, ⟨_, rfl, by omega, by decide, hlook⟩, ⟨_, rfl, by omega, by decide, hlook⟩, ⟨_, rfl, by omega, by decide, hlook⟩, trivial⟩⟩, bel⟩
 ·exact bodyPost_ret (results_ct rfl _ _ w.heap.size 134 _ (0, 0) _ rfl hlook Try.underlying134 rfl rfl) rfl ⟨⟨_, rfl, FIN.out 2 [[0, 1], [1, 2], [2, 2]] [0, 1, 0] [_, _, _] _ _ _ _ _ _ rfl (seqB (by decide)) rfl rfl (by omega) (by omega) hlook hlook ⟨⟨_, rfl, by omega, by decide, hlook⟩, ⟨_, rfl, by omega, by decide, hlook⟩, ⟨_, rfl, by omega, by decide, hlook⟩, trivial⟩⟩, bel⟩
 ·exact bodyPost_ret (results_ct rfl _ _ w.heap.size 134 _ (0, 0) _ rfl hlook Try.underlying134 rfl rfl) rfl ⟨⟨_, rfl, FIN.out 3 [[0, 1, 0], [1, 1, 1]] [1, 0] [_, _] _ _ _ _ _ _ rfl (seqB (by decide)) rfl rfl (by omega) (by omega) hlook hlook ⟨⟨_, rfl, by omega, by decide, hlook⟩, ⟨_, rfl, by omega, by decide, hlook⟩, trivial⟩⟩, bel⟩
 ·exact bodyPost_ret (results_ct rfl _ _ w.heap.size 134 _ (0, 0) _ rfl hlook Try.underlying134 rfl rfl) rfl ⟨⟨_, rfl, FIN.out 2 [[0, 1], [2, 0], [1, 2]] [0, 1, 2] [_, _, _] _ _ _ _ _ _ rfl (seqB (by decide)) rfl rfl (by omega) (by omega) hlook hlook ⟨⟨_, rfl, by omega, by decide, hlook⟩, ⟨_, rfl, by omega, by decide, hlook⟩, ⟨_, rfl, by omega, by decide, hlook⟩, trivial⟩⟩, bel⟩
end

end Go.Proofs.Ytolikggioekalab.PFnPowers
