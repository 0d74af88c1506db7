/- The Go functions that the law FnRuns reaches (part 6): each as a Lean function, and that its code comes to these answers. No condition beyond those written. -/
import Derived.Test.YtolikggioekalabGreatVGGrow
import Derived.Test.YtolikggioekalabGreatVMFnRunsx5
namespace Go.Proofs.YtolikggioekalabGreat.PFnRuns
open Go.RowKit Go.Proofs.YtolikggioekalabGreatW.PrintWords Go.Proofs.YtolikggioekalabGreatW.PrintLast Go.Proofs.YtolikggioekalabGreatW.PrintMore
attribute [local go_sem] max2_int min2_int max_two min_two max_three min_three max_four min_four
set_option linter.unusedVariables false
set_option linter.unusedSimpArgs false
section
open Go.Proofs.YtolikggioekalabGreat.G
theorem spec_IsWord_loop (w : List Int) (n : Nat) (hw : w.length ≤ 1048576) (hn : n ≤ 1048576) (d : Nat) : ∀ i : Nat, i + d = w.length →
  Ev (fun k => spec_IsWord.l0 k w (n : Int) (i : Int)) (decide (RowIn n (w.drop i) ∧ (1 ≤ n ∧ n ≤ 16) ∧ w.length ≤ 400)) := by
 induction d with
 | zero =>
  intro i h
  refine Ev_succ ?_
  simp only [spec_IsWord.l0]
  have e : w.drop i = [] := List.drop_of_length_le (by omega)
  rw [e]
  refine Ev_neg (by omega) ?_
  by_cases c : 1 ≤ n ∧ n ≤ 16
  ·refine Ev_call true (Ev_const ?_) (Ev_pos rfl (Ev_some ?_))
   ·unfold spec_l1In.f; rw [if_pos (by omega)]; congr 1; simp; omega
   ·rw [decide_eq_decide]; constructor
    ·exact fun h => ⟨by simp [RowIn], c, by omega⟩
    ·exact fun h => by have := h.2.2; omega
  ·refine Ev_call false (Ev_const ?_) (Ev_neg (by simp) (Ev_some ?_))
   ·unfold spec_l1In.f
    by_cases c1 : (n : Int) ≥ 1
    ·rw [if_pos c1]; congr 1; simp; omega
    ·rw [if_neg c1]
   ·symm; rw [decide_eq_false_iff_not]; exact fun h => c h.2.1
 | succ d ih =>
  intro i h
  refine Ev_succ ?_
  simp only [spec_IsWord.l0, rd_cast]
  rw [wsucc (n := i) (by omega), drop_cons w i 0 (by omega)]
  refine Ev_pos (by omega) (Ev_pos (by omega) ?_)
  refine Ev_ite (fun h1 => Ev_some ?_) (fun h1 => Ev_ite (fun h2 => Ev_some ?_) (fun h2 => Ev_eq (ih (i + 1) (by omega)) ?_))
  ·symm; rw [decide_eq_false_iff_not]; intro e; have := e.1 _ List.mem_cons_self; omega
  ·symm; rw [decide_eq_false_iff_not]; intro e; have := e.1 _ List.mem_cons_self; omega
  ·rw [decide_eq_decide]
   constructor
   ·rintro ⟨e, e2⟩
    refine ⟨fun v hv => ?_, e2⟩
    rcases List.mem_cons.1 hv with rfl | hv
    ·exact ⟨by omega, by omega⟩
    ·exact e v hv
   ·exact fun ⟨e, e2⟩ => ⟨fun v hv => e v (List.mem_cons_of_mem _ hv), e2⟩
theorem spec_IsWord_ev (w : List Int) (n : Nat) (hw : w.length ≤ 1048576) (hn : n ≤ 1048576) : Ev (fun k => spec_IsWord.f k w (n : Int)) (okWord w n) := by
 unfold spec_IsWord.f okWord
 have := spec_IsWord_loop w n hw hn w.length 0 (by omega)
 rwa [List.drop_zero] at this
theorem spec_l4Has_ev (l : List Int) (x : Int) (hl : l.length ≤ 1048577) : Ev (fun k => spec_l4Has.f k l x) (decide (x ∈ l)) := by
 have loop : ∀ d i : Nat, i + d = l.length → Ev (fun k => spec_l4Has.l0 k l x (i : Int)) (decide (x ∈ l.drop i)) := by
  intro d
  induction d with
  | zero =>
   intro i h
   refine Ev_succ ?_
   simp only [spec_l4Has.l0]
   refine Ev_neg (by omega) (Ev_some ?_)
   rw [List.drop_of_length_le (by omega)]; simp
  | succ d ih =>
   intro i h
   refine Ev_succ ?_
   simp only [spec_l4Has.l0, rd_cast]
   rw [wsucc (n := i) (by omega), drop_cons l i 0 (by omega)]
   refine Ev_pos (by omega) (Ev_pos (by omega) (Ev_ite (fun h1 => Ev_some ?_) (fun h1 => Ev_eq (ih (i + 1) (by omega)) ?_)))
   ·symm; rw [decide_eq_true_eq, h1]; exact List.mem_cons_self
   ·rw [decide_eq_decide, List.mem_cons]; exact ⟨fun e => .inr e, fun e => e.resolve_left (fun e2 => h1 e2.symm)⟩
 unfold spec_l4Has.f
 have := loop l.length 0 (Nat.zero_add _)
 rwa [List.drop_zero] at this
theorem l1In_dec (x a b : Int) : spec_l1In.f x a b = some (decide (a ≤ x ∧ x ≤ b)) := by
 unfold spec_l1In.f
 by_cases h : x ≥ a
 ·rw [if_pos h]; simp [h]
 ·rw [if_neg h]; congr 1; symm; rw [decide_eq_false_iff_not]; omega
def RowOk (rows : List (List Int)) (r : List Int) : Prop := r.length ≤ 8 ∧ RowIn rows.length r
theorem okMor_of {rows : List (List Int)} (h : ∀ x : Int, 0 ≤ x → x < (rows.length : Int) → RowOk rows (rd_L2 rows x)) : okMor rows = decide (1 ≤ (rows.length : Int) ∧ (rows.length : Int) ≤ 16) := by
 unfold okMor
 rw [decide_eq_decide]
 constructor
 ·rintro ⟨h1, _⟩; omega
 ·intro h1
  refine ⟨by omega, fun r hr => ?_⟩
  obtain ⟨i, hi, e⟩ := List.getElem_of_mem hr
  have := h (i : Int) (by omega) (by omega)
  rw [show rd_L2 rows (i : Int) = r from by unfold rd_L2; rw [Int.toNat_natCast, getD_eq hi, e]] at this
  exact this
theorem okMor_row {rows : List (List Int)} {x : Int} (h0 : 0 ≤ x) (h1 : x < (rows.length : Int)) (h : ¬ RowOk rows (rd_L2 rows x)) : okMor rows = false := by
 unfold okMor
 rw [decide_eq_false_iff_not]
 rintro ⟨_, h2⟩
 exact h (h2 _ (mem_getD (d := ([] : List Int)) (by omega)))
set_option maxHeartbeats 8000000 in
set_option maxRecDepth 100000 in
theorem spec_IsMorphism.any (A : Option Addr) (c : Nat) (rows : List (List Int)) (w : World) (hr : Kd.C (Kd.slice 3 (Kd.int .i64)) w A rows.length rows) (hl : rows.length ≤ 1048576) (hrl : ∀ r ∈ rows, r.length ≤ 1048576) :
  Calls Tryz.prog 89 #[.agg #[.slice A rows.length c]] w fun e w' => e = .returned (.bool (okMor rows)) ∧ Below w.heap.size w w' := by
 have huMo := Tryz.underlying72
 have HR := G.a hr
 have HL := G.a hl
 have HRL := G.a hrl
 clear hr hl hrl
 go_enter Tryz.func89, Tryz.ntmps89
 go_wp2_with (first | ((with_reducible refine gate_dst (N := 1) rfl ?_); refine box_event ?hg (N := 1) ?hd (cs := #[.slice A rows.length c]) (t := 72) ?hr ?_; (case hd => rfl); (case hg => rfl); (case hr => first | (go_simp; done) | (go_simp; rfl)); intro gb hg w2 hbox hb; have BX := G.a (box1 hbox); have H0 := G.a hb; clear hg hbox hb))
 have HB := G.a (Below.refl w2.heap.size w2)
 go_loopg [3] rows.length (fun kq v3 w' => ∃ x : Int, v3 = .int .i64 x ∧ Aside0 (0 ≤ x ∧ x ≤ (rows.length : Int) ∧ (rows.length : Int) ≤ x + kq) ∧ Aside0 (∀ j : Int, 0 ≤ j → j < x → RowOk rows (rd_L2 rows j)) ∧ Aside0 (Below w2.heap.size w2 w'))
 case atStart => exact ⟨0, rfl, ⟨by omega⟩, ⟨fun j h1 h2 => by omega⟩, ⟨bel⟩⟩
 case round =>
  clear HB
  obtain ⟨x, rfl, HX, HJ, HB⟩ := hrel
  obtain ⟨z0, y0⟩ := BX.out _ HB.out
  by_cases c1 : x < (rows.length : Int)
  ·have cb : decide (x < (rows.length : Int)) = true := decide_eq_true c1
   obtain ⟨ad, Ar, cr, e1, hx1, hl1, hi1⟩ := at_L2 HR.out x HX.out.1 c1
   cases e1
   have hrow := HRL.out (rd_L2 rows x) (mem_getD (d := ([] : List Int)) (by have := HX.out; omega))
   obtain ⟨K, hK⟩ := spec_IsWord_ev (rd_L2 rows x) rows.length hrow HL.out
   have hK := hK K (Nat.le_refl _)
   replace hx1 := pw_cell_below (below_step H0.out HB.out) hx1
   have HC := G.a c1
   have HOK := G.a (show okWord (rd_L2 rows x) rows.length = false → ¬ RowOk rows (rd_L2 rows x) ∨ okMor rows = false from fun e => by
    by_cases q : RowOk rows (rd_L2 rows x)
    ·right
     unfold okWord at e
     unfold okMor
     rw [decide_eq_false_iff_not] at e ⊢
     rintro ⟨h1, _⟩
     exact e ⟨q.2, h1, by have := q.1; omega⟩
    ·exact .inl q)
   have HOK2 := G.a (show okWord (rd_L2 rows x) rows.length = true → RowIn rows.length (rd_L2 rows x) from fun e => by
    unfold okWord at e
    rw [decide_eq_true_eq] at e
    exact e.1)
   generalize okWord (rd_L2 rows x) rows.length = bw at hK HOK HOK2
   have HD : ∀ q, Calls Tryz.prog 94 #[.slice Ar (rd_L2 rows x).length cr, .int .i64 (rows.length : Int)] (wr.drewN q) fun e w' => e = .returned (.bool bw) ∧ ∃ m, w' = (wr.drewN q).drewN m := fun q => (spec_IsWord.calls K _ _ _ _ bw _ (Kd.C_below hi1 (below_step H0.out (pw_below_drewN HB.out q))) hl1 hK).mono (fun _ _ h => ⟨h.1, h.2.out⟩)
   clear c1 hK hi1 hl1 hrow
   have p1 := eq_true HX.out.1
   have q1 := eq_true HC.out
   cases bw with
   | false =>
    go_wp2_with fail
    go_quiet ((go_at_call 94; exact Calls.quiet_of (HD _)))
    go_wp2
    go_ret
    exact ⟨by rcases HOK.out (by simp) with q | q; (rw [okMor_row HX.out.1 HC.out q]; rfl); (rw [q]; rfl), below_step H0.out bel⟩
   | true =>
    by_cases c2 : ((rd_L2 rows x).length : Int) > 8
    ·have d2 : decide (8 < ((rd_L2 rows x).length : Int)) = true := decide_eq_true c2
     have HC2 := G.a c2
     clear c2
     go_wp2_with fail
     go_quiet ((go_at_call 94; exact Calls.quiet_of (HD _)))
     go_wp2
     go_ret
     exact ⟨by rw [okMor_row HX.out.1 HC.out (fun q => by have := q.1; have := HC2.out; omega)]; rfl, below_step H0.out bel⟩
    ·have d2 : decide (8 < ((rd_L2 rows x).length : Int)) = false := decide_eq_false c2
     have HC2 := G.a c2
     clear c2
     go_wp2_with fail
     go_quiet ((go_at_call 94; exact Calls.quiet_of (HD _)))
     go_wp2
     go_roundg (gk - 1)
     case measure => have := HX.out; have := HC.out; omega
     case rel =>
      have hx := HX.out; have hc := HC.out; have hl := HL.out
      refine ⟨wrap64 (x + 1), rfl, ⟨?_⟩, ⟨fun j h1 h2 => ?_⟩, ⟨bel⟩⟩
      ·rw [wsx (n := 1099511627776) (by omega) (by omega) (by omega)]; omega
      ·rw [wsx (n := 1099511627776) (by omega) (by omega) (by omega)] at h2
       by_cases e : j = x
       ·subst e; exact ⟨by have := HC2.out; omega, HOK2.out (by simp)⟩
       ·exact HJ.out j h1 (by omega)
  ·have cb : decide (x < (rows.length : Int)) = false := decide_eq_false c1
   have he := okMor_of (fun j h1 h2 => HJ.out j h1 (by have := HX.out; omega))
   have hi := l1In_dec (rows.length : Int) 1 16
   generalize decide (1 ≤ (rows.length : Int) ∧ (rows.length : Int) ≤ 16) = q at he hi
   have HE := G.a he
   have HI := G.a hi
   clear c1 he hi
   go_wp2_with (go_at_call 75; refine (spec_l1In.calls _ _ _ _ _ HI.out).mono ?_; rintro e w' ⟨rfl, ⟨nd, rfl⟩⟩)
   go_ret
   exact ⟨by rw [HE.out]; rfl, below_step H0.out bel⟩
end
end Go.Proofs.YtolikggioekalabGreat.PFnRuns
