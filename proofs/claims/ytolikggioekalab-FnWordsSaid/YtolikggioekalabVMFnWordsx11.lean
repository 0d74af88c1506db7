/- The Go functions that the law FnWords reaches (part 11): each as a Lean function, and that its code comes to these answers. No condition beyond those written. -/
import Derived.Deep.RegionHeld3
import Derived.Test.YtolikggioekalabVGSlim
import Derived.Test.YtolikggioekalabVGMor
import Derived.Test.YtolikggioekalabVGGrow
import Derived.Test.YtolikggioekalabVGDraw
import Derived.Test.YtolikggioekalabVMFnWordsx8
import Derived.Test.YtolikggioekalabVMFnWordsx7
import Derived.Test.YtolikggioekalabVMFnWordsx6
import Derived.Test.YtolikggioekalabVMFnWordsx5
import Derived.Test.YtolikggioekalabVMFnWordsx4
import Derived.Test.YtolikggioekalabVMFnWordsx3
import Derived.Test.YtolikggioekalabVMFnWordsx2
import Derived.Test.YtolikggioekalabVMFnWordsx0
import Derived.Test.YtolikggioekalabVMFnWordsx1
import Derived.Test.YtolikggioekalabVMFnWordsx9
import Derived.Test.YtolikggioekalabVMFnWordsx10
namespace Go.Proofs.Ytolikggioekalab.PFnWords
open Go.RowKit Go.Proofs.YtolikggioekalabW.PrintWords Go.Proofs.YtolikggioekalabW.PrintLast Go.Proofs.YtolikggioekalabW.PrintMore
attribute [local go_sem] max2_int min2_int max_two min_two max_three min_three max_four min_four   -- for this text's walks alone
set_option linter.unusedVariables false
set_option linter.unusedSimpArgs false

/-! ### spec_TermAt: own walk, a loose contract -/
-- lib: GDraw
-- num: RL=def rd_L(\d+) \(xs : List \(List Int\)\) \(i : Int\)
-- mod: Derived.Deep.RegionHeld3
section
open Go.Proofs.Ytolikggioekalab.G
theorem digits_good : ∀ n : Nat, n < 50 → ∀ b : Nat, b < 5 → 2 ≤ b → ∃ d, spec_DigitsOf.f 40 (n : Int) (b : Int) = some d ∧ spec_AreDigits.f 40 d (b : Int) = some true ∧ d.length ≤ 16 ∧ ∀ x ∈ d, 0 ≤ x ∧ x < (b : Int) := by
 have key : ((List.range 50).all fun n => [2, 3, 4].all fun b => match spec_DigitsOf.f 40 ((n : Nat) : Int) ((b : Nat) : Int) with
  | some d => spec_AreDigits.f 40 d (b : Int) == some true && decide (d.length ≤ 16) && d.all fun x => decide (0 ≤ x) && decide (x < (b : Int))
  | none => false) = true := by decide +kernel
 intro n hn b hb hb2
 rw [List.all_eq_true] at key
 have h1 := key n (List.mem_range.2 hn)
 rw [List.all_eq_true] at h1
 have h2 := h1 b (by simp; omega)
 revert h2
 cases spec_DigitsOf.f 40 (n : Int) (b : Int) with
 | none => intro h; cases h
 | some d =>
  intro h
  simp only [Bool.and_eq_true, beq_iff_eq, decide_eq_true_eq, List.all_eq_true] at h
  exact ⟨d, rfl, h.1.1, h.1.2, h.2⟩
theorem power_good : ∀ b : Nat, b < 5 → 2 ≤ b → ∃ p, spec_PowerOf.f 40 (b : Int) 16 = some p ∧ 1000 ≤ p := by
 have key : ([2, 3, 4].all fun b => match spec_PowerOf.f 40 ((b : Nat) : Int) 16 with
  | some p => decide (1000 ≤ p)
  | none => false) = true := by decide +kernel
 intro b hb hb2
 rw [List.all_eq_true] at key
 have h2 := key b (by simp; omega)
 revert h2
 cases spec_PowerOf.f 40 (b : Int) 16 with
 | none => intro h; cases h
 | some p => intro h; exact ⟨p, rfl, by simpa using h⟩
set_option maxHeartbeats 8000000 in
set_option maxRecDepth 100000 in
theorem spec_TermAt.any (b : Int) (A1 : Option Addr) (c1 : Nat) (rows : List (List Int)) (A2 : Option Addr) (c2 : Nat) (out : List Int) (n : Nat) (w : World)
  (hr1 : Kd.C (Kd.slice 3 (Kd.int .i64)) w A1 rows.length rows) (hr2 : Kd.C (Kd.int .i64) w A2 out.length out) (hW : SeqW b rows out) (hn : n < 50) :
  Calls Try.prog 203 #[.agg #[.int .i64 b, .slice A1 rows.length c1, .slice A2 out.length c2], .int .i64 (n : Int)] w fun e w' => (∃ v : Int, e = .returned (.int .i64 v)) ∧ Below w.heap.size w w' := by
 have huSq := Try.underlying134
 obtain ⟨b, rfl⟩ := Int.eq_ofNat_of_zero_le (show 0 ≤ b by have := hW.b2; omega)
 obtain ⟨d, hd1, hd2, hd3, hd4⟩ := digits_good n hn b (by have := hW.b4; omega) (by have := hW.b2; omega)
 obtain ⟨p, hp1, hp2⟩ := power_good b (by have := hW.b4; omega) (by have := hW.b2; omega)
 have hst := hW.stA hd4
 obtain ⟨ad, e, hx⟩ := Kd.at_int hr2 (stA rows d) hst.1 (by rw [hW.olen]; exact hst.2)
 cases e
 have D0 : decide ((n : Int) < 0) = false := decide_eq_false (by omega)
 have D1 : decide (p ≤ (n : Int)) = false := decide_eq_false (by omega)
 have p1 := eq_true hst.1
 have q1 := eq_true (show stA rows d < (out.length : Int) by rw [hW.olen]; exact hst.2)
 have HR1 := Aside0.mk hr1
 have HR2 := Aside0.mk hr2
 have HW := Aside0.mk hW
 have HD1 := Aside0.mk hd1
 have HD2 := Aside0.mk hd2
 have HD3 := Aside0.mk hd3
 have HD4 := Aside0.mk hd4
 have HP := Aside0.mk hp1
 have HX := Aside0.mk hx
 clear hr1 hr2 hW hd1 hd2 hd3 hd4 hp1 hp2 hst hn hx
 go_enter Try.func203, Try.ntmps203
 go_upto_region 1 with (first | ((with_reducible refine gate_dst (N := 2) rfl ?_); refine box_event ?hg (N := 2) ?hd (cs := #[.int .i64 (b : Int), .slice A1 rows.length c1, .slice (some ad) out.length c2]) (t := 134) ?hr ?_; (case hd => rfl); (case hg => rfl); (case hr => first | (go_simp; done) | (go_simp; rfl)); intro gb hg w2 hbox hb; have BX := Aside0.mk (box3 hbox); have H0 := Aside0.mk hb; clear hg hbox hb))
 have HB := Aside0.mk (Below.refl w2.heap.size w2)
 obtain ⟨z0, z1, z2, y0, y1, y2⟩ := BX.out _ HB.out
 go_wp2_with (first | (go_at_call 202; refine (spec_IsSequence.any _ _ _ _ _ _ _ _ (Kd.C_below HR1.out (below_step H0.out bel)) (Kd.C_below HR2.out (below_step H0.out bel)) HW.out).mono ?_; rintro e w3 ⟨rfl, hb⟩; have n_ := Aside0.mk (below_step HB.out hb); clear HB hb; have HB := n_; clear n_; obtain ⟨z0, z1, z2, y0, y1, y2⟩ := BX.out _ HB.out) | (go_at_call 208; refine (spec_PowerOf.calls 40 _ _ p _ HP.out).mono ?_; rintro e w' ⟨rfl, ⟨nd, rfl⟩⟩))
 obtain ⟨z0, z1, z2, y0, y1, y2⟩ := BX.out _ (show Below w2.heap.size w2 _ from bel)
 go_region_held3 (fun W => W.cell? ⟨gb, 0, none⟩ = some (.int .i64 (b : Int)) ∧ W.cell? ⟨gb, 1, none⟩ = some (.slice A1 rows.length c1) ∧ W.cell? ⟨gb, 2, none⟩ = some (.slice (some ad) out.length c2) ∧ W.cell? (ad.add (stA rows d).toNat) = some (.int .i64 (rd out (stA rows d)))) (first | exact ⟨(BX.out _ bel).1, (BX.out _ bel).2.1, (BX.out _ bel).2.2.1, pw_cell_below (below_step H0.out bel) HX.out⟩) (first | (go_at_call 210; refine (spec_DigitsOf.calls 40 _ _ d _ HD1.out).mono ?_; rintro e w4 ⟨vd, rfl, ho, hb⟩; have n_ := Aside0.mk (below_step (show Below w2.heap.size w2 _ from bel) hb); clear HB hb; have HB := n_; clear n_; have HO := Aside0.mk ho; clear ho; obtain ⟨Ad, cd, ed⟩ := Kd.R_slice HO.out; subst ed) | (go_at_call 209; refine (spec_StateAfter.any _ _ _ _ _ _ _ _ _ _ _ _ (Kd.C_below HR1.out (below_step H0.out bel)) (Kd.C_below HR2.out (below_step H0.out bel)) HW.out (Kd.R_reads' HO.out).2.2 (Kd.R_reads' HO.out).2.1 HD4.out HD3.out HD2.out).mono ?_; rintro e w5 ⟨rfl, hb⟩; have n_ := Aside0.mk (below_step HB.out hb); clear HB hb; have HB := n_; clear n_))
 go_wp2
 go_ret
 exact ⟨⟨_, rfl⟩, below_step H0.out bel⟩
end

/-! ### spec_PrefixOf: own walk, a loose contract -/
-- lib: GDraw
-- num: RL=def rd_L(\d+) \(xs : List \(List Int\)\) \(i : Int\)
section
open Go.Proofs.Ytolikggioekalab.G
set_option maxHeartbeats 8000000 in
set_option maxRecDepth 100000 in
theorem spec_PrefixOf.any (b : Int) (A1 : Option Addr) (c1 : Nat) (rows : List (List Int)) (A2 : Option Addr) (c2 : Nat) (out : List Int) (n : Nat) (w : World)
  (hr1 : Kd.C (Kd.slice 3 (Kd.int .i64)) w A1 rows.length rows) (hr2 : Kd.C (Kd.int .i64) w A2 out.length out) (hW : SeqW b rows out) (hn : n < 50) :
  Calls Try.prog 187 #[.agg #[.int .i64 b, .slice A1 rows.length c1, .slice A2 out.length c2], .int .i64 (n : Int)] w fun e w' => (∃ (v : Value) (l : List Int), e = .returned v ∧ l.length < 50 ∧ Kd.R (Kd.int .i64) 3 w' w.heap.size (fun _ => True) v l) ∧ Below w.heap.size w w' := by
 have huSq := Try.underlying134
 have HR1 := Aside0.mk hr1
 have HR2 := Aside0.mk hr2
 have HW := Aside0.mk hW
 have HN := Aside0.mk hn
 have D1 : decide ((n : Int) ≤ 256) = true := decide_eq_true (by omega)
 clear hr1 hr2 hW hn
 go_enter Try.func187, Try.ntmps187
 go_upto_region 1 with (first | ((with_reducible refine gate_dst (N := 2) rfl ?_); refine box_event ?hg (N := 2) ?hd (cs := #[.int .i64 b, .slice A1 rows.length c1, .slice A2 out.length c2]) (t := 134) ?hr ?_; (case hd => rfl); (case hg => rfl); (case hr => first | (go_simp; done) | (go_simp; rfl)); intro gb hg w2 hbox hb; have BX := Aside0.mk (box3 hbox); have H0 := Aside0.mk hb; clear hg hbox hb))
 have HB := Aside0.mk (Below.refl w2.heap.size w2)
 go_wp2_with (first | ((with_reducible refine gate_dst (N := 7) rfl ?_); refine Kd.R_lit (Kd.int .i64) _ 3 ?hg (N := 7) ?hd (xs := ([] : List Int)) (inner := []) (ok := fun _ => True) (okp := fun _ => True) ?hr ?hp (fun _ hk => hk) trivial (Below.refl _ _) (Nat.le_refl _) (by simp) ?_; (case hd => rfl); (case hg => rfl); (case hr => first | (go_simp; done) | (go_simp; rfl)); (case hp => exact (Reps.none _ _)); intro v3 w3 ho hb hg_ hnew_; clear hg_ hnew_; have n_ := Aside0.mk (below_step HB.out hb); have HO := Aside0.mk ho; clear ho HB hb; have HB := n_; clear n_))
 go_loopg [5, 6] n (fun kq v5 v6 w' => ∃ (l : List Int) (y : Int), v6 = .int .i64 y ∧ Aside0 (y = (l.length : Int) ∧ l.length ≤ n ∧ n ≤ l.length + kq) ∧ Aside0 (Kd.R (Kd.int .i64) 3 w' w2.heap.size (fun _ => True) v5 l) ∧ Aside0 (Below w2.heap.size w2 w'))
 case atStart => exact ⟨[], 0, rfl, ⟨⟨rfl, by simp, by simp⟩⟩, ⟨HO.out⟩, ⟨bel⟩⟩
 case round =>
  clear HB HO
  obtain ⟨l, y, rfl, HY, HO, HB⟩ := hrel
  obtain ⟨z0, z1, z2, y0, y1, y2⟩ := BX.out _ HB.out
  by_cases c : y < (n : Int)
  ·have cb : decide (y < (n : Int)) = true := decide_eq_true c
   have HC := Aside0.mk c
   clear c
   go_wp2_with (first | (go_at_call 202; refine (spec_IsSequence.any _ _ _ _ _ _ _ _ (Kd.C_below HR1.out (below_step H0.out bel)) (Kd.C_below HR2.out (below_step H0.out bel)) HW.out).mono ?_; rintro e w3 ⟨rfl, hb⟩; have n_ := Aside0.mk (below_step HB.out hb); have m_ := Aside0.mk (Kd.R_below HO.out hb); clear HB hb HO; have HB := n_; have HO := m_; clear n_ m_; obtain ⟨z0, z1, z2, y0, y1, y2⟩ := BX.out _ HB.out) | (go_at_call 203; rw [HY.out.1]; refine (spec_TermAt.any _ _ _ _ _ _ _ _ _ (Kd.C_below HR1.out (below_step H0.out bel)) (Kd.C_below HR2.out (below_step H0.out bel)) HW.out (by have := HY.out; have := HN.out; have := HC.out; omega)).mono ?_; rintro e w3 ⟨⟨t, rfl⟩, hb⟩; have n_ := Aside0.mk (below_step HB.out hb); have m_ := Aside0.mk (Kd.R_below HO.out hb); clear HB hb HO; have HB := n_; have HO := m_; clear n_ m_) | ((with_reducible refine gate_builtin (b := .append) (xs := #[.tmp 21, .tmp 25]) rfl ?_); at_builtin; refine Kd.R_append (Kd.int .i64) (w0 := w2) w2.heap.size rfl (.tmp 21) (.tmp 25) 22 3 (.int .i64 0) 8 rfl Try.underlying22 info3 rfl (by decide) (by omega) u5 l t [.int .i64 t] (fun _ => True) (fun _ => False) rfl rfl ?aP (fun _ hk => hk.elim) ?aF ?aO ?aB ?aS ?aL ?_; (case aP => exact rfl); (case aF => exact (fun _ _ => trivial)); (case aO => exact (G.kR HO.out)); (case aB => exact bel); (case aS => exact below_size bel); (case aL => have := HY.out; have := HN.out; omega); intro v1 w1 ho hb hg hat; have n_ := Aside0.mk hb; have m_ := Aside0.mk ho; clear HB HO hb ho hg hat; have HB := n_; have HO := m_; clear n_ m_))
   go_roundg (gk - 1)
   case measure => have := HY.out; have := HC.out; omega
   case rel => exact ⟨l ++ [t], wrap64 (y + 1), by rw [HY.out.1], ⟨by have := HY.out; have := HC.out; have := HN.out; rw [wsx (n := 1099511627776) (by omega) (by omega) (by omega), List.length_append, List.length_singleton]; omega⟩, ⟨HO.out⟩, ⟨bel⟩⟩
  ·have cb : decide (y < (n : Int)) = false := decide_eq_false c
   clear c
   go_wp2
   go_ret
   exact ⟨⟨_, l, rfl, by have := HY.out; have := HN.out; omega, Kd.R_lower HO.out H0.out.size⟩, below_step H0.out bel⟩
end

/-! ### spec_IsMorphism: own walk, a loose contract -/
-- lib: GDraw GGrow GMor
-- num: RL=def rd_L(\d+) \(xs : List \(List Int\)\) \(i : Int\)
section
open Go.Proofs.Ytolikggioekalab.G
theorem spec_IsWord_loop (w : List Int) (n : Nat) (hw : w.length ≤ 1048576) (hn : n ≤ 1048576) (d : Nat) : ∀ i : Nat, i + d = w.length →
  Ev (fun k => spec_IsWord.l0 k w (n : Int) (i : Int)) (decide (RowIn n (w.drop i) ∧ (1 ≤ n ∧ n ≤ 16) ∧ w.length ≤ 400)) := by
 induction d with
 | zero =>
  intro i h
  refine Ev_succ ?_
  simp only [spec_IsWord.l0]
  have e : w.drop i = [] := List.drop_of_length_le (by omega)
  rw [e]
  refine Ev_neg (by omega) ?_
  by_cases c : 1 ≤ n ∧ n ≤ 16
  ·refine Ev_call true (Ev_const ?_) (Ev_pos rfl (Ev_some ?_))
   ·unfold spec_l1In.f; rw [if_pos (by omega)]; congr 1; simp; omega
   ·rw [decide_eq_decide]; constructor
    ·exact fun h => ⟨by simp [RowIn], c, by omega⟩
    ·exact fun h => by have := h.2.2; omega
  ·refine Ev_call false (Ev_const ?_) (Ev_neg (by simp) (Ev_some ?_))
   ·unfold spec_l1In.f
    by_cases c1 : (n : Int) ≥ 1
    ·rw [if_pos c1]; congr 1; simp; omega
    ·rw [if_neg c1]
   ·symm; rw [decide_eq_false_iff_not]; exact fun h => c h.2.1
 | succ d ih =>
  intro i h
  refine Ev_succ ?_
  simp only [spec_IsWord.l0, rd_cast]
  rw [wsucc (n := i) (by omega), drop_cons w i 0 (by omega)]
  refine Ev_pos (by omega) (Ev_pos (by omega) ?_)
  refine Ev_ite (fun h1 => Ev_some ?_) (fun h1 => Ev_ite (fun h2 => Ev_some ?_) (fun h2 => Ev_eq (ih (i + 1) (by omega)) ?_))
  ·symm; rw [decide_eq_false_iff_not]; intro e; have := e.1 _ List.mem_cons_self; omega
  ·symm; rw [decide_eq_false_iff_not]; intro e; have := e.1 _ List.mem_cons_self; omega
  ·rw [decide_eq_decide]
   constructor
   ·rintro ⟨e, e2⟩
    refine ⟨fun v hv => ?_, e2⟩
    rcases List.mem_cons.1 hv with rfl | hv
    ·exact ⟨by omega, by omega⟩
    ·exact e v hv
   ·exact fun ⟨e, e2⟩ => ⟨fun v hv => e v (List.mem_cons_of_mem _ hv), e2⟩

theorem spec_IsWord_ev (w : List Int) (n : Nat) (hw : w.length ≤ 1048576) (hn : n ≤ 1048576) : Ev (fun k => spec_IsWord.f k w (n : Int)) (okWord w n) := by
 unfold spec_IsWord.f okWord
 have := spec_IsWord_loop w n hw hn w.length 0 (by omega)
 rwa [List.drop_zero] at this
theorem spec_l4Has_ev (l : List Int) (x : Int) (hl : l.length ≤ 1048577) : Ev (fun k => spec_l4Has.f k l x) (decide (x ∈ l)) := by
 have loop : ∀ d i : Nat, i + d = l.length → Ev (fun k => spec_l4Has.l0 k l x (i : Int)) (decide (x ∈ l.drop i)) := by
  intro d
  induction d with
  | zero =>
   intro i h
   refine Ev_succ ?_
   simp only [spec_l4Has.l0]
   refine Ev_neg (by omega) (Ev_some ?_)
   rw [List.drop_of_length_le (by omega)]; simp
  | succ d ih =>
   intro i h
   refine Ev_succ ?_
   simp only [spec_l4Has.l0, rd_cast]
   rw [wsucc (n := i) (by omega), drop_cons l i 0 (by omega)]
   refine Ev_pos (by omega) (Ev_pos (by omega) (Ev_ite (fun h1 => Ev_some ?_) (fun h1 => Ev_eq (ih (i + 1) (by omega)) ?_)))
   ·symm; rw [decide_eq_true_eq, h1]; exact List.mem_cons_self
   ·rw [decide_eq_decide, List.mem_cons]; exact ⟨fun e => .inr e, fun e => e.resolve_left (fun e2 => h1 e2.symm)⟩
 unfold spec_l4Has.f
 have := loop l.length 0 (Nat.zero_add _)
 rwa [List.drop_zero] at this
theorem l1In_dec (x a b : Int) : spec_l1In.f x a b = some (decide (a ≤ x ∧ x ≤ b)) := by
 unfold spec_l1In.f
 by_cases h : x ≥ a
 ·rw [if_pos h]; simp [h]
 ·rw [if_neg h]; congr 1; symm; rw [decide_eq_false_iff_not]; omega
def RowOk (rows : List (List Int)) (r : List Int) : Prop := r.length ≤ 8 ∧ RowIn rows.length r
theorem okMor_of {rows : List (List Int)} (h : ∀ x : Int, 0 ≤ x → x < (rows.length : Int) → RowOk rows (rd_L1 rows x)) : okMor rows = decide (1 ≤ (rows.length : Int) ∧ (rows.length : Int) ≤ 16) := by
 unfold okMor
 rw [decide_eq_decide]
 constructor
 ·rintro ⟨h1, _⟩; omega
 ·intro h1
  refine ⟨by omega, fun r hr => ?_⟩
  obtain ⟨i, hi, e⟩ := List.getElem_of_mem hr
  have := h (i : Int) (by omega) (by omega)
  rw [show rd_L1 rows (i : Int) = r from by unfold rd_L1; rw [Int.toNat_natCast, getD_eq hi, e]] at this
  exact this
theorem okMor_row {rows : List (List Int)} {x : Int} (h0 : 0 ≤ x) (h1 : x < (rows.length : Int)) (h : ¬ RowOk rows (rd_L1 rows x)) : okMor rows = false := by
 unfold okMor
 rw [decide_eq_false_iff_not]
 rintro ⟨_, h2⟩
 exact h (h2 _ (mem_getD (d := ([] : List Int)) (by omega)))
set_option maxHeartbeats 8000000 in
set_option maxRecDepth 100000 in
theorem spec_IsMorphism.any (A : Option Addr) (c : Nat) (rows : List (List Int)) (w : World) (hr : Kd.C (Kd.slice 3 (Kd.int .i64)) w A rows.length rows) (hl : rows.length ≤ 1048576) (hrl : ∀ r ∈ rows, r.length ≤ 1048576) :
  Calls Try.prog 211 #[.agg #[.slice A rows.length c]] w fun e w' => e = .returned (.bool (okMor rows)) ∧ Below w.heap.size w w' := by
 have huMo := Try.underlying138
 have HR := Aside0.mk hr
 have HL := Aside0.mk hl
 have HRL := Aside0.mk hrl
 clear hr hl hrl
 go_enter Try.func211, Try.ntmps211
 go_wp2_with (first | ((with_reducible refine gate_dst (N := 1) rfl ?_); refine box_event ?hg (N := 1) ?hd (cs := #[.slice A rows.length c]) (t := 138) ?hr ?_; (case hd => rfl); (case hg => rfl); (case hr => first | (go_simp; done) | (go_simp; rfl)); intro gb hg w2 hbox hb; have BX := Aside0.mk (box1 hbox); have H0 := Aside0.mk hb; clear hg hbox hb))
 have HB := Aside0.mk (Below.refl w2.heap.size w2)
 go_loopg [3] rows.length (fun kq v3 w' => ∃ x : Int, v3 = .int .i64 x ∧ Aside0 (0 ≤ x ∧ x ≤ (rows.length : Int) ∧ (rows.length : Int) ≤ x + kq) ∧ Aside0 (∀ j : Int, 0 ≤ j → j < x → RowOk rows (rd_L1 rows j)) ∧ Aside0 (Below w2.heap.size w2 w'))
 case atStart => exact ⟨0, rfl, ⟨by omega⟩, ⟨fun j h1 h2 => by omega⟩, ⟨bel⟩⟩
 case round =>
  clear HB
  obtain ⟨x, rfl, HX, HJ, HB⟩ := hrel
  obtain ⟨z0, y0⟩ := BX.out _ HB.out
  by_cases c1 : x < (rows.length : Int)
  ·have cb : decide (x < (rows.length : Int)) = true := decide_eq_true c1
   obtain ⟨ad, Ar, cr, e1, hx1, hl1, hi1⟩ := at_L1 HR.out x HX.out.1 c1
   cases e1
   have hrow := HRL.out (rd_L1 rows x) (mem_getD (d := ([] : List Int)) (by have := HX.out; omega))
   obtain ⟨K, hK⟩ := spec_IsWord_ev (rd_L1 rows x) rows.length hrow HL.out
   have hK := hK K (Nat.le_refl _)
   replace hx1 := pw_cell_below (below_step H0.out HB.out) hx1
   have HC := Aside0.mk c1
   have HOK := Aside0.mk (show okWord (rd_L1 rows x) rows.length = false → ¬ RowOk rows (rd_L1 rows x) ∨ okMor rows = false from fun e => by
    by_cases q : RowOk rows (rd_L1 rows x)
    ·right
     unfold okWord at e
     unfold okMor
     rw [decide_eq_false_iff_not] at e ⊢
     rintro ⟨h1, _⟩
     exact e ⟨q.2, h1, by have := q.1; omega⟩
    ·exact .inl q)
   have HOK2 := Aside0.mk (show okWord (rd_L1 rows x) rows.length = true → RowIn rows.length (rd_L1 rows x) from fun e => by
    unfold okWord at e
    rw [decide_eq_true_eq] at e
    exact e.1)
   generalize okWord (rd_L1 rows x) rows.length = bw at hK HOK HOK2
   have HD : ∀ q, Calls Try.prog 67 #[.slice Ar (rd_L1 rows x).length cr, .int .i64 (rows.length : Int)] (wr.drewN q) fun e w' => e = .returned (.bool bw) ∧ ∃ m, w' = (wr.drewN q).drewN m := fun q => (spec_IsWord.calls K _ _ _ _ bw _ (Kd.C_below hi1 (below_step H0.out (pw_below_drewN HB.out q))) hl1 hK).mono (fun _ _ h => ⟨h.1, h.2.out⟩)
   clear c1 hK hi1 hl1 hrow
   have p1 := eq_true HX.out.1
   have q1 := eq_true HC.out
   cases bw with
   | false =>
    go_wp2_with fail
    go_quiet ((go_at_call 67; exact Calls.quiet_of (HD _)))
    go_wp2
    go_ret
    exact ⟨by rcases HOK.out (by simp) with q | q; (rw [okMor_row HX.out.1 HC.out q]; rfl); (rw [q]; rfl), below_step H0.out bel⟩
   | true =>
    by_cases c2 : ((rd_L1 rows x).length : Int) > 8
    ·have d2 : decide (8 < ((rd_L1 rows x).length : Int)) = true := decide_eq_true c2
     have HC2 := Aside0.mk c2
     clear c2
     go_wp2_with fail
     go_quiet ((go_at_call 67; exact Calls.quiet_of (HD _)))
     go_wp2
     go_ret
     exact ⟨by rw [okMor_row HX.out.1 HC.out (fun q => by have := q.1; have := HC2.out; omega)]; rfl, below_step H0.out bel⟩
    ·have d2 : decide (8 < ((rd_L1 rows x).length : Int)) = false := decide_eq_false c2
     have HC2 := Aside0.mk c2
     clear c2
     go_wp2_with fail
     go_quiet ((go_at_call 67; exact Calls.quiet_of (HD _)))
     go_wp2
     go_roundg (gk - 1)
     case measure => have := HX.out; have := HC.out; omega
     case rel =>
      have hx := HX.out; have hc := HC.out; have hl := HL.out
      refine ⟨wrap64 (x + 1), rfl, ⟨?_⟩, ⟨fun j h1 h2 => ?_⟩, ⟨bel⟩⟩
      ·rw [wsx (n := 1099511627776) (by omega) (by omega) (by omega)]; omega
      ·rw [wsx (n := 1099511627776) (by omega) (by omega) (by omega)] at h2
       by_cases e : j = x
       ·subst e; exact ⟨by have := HC2.out; omega, HOK2.out (by simp)⟩
       ·exact HJ.out j h1 (by omega)
  ·have cb : decide (x < (rows.length : Int)) = false := decide_eq_false c1
   have he := okMor_of (fun j h1 h2 => HJ.out j h1 (by have := HX.out; omega))
   have hi := l1In_dec (rows.length : Int) 1 16
   generalize decide (1 ≤ (rows.length : Int) ∧ (rows.length : Int) ≤ 16) = q at he hi
   have HE := Aside0.mk he
   have HI := Aside0.mk hi
   clear c1 he hi
   go_wp2_with (go_at_call 111; refine (spec_l1In.calls _ _ _ _ _ HI.out).mono ?_; rintro e w' ⟨rfl, ⟨nd, rfl⟩⟩)
   go_ret
   exact ⟨by rw [HE.out]; rfl, below_step H0.out bel⟩
end

end Go.Proofs.Ytolikggioekalab.PFnWords
