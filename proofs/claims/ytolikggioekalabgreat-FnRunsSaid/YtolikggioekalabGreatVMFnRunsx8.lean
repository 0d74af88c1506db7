/- The Go functions that the law FnRuns reaches (part 8): each as a Lean function, and that its code comes to these answers. No condition beyond those written. -/
import Derived.Deep.RegionHeld3
import Derived.Deep.RegionLaw
import Derived.Test.YtolikggioekalabGreatVMFnRunsx7
namespace Go.Proofs.YtolikggioekalabGreat.PFnRuns
open Go.RowKit Go.Proofs.YtolikggioekalabGreatW.PrintWords Go.Proofs.YtolikggioekalabGreatW.PrintLast Go.Proofs.YtolikggioekalabGreatW.PrintMore
attribute [local go_sem] max2_int min2_int max_two min_two max_three min_three max_four min_four
set_option maxHeartbeats 8000000
set_option maxRecDepth 100000
set_option linter.unusedVariables false
set_option linter.unusedSimpArgs false
section
open Go.Proofs.YtolikggioekalabGreat.G
theorem appM_append (l : List (List Int)) (u v : List Int) : appM l (u ++ v) = appM l u ++ appM l v := by unfold appM; rw [List.flatMap_append]
def itM (l : List (List Int)) : Nat → List Int → List Int
 | 0, w => w
 | m + 1, w => itM l m (appM l w)
theorem itM_append (l : List (List Int)) (m : Nat) : ∀ u v, itM l m (u ++ v) = itM l m u ++ itM l m v := by
 induction m with
 | zero => intro u v; rfl
 | succ m ih => intro u v; rw [itM, itM, itM, appM_append, ih]
theorem itM_lives (l : List (List Int)) (m : Nat) : ∀ y, lives l m y = true → 0 < (itM l m [y]).length := by
 induction m with
 | zero => intro y _; simp [itM]
 | succ m ih =>
  intro y h
  rw [lives, List.any_eq_true] at h
  obtain ⟨z, hz, e⟩ := h
  obtain ⟨p, q, hpq⟩ := List.append_of_mem hz
  have e1 : appM l [y] = p ++ ([z] ++ q) := by
   unfold appM; rw [List.flatMap_cons, List.flatMap_nil, List.append_nil]; exact hpq
  have := ih z e
  rw [itM, e1, itM_append, itM_append, List.length_append, List.length_append]
  omega
theorem itM_mem (l : List (List Int)) (m : Nat) {y : Int} {w : List Int} (hy : y ∈ w) (h : lives l m y = true) : 0 < (itM l m w).length := by
 obtain ⟨p, q, rfl⟩ := List.append_of_mem hy
 have e1 : p ++ y :: q = p ++ ([y] ++ q) := by simp
 have := itM_lives l m y h
 rw [e1, itM_append, itM_append, List.length_append, List.length_append]; omega
theorem itM_grow (l : List (List Int)) (a : Int) (rest : List Int) (ha : img l a = a :: rest) (hr : ∀ m, ∃ y ∈ rest, lives l m y = true) (m : Nat) : m + 1 ≤ (itM l m [a]).length := by
 induction m with
 | zero => simp [itM]
 | succ m ih =>
  have e1 : appM l [a] = [a] ++ rest := by
   unfold appM; rw [List.flatMap_cons, List.flatMap_nil, List.append_nil]; exact ha
  obtain ⟨y, hy, e⟩ := hr m
  have := itM_mem l m hy e
  rw [itM, e1, itM_append, List.length_append]; omega
theorem not_own (l : List (List Int)) (a : Int) (rest : List Int) (ha : img l a = a :: rest) (hr : ∀ m, ∃ y ∈ rest, lives l m y = true) (u : List Int) : appM l (a :: u) ≠ a :: u := by
 intro h
 have hfix : ∀ m, itM l m (a :: u) = a :: u := by
  intro m
  induction m with
  | zero => rfl
  | succ m ih => rw [itM, h, ih]
 have h1 := itM_grow l a rest ha hr (a :: u).length
 have h2 := hfix (a :: u).length
 have e1 : a :: u = [a] ++ u := rfl
 rw [e1, itM_append] at h2
 have := congrArg List.length h2
 rw [List.length_append] at this
 rw [e1] at h1
 omega
structure FPI (l : List (List Int)) (i : Nat) (x : List Int) : Prop where
 g : growR l 0 = true
 i1 : 1 ≤ i
 ix : i ≤ x.length
 hd : ∃ u, x = 0 :: u
 inn : ∀ y ∈ x, 0 ≤ y ∧ y < (l.length : Int)
 fx : appM l (x.take i) = x
theorem grow_out {l : List (List Int)} (g : growR l 0 = true) : okMor l = true ∧ ∃ rest, img l 0 = 0 :: rest ∧ ∀ m, ∃ y ∈ rest, lives l m y = true := by
 unfold growR at g
 rw [Bool.and_eq_true, decide_eq_true_eq] at g
 obtain ⟨⟨g1, _, g3, g4, g5⟩, g6⟩ := g
 obtain ⟨f1, f2, f3⟩ := okMor_facts g1
 refine ⟨g1, ?_⟩
 obtain ⟨x0, rest, hx0⟩ : ∃ x0 rest, img l 0 = x0 :: rest := by
  cases q : img l 0 with
  | nil => rw [q] at g4; simp at g4
  | cons x0 rest => exact ⟨x0, rest, rfl⟩
 have hxa : x0 = 0 := by rw [hx0] at g5; simpa using g5
 subst hxa
 refine ⟨rest, hx0, fun m => ?_⟩
 rw [hx0, List.any_eq_true] at g6
 obtain ⟨y, hy, e⟩ := g6
 have hy' : y ∈ rest := by simpa using hy
 have hyi := f2 0 y (by rw [hx0]; exact List.mem_cons_of_mem _ hy')
 refine ⟨y, hy', ?_⟩
 have up : ∀ d, lives l (l.length + d) y = true := by
  intro d
  induction d with
  | zero => exact e
  | succ d ih =>
   have := still_all f2 (still_n f2) d y.toNat (by omega)
   rw [show ((y.toNat : Nat) : Int) = y by omega] at this
   rw [show l.length + (d + 1) = l.length + d + 1 by omega, this]; exact ih
 have down : ∀ d m', lives l (m' + d) y = true → lives l m' y = true := by
  intro d
  induction d with
  | zero => intro m' h; exact h
  | succ d ih => intro m' h; exact ih m' (lives_down l _ y (by rwa [show m' + (d + 1) = m' + d + 1 by omega] at h))
 exact down l.length m (by rw [Nat.add_comm]; exact up m)
theorem FPI.start {l : List (List Int)} (g : growR l 0 = true) : FPI l 1 (rd_L2 l 0) := by
 obtain ⟨g1, rest, h1, _⟩ := grow_out g
 have e : rd_L2 l 0 = 0 :: rest := h1
 obtain ⟨_, f2, _⟩ := okMor_facts g1
 refine ⟨g, Nat.le_refl _, by rw [e]; simp, ⟨rest, e⟩, fun y hy => f2 0 y hy, ?_⟩
 rw [e]
 show appM l [0] = _
 unfold appM
 rw [List.flatMap_cons, List.flatMap_nil, List.append_nil]; exact h1
theorem FPI.lt {l : List (List Int)} {i : Nat} {x : List Int} (h : FPI l i x) : i < x.length := by
 obtain ⟨_, rest, h1, h2⟩ := grow_out h.g
 by_cases c : i < x.length
 ·exact c
 ·have hf := h.fx
  obtain ⟨u, hu⟩ := h.hd
  rw [List.take_of_length_le (by omega), hu] at hf
  exact absurd hf (not_own l 0 rest h1 h2 u)
theorem FPI.row {l : List (List Int)} {i : Nat} {x : List Int} (h : FPI l i x) (y : Int) : (rd_L2 l y).length ≤ 8 := (okMor_facts (grow_out h.g).1).2.2 y
theorem FPI.at_ {l : List (List Int)} {i : Nat} {x : List Int} (h : FPI l i x) : 0 ≤ rd x i ∧ rd x i < (l.length : Int) := h.inn _ (mem_getD (by have := h.lt; rw [Int.toNat_natCast]; exact this))
theorem FPI.next {l : List (List Int)} {i : Nat} {x : List Int} (h : FPI l i x) : FPI l (i + 1) (x ++ rd_L2 l (rd x i)) := by
 have hlt := h.lt
 obtain ⟨u, hu⟩ := h.hd
 refine ⟨h.g, by omega, by rw [List.length_append]; omega, ⟨u ++ rd_L2 l (rd x i), by rw [hu]; rfl⟩, fun y hy => ?_, ?_⟩
 ·rcases List.mem_append.1 hy with hy | hy
  ·exact h.inn y hy
  ·exact (okMor_facts (grow_out h.g).1).2.1 _ y hy
 ·rw [List.take_append_of_le_length (by omega), appM_take x i hlt, h.fx]
  unfold rd rd_L2
  rw [Int.toNat_natCast]
theorem spec_FixedPrefix.any (A : Option Addr) (c : Nat) (rows : List (List Int)) (n : Nat) (w : World) (hr : Kd.C (Kd.slice 3 (Kd.int .i64)) w A rows.length rows) (hl : rows.length ≤ 1048576) (hrl : ∀ r ∈ rows, r.length ≤ 1048576) (hn : 1 ≤ n ∧ n < 50) :
  Calls Tryz.prog 52 #[.agg #[.slice A rows.length c], .int .i64 0, .int .i64 (n : Int)] w fun e w' => (∃ (v : Value) (l : List Int) (b : Bool), e = .returned (.tuple #[v, .bool b]) ∧ l.length < 50 ∧ Kd.R (Kd.int .i64) 3 w' w.heap.size (fun _ => True) v l) ∧ Below w.heap.size w w' := by
 have huMo := Tryz.underlying72
 have HR := G.a hr
 have HL := G.a hl
 have HRL := G.a hrl
 have HN := G.a hn
 have D1 : decide ((n : Int) ≤ 256) = true := decide_eq_true (by omega)
 have D2 : (0 ≤ (n : Int)) = True := eq_true (by omega)
 clear hr hl hrl hn
 go_enter Tryz.func52, Tryz.ntmps52
 go_upto_region 1 with (first | ((with_reducible refine gate_dst (N := 3) rfl ?_); refine box_event ?hg (N := 3) ?hd (cs := #[.slice A rows.length c]) (t := 72) ?hr ?_; (case hd => rfl); (case hg => rfl); (case hr => first | (go_simp; done) | (go_simp; rfl)); intro gb hg w2 hbox hb; have BX := G.a (box1 hbox); have H0 := G.a hb; clear hg hbox hb))
 have HB := G.a (Below.refl w2.heap.size w2)
 obtain ⟨z0, y0⟩ := BX.out _ HB.out
 have hM : Calls Tryz.prog 74 #[.agg #[.slice A rows.length c], .int .i64 0] w2 fun e w' => e = .returned (.bool (growR rows 0)) ∧ Below w2.heap.size w2 w' := spec_IsGrowing.any A c rows w2 (Kd.C_below HR.out H0.out) HL.out HRL.out
 by_cases hok : growR rows 0 = true
 ·rw [hok] at hM
  have HI := G.a (FPI.start hok)
  have hn1 : 1 ≤ rows.length := (okMor_facts (grow_out hok).1).1.1
  obtain ⟨ad, Ar, cr, e1, hx1, hl1, hi1⟩ := at_L2 HR.out 0 (by omega) (by omega)
  cases e1
  rw [addr0] at hx1
  have p1 := eq_true (show 0 < rows.length from hn1)
  have p2 : (rows = []) = False := eq_false (fun e => by rw [e] at hn1; simp at hn1)
  have HX1 := G.a hx1
  have HI1 := G.a hi1
  clear hok hx1 hi1 hl1 hn1
  go_wp2_with (first | (go_at_call 74; (with_reducible refine hM.mono ?_); rintro e w3 ⟨rfl, hb⟩; have HB3 := G.a hb; clear hb HB; have HB := HB3; clear HB3; obtain ⟨z1, y1⟩ := BX.out _ HB.out; have hx3 := pw_cell_below (below_step H0.out HB.out) HX1.out) | (go_at_call 75; refine (spec_l1In.calls _ _ _ _ _ (l1In_yes (by omega) (by have := HN.out; omega))).mono ?_; rintro e w' ⟨rfl, ⟨nd, rfl⟩⟩) | ((with_reducible refine gate_dst (N := 20) rfl ?_); refine Kd.R_lit (Kd.int .i64) _ 3 ?hg (N := 20) ?hd (xs := ([] : List Int)) (inner := []) (ok := fun _ => True) (okp := fun _ => True) ?hr ?hp (fun _ hk => hk) trivial (Below.refl _ _) (Nat.le_refl _) (by simp) ?_; (case hd => rfl); (case hg => rfl); (case hr => first | (go_simp; done) | (go_simp; rfl)); (case hp => exact (Reps.none _ _)); intro v4 w4 ho hb hg_ hnew_; clear hg_ hnew_; have n1_ := G.a (Kd.R_lower ho (below_size (show Below w2.heap.size w2 _ from bel))); have n2_ := G.a (below_step (show Below w2.heap.size w2 _ from bel) hb); clear ho hb HB; have HO := n1_; have HB := n2_; clear n1_ n2_; obtain ⟨z2, y2⟩ := BX.out _ HB.out; have hx4 := pw_cell_below (below_step H0.out HB.out) HX1.out) | ((with_reducible refine gate_builtin (b := .append) (xs := #[.tmp 20, .tmp 25]) rfl ?_); at_builtin; refine Kd.R_append_rows (Kd.int .i64) (w0 := w2) w2.heap.size rfl (.tmp 20) (.tmp 25) 24 3 (.int .i64 0) 8 rfl Tryz.underlying24 info3 rfl (by decide) (by omega) v4 [] (rd_L2 rows 0) _ _ _ (fun _ => True) (fun _ => False) rfl rfl ?aO ?aR (fun _ _ h => h) (fun _ h => h.elim) ?aF ?aB ?aS ?aL ?_; (case aR => exact Kd.C_below HI1.out (below_step H0.out bel)); (case aB => exact bel); (case aF => exact (fun _ _ => trivial)); (case aO => exact HO.out); (case aS => exact below_size bel); (case aL => have := HI.out.row 0; simp; omega); intro v5 w5 ho hb hg hat; rw [List.nil_append] at ho; clear hg hat HO HB; have HO := G.a ho; have HB := G.a hb; clear ho hb))
  clear z0 y0 hM z1 y1 hx3 z2 y2 hx4
  go_loopg [8, 9] n (fun kq v8 v9 w' => ∃ (i : Nat) (x : List Int), v9 = .int .i64 (i : Int) ∧ Aside0 (i ≤ n ∧ n ≤ i + kq ∧ x.length ≤ 57) ∧ Aside0 (FPI rows i x) ∧ Aside0 (Kd.R (Kd.int .i64) 3 w' w2.heap.size (fun _ => True) v8 x) ∧ Aside0 (Below w2.heap.size w2 w'))
  case atStart => exact ⟨1, _, rfl, ⟨by have := HN.out; have := HI.out.row 0; omega⟩, HI, HO, HB⟩
  case round =>
   clear HI HO HB
   obtain ⟨i, x, rfl, HT, HI, HO, HB⟩ := hrel
   obtain ⟨z0, y0⟩ := BX.out _ HB.out
   obtain ⟨A8, c8, e8⟩ := Kd.R_slice HO.out
   subst e8
   have hret : n ≤ x.length → Kd.R (Kd.int .i64) 3 wr w.heap.size (fun _ => True) (.slice A8 n c8) (x.take n) := fun h => by
    have := Kd.R_take (m := n) HO.out h
    exact Kd.R_lower this H0.out.size
   have hlt := HI.out.lt
   by_cases c1 : i < n
   ·have d1 : decide (i < n) = true := decide_eq_true c1
    by_cases c2 : x.length < n
    ·have d2 : decide (x.length < n) = true := decide_eq_true c2
     have HC := G.a (And.intro c1 c2)
     clear c1 c2
     obtain ⟨ad5, e5, hx5⟩ := Kd.at_int (Kd.R_reads' HO.out).2.2 (i : Int) (by omega) (by omega)
     cases e5
     obtain ⟨ad4, Ar4, cr4, e4, hx4, _, hi4⟩ := at_L2 HR.out (rd x i) HI.out.at_.1 HI.out.at_.2
     cases e4
     have HX4 := G.a hx4
     have HI4 := G.a hi4
     rw [Int.toNat_natCast] at hx5
     have HX5 := G.a hx5
     have hx4 := pw_cell_below (below_step H0.out HB.out) HX4.out
     have q1 := eq_true (show (i : Int) < (x.length : Int) by omega)
     have q2 := eq_true hlt
     have q3 := eq_true HI.out.at_.1
     have q4 := eq_true HI.out.at_.2
     have q5 := eq_true (show 0 ≤ (i : Int) by omega)
     clear hlt hi4
     go_wp2
     go_region_law (first | (refine Kd.R_append_rows_step (Kd.int .i64) (w0 := w2) w2.heap.size (by rfl) (.tmp 38) (.tmp 46) 24 3 (.int .i64 0) 8 rfl Tryz.underlying24 info3 rfl (by decide) (by omega) (.slice (some ad5) x.length c8) x (rd_L2 rows (rd x i)) _ _ _ (fun _ => True) (fun _ => False) rfl rfl ?aO ?aR (fun _ _ h => h) (fun _ h => h.elim) ?aF ?aB ?aS ?aL ?_; (case aR => exact Kd.C_below HI4.out (below_step H0.out bel)); (case aB => exact bel); (case aF => exact (fun _ _ => trivial)); (case aO => exact (G.kR HO.out)); (case aS => exact below_size bel); (case aL => have := HI.out.row (rd x i); have := HT.out; omega); intro v1 w1 ho hb hg hat; generalize hl1 : x ++ rd_L2 rows (rd x i) = x1 at ho; have HL1' := G.a hl1; clear hl1; obtain ⟨A1, c1, e1⟩ := Kd.R_slice ho; subst e1; have n3_ := G.a hb; have n1_ := G.a ho;  clear HO HB hx5 HX5 ho hb hg hat; have HO := n1_; have HB := n3_; clear n1_ n3_))
     all_goals
      try go_wp2
      go_roundg (gk - 1)
      case measure => have := HT.out; have := HC.out; omega
      case rel =>
       have hi := HI.out.next
       rw [HL1'.out] at hi
       refine ⟨i + 1, x1, ?_, ⟨?_⟩, ⟨hi⟩, HO, HB⟩
       ·rw [wsx (n := 1099511627776) (by omega) (by have := HC.out; have := HN.out; omega) (by omega)]; rfl
       ·have := HT.out; have := HC.out; have := HN.out; have := HI.out.row (rd x i)
        have e := congrArg List.length HL1'.out
        rw [List.length_append] at e
        omega
    ·have d2 : decide (x.length < n) = false := decide_eq_false c2
     have HL2 := G.a (show n ≤ x.length by omega)
     have qc := eq_true (show n ≤ c8 by have := (Kd.R_reads' HO.out).2.1; omega)
     clear c1 c2 hlt
     go_wp2
     go_ret2
     exact ⟨⟨_, x.take n, true, rfl, by have := HN.out; rw [List.length_take]; omega, hret HL2.out⟩, below_step H0.out bel⟩
   ·have d1 : decide (i < n) = false := decide_eq_false c1
    have d2 : decide (x.length < n) = false := decide_eq_false (by omega)
    have HL2 := G.a (show n ≤ x.length by omega)
    have qc := eq_true (show n ≤ c8 by have := (Kd.R_reads' HO.out).2.1; omega)
    clear c1 hlt
    go_wp2
    go_ret2
    exact ⟨⟨_, x.take n, true, rfl, by have := HN.out; rw [List.length_take]; omega, hret HL2.out⟩, below_step H0.out bel⟩
 ·rw [Bool.not_eq_true] at hok
  rw [hok] at hM
  clear hok
  go_wp2_with (first | (go_at_call 74; (with_reducible refine hM.mono ?_); rintro e w3 ⟨rfl, hb⟩; have HB3 := G.a hb; clear hb HB; have HB := HB3; clear HB3; obtain ⟨z1, y1⟩ := BX.out _ HB.out) | ((with_reducible refine gate_dst (N := 19) rfl ?_); refine Kd.R_lit (Kd.int .i64) _ 3 ?hg (N := 19) ?hd (xs := ([] : List Int)) (inner := []) (ok := fun _ => True) (okp := fun _ => True) ?hr ?hp (fun _ hk => hk) trivial (Below.refl _ _) (Nat.le_refl _) (by simp) ?_; (case hd => rfl); (case hg => rfl); (case hr => first | (go_simp; done) | (go_simp; rfl)); (case hp => exact (Reps.none _ _)); intro v4 w4 ho hb hg_ hnew_; clear hg_ hnew_; have n1_ := G.a (Kd.R_lower ho (below_size (show Below w2.heap.size w2 _ from bel))); have n2_ := G.a (below_step (show Below w2.heap.size w2 _ from bel) hb); clear ho hb HB; have HO := n1_; have HB := n2_; clear n1_ n2_))
  go_ret2
  exact ⟨⟨_, [], false, rfl, by simp, Kd.R_lower HO.out H0.out.size⟩, below_step H0.out bel⟩
end
def spec_l7Word.l0 : Nat → Int → List Int → Int → List Int → Int → Int → Option (List Int × Int × Int)
 | 0, _, _, _, _, _, _ => none
 | k + 1, x1, x5, x6, x1000, x1001, x1002 => if x6 > 0 then ((spec_l1Below.f x1000 x1001 x1002 x1).bind fun bt431 => (if x5.length < 17592186044416 then (spec_l7Word.l0 k x1 (x5 ++ [bt431.1]) (wrap64 (x6 - 1)) x1000 bt431.2.1 bt431.2.2) else (none))) else (some (x5, x1001, x1002))
def spec_l7Word.f (k : Nat) (s0_0 : List Int) (s0_1 : Int) (s0_2 : Int) (a1 : Int) : Option (List Int × Int × Int) := (spec_l1Below.f s0_0 s0_1 s0_2 12).bind fun bt428 => (spec_l7Word.l0 k a1 (([] : List Int)) bt428.1 s0_0 bt428.2.1 bt428.2.2)
theorem spec_l7Word.calls (k : Nat) (g : Nat) (s0_0 : List Int) (s0_1 : Int) (s0_2 : Int) (a1 : Int) (r1 : List Int) (r2 : Int) (r3 : Int) (w0 w : World) (hI : IsS58 w0 w g s0_0 s0_1 s0_2) (hB : Below w0.heap.size w0 w) (h : spec_l7Word.f k s0_0 s0_1 s0_2 a1 = some (r1, r2, r3)) :
  Calls Tryz.prog 53 #[.pointer (some ⟨g, 0, none⟩), .int .i64 a1] w fun e w' => ∃ v0_ : Value, e = .returned (v0_) ∧ Kd.R (Kd.int .i64) 3 w' w.heap.size (fun _ => True) v0_ r1 ∧ IsS58 w0 w' g s0_0 r2 r3 ∧ Below w0.heap.size w0 w' ∧ KeepBut w w' g none := by
 have HI0 := G.a hI
 have HK := G.a (KeepBut.refl w g none)
 have HL := G.a hB.size
 clear hI
 have HW0 := G.a hB.size
 have HB := G.a hB
 clear hB
 have H : ((spec_l1Below.f s0_0 s0_1 s0_2 12).bind fun bt428 => (spec_l7Word.l0 k a1 (([] : List Int)) bt428.1 s0_0 bt428.2.1 bt428.2.2)) = some (r1, r2, r3) := h
 clear h
 obtain ⟨y425, hy425⟩ : ∃ y_ : List Int, y_ = (([] : List Int)) := ⟨_, rfl⟩
 replace H : ((spec_l1Below.f s0_0 s0_1 s0_2 12).bind fun bt428 => (spec_l7Word.l0 k a1 y425 bt428.1 s0_0 bt428.2.1 bt428.2.2)) = some (r1, r2, r3) := by first | (rw [hy425]; with_reducible exact H) | (have H2_ := (Option.bind_some _ _).symm.trans H; rw [hy425]; with_reducible exact H2_) | (have H2_ := (Option.bind_some _ _).symm.trans H; with_reducible exact H2_) | with_reducible exact H | (rw [hy425]; exact H) | exact H
 have Ny425 := G.a hy425
 clear hy425
 obtain ⟨⟨t428, t429, t430⟩, A3, H⟩ := G.bx H
 replace H : (spec_l7Word.l0 k a1 y425 t428 s0_0 t429 t430) = some (r1, r2, r3) := H
 have H' := G.a H
 clear H
 go_enter Tryz.func53, Tryz.ntmps53
 go_wp2_with (first | ((with_reducible refine gate_dst (N := 7) rfl ?_); refine Kd.R_lit (Kd.int .i64) _ 3 ?hg (N := 7) ?hd (xs := ([] : List Int)) (inner := []) (ok := fun _ => True) (okp := fun _ => True) ?hr ?hp (fun _ hk => hk) trivial (Below.refl _ _) (Nat.le_refl _) (by simp) ?_; (case hd => rfl); (case hg => rfl); (case hr => first | (go_simp; done) | (go_simp; rfl)); (case hp => exact (Reps.none _ _)); intro v426 w4 ho5 hb hg_ hnew_; clear hg_ hnew_; (first | rw [← Ny425.out] at ho5 | (simp only [Int.reduceToNat] at ho5; rw [← Ny425.out] at ho5)); have n0_ := G.a (Kd.R_lower ho5 (keep_size (w := w) (g := g) (row := none) (by repeat (first | (with_reducible first | exact HK.out | apply KeepBut.set_ | apply keep_drewN | apply keep_drew | apply keep_alloc) | exact HK.out)))); have n1_ := G.a (IsS58.below (by repeat (first | (with_reducible first | exact HI0.out | apply IsS58.alloc | apply IsS58.drewN | apply IsS58.drew | apply IsS58.set_1 | apply IsS58.set_2) | exact HI0.out)) hb); have n2_ := G.a (KeepBut.trans (by repeat (first | (with_reducible first | exact HK.out | apply KeepBut.set_ | apply keep_drewN | apply keep_drew | apply keep_alloc) | exact HK.out)) (KeepBut.of_below hb g none) (.inl rfl)); have n3_ := G.a (below_step (G.bes (IsS58.ge HI0.out)) hb); clear HI0; clear HK; clear HB; have HO427 := n0_; have HI0 := n1_; have HK := n2_; have HB := n3_; clear n0_ n1_ n2_ n3_; clear hb ho5) | ((with_reducible refine gate_callee (f := 47) rfl ?_); refine goesL_ (some 9) rfl rfl Tryz.func47 (by kernel_rfl) rfl #[.pointer (some ⟨g, 0, none⟩), .int .i64 12] rfl G.ar ?_; (with_reducible refine (spec_l1Below.calls g s0_0 s0_1 s0_2 12 t428 t429 t430 w0 _ ?side1 ?side2 A3.out).mono ?_); (case side1 => repeat (first | (with_reducible first | exact HI0.out | apply IsS58.alloc | apply IsS58.drewN | apply IsS58.drew | apply IsS58.set_1 | apply IsS58.set_2) | exact HI0.out)); (case side2 => repeat (first | (with_reducible first | exact HB.out | apply below_alloc | apply pw_below_drewN | apply below_drew1 | refine below_set ?_ (IsS58.ge HI0.out)) | exact HB.out)); rintro e w6 ⟨rfl, hi, hb, hk⟩; refine ⟨_, rfl, ?_⟩; have n0_ := G.a (Kd.R_mono (Kd.R_keep (IsS58.apart (show IsS58 w0 _ g s0_0 s0_1 s0_2 from by repeat (first | (with_reducible first | exact HI0.out | apply IsS58.alloc | apply IsS58.drewN | apply IsS58.drew | apply IsS58.set_1 | apply IsS58.set_2) | exact HI0.out)) (G.kR HO427.out) (by decide)) hk (fun _ h => h.2)) (fun _ h => h.1)); have n1_ := G.a (KeepBut.trans (by repeat (first | (with_reducible first | exact HK.out | apply KeepBut.set_ | apply keep_drewN | apply keep_drew | apply keep_alloc) | exact HK.out)) hk (.inl rfl)); have n2_ := G.a (hb); have n3_ := G.a (hi); clear HO427; clear HK; clear HB; clear HI0; have HO427 := n0_; have HK := n1_; have HB := n2_; have HI0 := n3_; clear n0_ n1_ n2_ n3_; (try clear hb); (try clear hb2); (try clear hk); (try clear hi)))
 go_loopg [5, 6] k (fun kq v5 v6 w' => ∃ (x5_1 : List Int) (x6_1 : Int) (x1001_1 : Int) (x1002_1 : Int), v6 = .int .i64 x6_1 ∧ Aside0 (spec_l7Word.l0 kq a1 x5_1 x6_1 s0_0 x1001_1 x1002_1 = some (r1, r2, r3)) ∧ Aside0 (kq ≤ k) ∧ Aside0 (Kd.R (Kd.int .i64) 3 w' w.heap.size (fun _ => True) v5 x5_1) ∧ Aside0 (IsS58 w0 w' g s0_0 x1001_1 x1002_1) ∧ Aside0 (KeepBut w w' g none) ∧ Aside0 (Below w0.heap.size w0 w'))
 case atStart => exact ⟨(y425), (t428), (t429), (t430), G.tr, H', ⟨Nat.le_refl _⟩, ⟨G.kR HO427.out⟩, ⟨by repeat (first | (with_reducible first | exact HI0.out | apply IsS58.alloc | apply IsS58.drewN | apply IsS58.drew | apply IsS58.set_1 | apply IsS58.set_2) | exact HI0.out)⟩, ⟨by repeat (first | (with_reducible first | exact HK.out | apply KeepBut.set_ | apply keep_drewN | apply keep_drew | apply keep_alloc) | exact HK.out)⟩, ⟨G.bes (IsS58.ge HI0.out)⟩⟩
 case round =>
  clear H'
  try clear p2; try clear c4; try clear c5
  obtain ⟨x5_1, x6_1, x1001_1, x1002_1, rfl, HA, HK1, HO_5, HI0, HK, HB⟩ := hrel
  cases gk with
  | zero => exact absurd HA.out (by simp [spec_l7Word.l0])
  | succ k1 =>
   have H := HA.out
   clear HA
   simp only [spec_l7Word.l0] at H
   by_cases c7 : x6_1 > 0
   ·rw [if_pos c7] at H
    have c7b0 : decide (0 < x6_1) = true := decide_eq_true c7
    clear c7
    obtain ⟨⟨t431, t432, t433⟩, A8, H⟩ := G.bx H
    replace H : (if x5_1.length < 17592186044416 then (spec_l7Word.l0 k1 a1 (x5_1 ++ [t431]) (wrap64 (x6_1 - 1)) s0_0 t432 t433) else (none)) = some (r1, r2, r3) := H
    by_cases c9 : x5_1.length < 17592186044416
    ·rw [if_pos c9] at H
     have LMc9 := G.a c9
     clear c9
     obtain ⟨y434, hy434⟩ : ∃ y_ : List Int, y_ = (x5_1 ++ [t431]) := ⟨_, rfl⟩
     replace H : (spec_l7Word.l0 k1 a1 y434 (wrap64 (x6_1 - 1)) s0_0 t432 t433) = some (r1, r2, r3) := by first | (rw [hy434]; with_reducible exact H) | (have H2_ := (Option.bind_some _ _).symm.trans H; rw [hy434]; with_reducible exact H2_) | (have H2_ := (Option.bind_some _ _).symm.trans H; with_reducible exact H2_) | with_reducible exact H | (rw [hy434]; exact H) | exact H
     have Ny434 := G.a hy434
     clear hy434
     have H' := G.a H
     clear H
     go_wp2_with (first | ((with_reducible refine gate_callee (f := 47) rfl ?_); refine goesL_ (some 17) rfl rfl Tryz.func47 (by kernel_rfl) rfl #[.pointer (some ⟨g, 0, none⟩), .int .i64 a1] rfl G.ar ?_; (with_reducible refine (spec_l1Below.calls g s0_0 x1001_1 x1002_1 a1 t431 t432 t433 w0 _ ?side1 ?side2 A8.out).mono ?_); (case side1 => repeat (first | (with_reducible first | exact HI0.out | apply IsS58.alloc | apply IsS58.drewN | apply IsS58.drew | apply IsS58.set_1 | apply IsS58.set_2) | exact HI0.out)); (case side2 => repeat (first | (with_reducible first | exact HB.out | apply below_alloc | apply pw_below_drewN | apply below_drew1 | refine below_set ?_ (IsS58.ge HI0.out)) | exact HB.out)); rintro e w10 ⟨rfl, hi, hb, hk⟩; refine ⟨_, rfl, ?_⟩; have n0_ := G.a (Kd.R_mono (Kd.R_keep (IsS58.apart (show IsS58 w0 _ g s0_0 x1001_1 x1002_1 from by repeat (first | (with_reducible first | exact HI0.out | apply IsS58.alloc | apply IsS58.drewN | apply IsS58.drew | apply IsS58.set_1 | apply IsS58.set_2) | exact HI0.out)) (G.kR HO_5.out) (by decide)) hk (fun _ h => h.2)) (fun _ h => h.1)); have n1_ := G.a (KeepBut.trans (by repeat (first | (with_reducible first | exact HK.out | apply KeepBut.set_ | apply keep_drewN | apply keep_drew | apply keep_alloc) | exact HK.out)) hk (.inl rfl)); have n2_ := G.a (hb); have n3_ := G.a (hi); clear HO_5; clear HK; clear HB; clear HI0; have HO_5 := n0_; have HK := n1_; have HB := n2_; have HI0 := n3_; clear n0_ n1_ n2_ n3_; (try clear hb); (try clear hb2); (try clear hk); (try clear hi)) | ((with_reducible refine gate_builtin (b := .append) (xs := #[.tmp 14, .tmp 18]) rfl ?_); at_builtin; refine Kd.R_append (Kd.int .i64) w.heap.size rfl (.tmp 14) (.tmp 18) 24 3 (.int .i64 0) 8 rfl Tryz.underlying24 info3 rfl (by decide) (by omega) u5 x5_1 t431 [.int .i64 t431] (fun _ => True) (fun _ => False) rfl rfl ?aP (fun _ hk => hk.elim) ?aF ?aO (Below.refl _ _) ?aS ?aL ?_; (case aP => exact rfl); (case aF => exact (fun _ _ => trivial)); (case aO => exact (G.kR HO_5.out)); (case aS => exact (keep_size (w := w) (g := g) (row := none) (by repeat (first | (with_reducible first | exact HK.out | apply KeepBut.set_ | apply keep_drewN | apply keep_drew | apply keep_alloc) | exact HK.out)))); (case aL => have := LMc9.out; omega); intro v435 w11 ho hb hg hat; rw [← Ny434.out] at ho; have n0_ := G.a (IsS58.grown (by repeat (first | (with_reducible first | exact HI0.out | apply IsS58.alloc | apply IsS58.drewN | apply IsS58.drew | apply IsS58.set_1 | apply IsS58.set_2) | exact HI0.out)) hg (IsS58.own_ne HI0.out HO_5.out (by decide))); have n1_ := G.a (below_weaken (G.bes (IsS58.ge HI0.out)) HL.out hb); have n2_ := G.a (KeepBut.trans (by repeat (first | (with_reducible first | exact HK.out | apply KeepBut.set_ | apply keep_drewN | apply keep_drew | apply keep_alloc) | exact HK.out)) (KeepBut.of_grown hg g) (Kd.R_base2 HO_5.out)); have n3_ := G.a (ho); clear HI0; clear HB; clear HK; clear HO_5; have HI0 := n0_; have HB := n1_; have HK := n2_; have HO436 := n3_; clear n0_ n1_ n2_ n3_; clear ho hb hg hat))
     go_roundg k1
     case measure => have := HK1.out; omega
     case rel => exact ⟨(y434), (wrap64 (x6_1 - 1)), (t432), (t433), G.tr, H', ⟨by have := HK1.out; omega⟩, ⟨G.kR HO436.out⟩, ⟨by repeat (first | (with_reducible first | exact HI0.out | apply IsS58.alloc | apply IsS58.drewN | apply IsS58.drew | apply IsS58.set_1 | apply IsS58.set_2) | exact HI0.out)⟩, ⟨by repeat (first | (with_reducible first | exact HK.out | apply KeepBut.set_ | apply keep_drewN | apply keep_drew | apply keep_alloc) | exact HK.out)⟩, ⟨G.bes (IsS58.ge HI0.out)⟩⟩
    ·rw [if_neg c9] at H
     exact absurd H (by simp)
   ·rw [if_neg c7] at H
    have c7b0 : decide (0 < x6_1) = false := decide_eq_false c7
    clear c7
    simp only [Option.some.injEq, Prod.mk.injEq] at H
    obtain ⟨rfl, rfl, rfl⟩ := H
    go_wp2
    go_ret
    exact ⟨_, G.er, G.kR HO_5.out, by repeat (first | (with_reducible first | exact HI0.out | apply IsS58.alloc | apply IsS58.drewN | apply IsS58.drew | apply IsS58.set_1 | apply IsS58.set_2) | exact HI0.out), G.bes (IsS58.ge HI0.out), by repeat (first | (with_reducible first | exact HK.out | apply KeepBut.set_ | apply keep_drewN | apply keep_drew | apply keep_alloc) | exact HK.out)⟩
section
open Go.Proofs.YtolikggioekalabGreat.G
def Cur (w0 : World) (g : Nat) (w : World) : Prop := (∃ l i h, IsS58 w0 w g l i h ∧ l.length ≤ 1048576 ∧ 0 ≤ i ∧ i ≤ 1048576) ∧ Below w0.heap.size w0 w
theorem Cur.lt {w0 w : World} {g : Nat} (h : Cur w0 g w) : g < w.heap.size := by obtain ⟨⟨l, i, x, hI, _⟩, _⟩ := h; exact IsS58.lt hI
theorem Cur.ge {w0 w : World} {g : Nat} (h : Cur w0 g w) : w0.heap.size ≤ g := by obtain ⟨⟨l, i, x, hI, _⟩, _⟩ := h; exact IsS58.ge hI
theorem Cur.below {w0 w w1 : World} {g : Nat} (h : Cur w0 g w) (hb : Below w.heap.size w w1) : Cur w0 g w1 := by
 obtain ⟨⟨l, i, x, hI, h1⟩, hB⟩ := h
 exact ⟨⟨l, i, x, IsS58.below hI hb, h1⟩, below_step hB hb⟩
theorem Cur.grown {w0 w w1 : World} {g : Nat} {row : Option Nat} (h : Cur w0 g w) (hg : w.grownBy w1 row) (hne : some g ≠ row) (hB : Below w0.heap.size w0 w1) : Cur w0 g w1 := by
 obtain ⟨⟨l, i, x, hI, h1⟩, _⟩ := h
 exact ⟨⟨l, i, x, IsS58.grown hI hg hne, h1⟩, hB⟩
theorem Cur.far {w0 w : World} {g : Nat} {p : Addr} (h : Cur w0 g w) (hne : g ≠ p.block) (hge : w0.heap.size ≤ p.block) (u : Value) : Cur w0 g (w.setCell p u) := by
 obtain ⟨⟨l, i, x, hI, h1⟩, hB⟩ := h
 exact ⟨⟨l, i, x, IsS58.far hI hne u, h1⟩, hB.setCell hge u⟩
theorem and255 (x : Int) : 0 ≤ Go.bits .and .i64 x 255 ∧ Go.bits .and .i64 x 255 ≤ 255 := by
 have h1 : ((BitVec.ofInt 64 x) &&& (BitVec.ofInt 64 255)).toNat ≤ 255 := by
  rw [BitVec.toNat_and]
  exact Nat.le_trans Nat.and_le_right (by decide)
 have h2 : Go.bits .and .i64 x 255 = IntKind.i64.wrap ((((BitVec.ofInt 64 x) &&& (BitVec.ofInt 64 255)).toNat : Nat) : Int) := rfl
 rw [h2, IntKind.wrap_i64]
 omega
theorem byte_some {l : List Int} {i h : Int} (hl : l.length ≤ 1048576) (h0 : 0 ≤ i) (h1 : i ≤ 1048576) : ∃ r j k, spec_l1Byte.f l i h = some (r, j, k) ∧ 0 ≤ r ∧ r ≤ 255 ∧ 0 ≤ j ∧ j ≤ 1048576 := by
 unfold spec_l1Byte.f
 by_cases c : i < (l.length : Int)
 ·rw [if_pos c, if_pos h0]
  refine ⟨_, _, _, rfl, (and255 _).1, (and255 _).2, ?_⟩
  rw [wsx (n := 1048576) h0 (by omega) (by omega)]
  omega
 ·rw [if_neg c]
  exact ⟨_, _, _, rfl, (and255 _).1, (and255 _).2, h0, h1⟩
theorem below_some {l : List Int} {i h : Int} (n : Int) (hl : l.length ≤ 1048576) (h0 : 0 ≤ i) (h1 : i ≤ 1048576) (hn : n ≤ 256) : ∃ r j k, spec_l1Below.f l i h n = some (r, j, k) ∧ 0 ≤ r ∧ r ≤ 255 ∧ (1 ≤ n → r < n) ∧ 0 ≤ j ∧ j ≤ 1048576 := by
 unfold spec_l1Below.f
 by_cases c : n ≤ 0
 ·rw [if_pos c]
  exact ⟨_, _, _, rfl, by omega, by omega, by omega, h0, h1⟩
 ·rw [if_neg c, if_pos hn]
  obtain ⟨r, j, k, e, g1, g2, g3⟩ := byte_some (h := h) hl h0 h1
  rw [e]
  simp only [Option.bind_some]
  rw [if_neg (by omega)]
  refine ⟨_, _, _, rfl, ?_⟩
  rw [Int.tmod_eq_emod_of_nonneg g1]
  have a1 := Int.emod_nonneg r (show n ≠ 0 by omega)
  have a2 := Int.emod_lt_of_pos r (show 0 < n by omega)
  omega
theorem spec_l1Below.any (w0 w : World) (g : Nat) (n : Int) (hC : Cur w0 g w) (hn : n ≤ 256) :
  Calls Tryz.prog 47 #[.pointer (some ⟨g, 0, none⟩), .int .i64 n] w fun e w' => (∃ r : Int, e = .returned (.int .i64 r) ∧ 0 ≤ r ∧ r ≤ 255 ∧ (1 ≤ n → r < n)) ∧ Cur w0 g w' ∧ KeepBut w w' g none := by
 obtain ⟨⟨l, i, h, hI, hl, h0, h1⟩, hB⟩ := hC
 obtain ⟨r, j, k, e, g1, g2, g3, g4, g5⟩ := below_some (h := h) n hl h0 h1 hn
 exact (spec_l1Below.calls g l i h n r j k w0 w hI hB e).mono fun e w' ⟨he, hI', hB', hK⟩ => ⟨⟨r, he, g1, g2, g3⟩, ⟨⟨l, j, k, hI', hl, g4, g5⟩, hB'⟩, hK⟩
theorem spec_l1Once.any (w0 w : World) (g : Nat) (n : Int) (hC : Cur w0 g w) (hn : n ≤ 256) :
  Calls Tryz.prog 38 #[.pointer (some ⟨g, 0, none⟩), .int .i64 n] w fun e w' => (∃ r : Bool, e = .returned (.bool r)) ∧ Cur w0 g w' ∧ KeepBut w w' g none := by
 obtain ⟨⟨l, i, h, hI, hl, h0, h1⟩, hB⟩ := hC
 obtain ⟨r, j, k, e, g1, g2, g3, g4, g5⟩ := below_some (h := h) n hl h0 h1 hn
 have e2 : spec_l1Once.f l i h n = some (r == 0, j, k) := by unfold spec_l1Once.f; rw [e]; rfl
 exact (spec_l1Once.calls g l i h n (r == 0) j k w0 w hI hB e2).mono fun e w' ⟨he, hI', hB', hK⟩ => ⟨⟨_, he⟩, ⟨⟨l, j, k, hI', hl, g4, g5⟩, hB'⟩, hK⟩
theorem spec_l1PickInt.any (w0 w : World) (g : Nat) (A : Option Addr) (c : Nat) (xs : List Int) (hC : Cur w0 g w) (hx : Kd.C (Kd.int .i64) w A xs.length xs) (hc : xs.length ≤ c) (h1x : 1 ≤ xs.length) (hn : xs.length ≤ 256) (hne : ∀ ad, A = some ad → ad.block ≠ g) :
  Calls Tryz.prog 39 #[.pointer (some ⟨g, 0, none⟩), .slice A xs.length c] w fun e w' => (∃ r : Int, e = .returned (.int .i64 r) ∧ r ∈ xs) ∧ Cur w0 g w' ∧ KeepBut w w' g none := by
 obtain ⟨⟨l, i, h, hI, hl, h0, h1⟩, hB⟩ := hC
 obtain ⟨r, j, k, e, g1, g2, g3, g4, g5⟩ := below_some (h := h) (xs.length : Int) hl h0 h1 (by omega)
 have e2 : spec_l1PickInt.f l i h xs = some (rd xs r, j, k) := by unfold spec_l1PickInt.f; rw [e]; simp only [Option.bind_some]; rw [if_pos g1, if_pos (g3 (by omega))]
 exact (spec_l1PickInt.calls g l i h A c xs (rd xs r) j k w0 w hI hB hx hc (fun ad ha _ => hne ad ha) e2).mono fun e w' ⟨he, hI', hB', hK⟩ => ⟨⟨_, he, mem_getD (by have := g3 (by omega); omega)⟩, ⟨⟨l, j, k, hI', hl, g4, g5⟩, hB'⟩, hK⟩
theorem spec_l1Pick.any (w0 w : World) (g : Nat) (A : Option Addr) (c : Nat) (xs : List ByteArray) (hC : Cur w0 g w) (hx : Kd.C Kd.string w A xs.length xs) (hc : xs.length ≤ c) (h1x : 1 ≤ xs.length) (hn : xs.length ≤ 256) (hne : ∀ ad, A = some ad → ad.block ≠ g) :
  Calls Tryz.prog 70 #[.pointer (some ⟨g, 0, none⟩), .slice A xs.length c] w fun e w' => (∃ r : ByteArray, e = .returned (.string r) ∧ r ∈ xs) ∧ Cur w0 g w' ∧ KeepBut w w' g none := by
 obtain ⟨⟨l, i, h, hI, hl, h0, h1⟩, hB⟩ := hC
 obtain ⟨r, j, k, e, g1, g2, g3, g4, g5⟩ := below_some (h := h) (xs.length : Int) hl h0 h1 (by omega)
 have e2 : spec_l1Pick.f l i h xs = some (rdOf ByteArray.empty xs r, j, k) := by unfold spec_l1Pick.f; rw [e]; simp only [Option.bind_some]; rw [if_pos g1, if_pos (g3 (by omega))]
 exact (spec_l1Pick.calls g l i h A c xs (rdOf ByteArray.empty xs r) j k w0 w hI hB hx hc (fun ad ha _ => hne ad ha) e2).mono fun e w' ⟨he, hI', hB', hK⟩ => ⟨⟨_, he, mem_getD (by have := g3 (by omega); omega)⟩, ⟨⟨l, j, k, hI', hl, g4, g5⟩, hB'⟩, hK⟩
theorem word_some {l : List Int} (n : Int) (hl : l.length ≤ 1048576) (hn : n ≤ 256) (d : Nat) : ∀ (acc : List Int) (m i h : Int), 0 ≤ i → i ≤ 1048576 → m ≤ d → m ≤ 256 → acc.length + m.toNat ≤ 300 → (∀ x ∈ acc, 0 ≤ x ∧ x ≤ 255 ∧ (1 ≤ n → x < n)) → ∀ K, d < K →
  ∃ r j k, spec_l7Word.l0 K n acc m l i h = some (r, j, k) ∧ r.length ≤ 300 ∧ (∀ x ∈ r, 0 ≤ x ∧ x ≤ 255 ∧ (1 ≤ n → x < n)) ∧ 0 ≤ j ∧ j ≤ 1048576 := by
 induction d with
 | zero =>
  intro acc m i h h0 h1 h2 h3 h4 h5 K hK
  obtain ⟨K, rfl⟩ : ∃ K', K = K' + 1 := ⟨K - 1, by omega⟩
  simp only [spec_l7Word.l0]
  rw [if_neg (by omega)]
  exact ⟨_, _, _, rfl, by omega, h5, h0, h1⟩
 | succ d ih =>
  intro acc m i h h0 h1 h2 h3 h4 h5 K hK
  obtain ⟨K, rfl⟩ : ∃ K', K = K' + 1 := ⟨K - 1, by omega⟩
  simp only [spec_l7Word.l0]
  by_cases c : m > 0
  ·obtain ⟨r, j, k, e, g1, g2, g3, g4, g5⟩ := below_some (h := h) n hl h0 h1 hn
   rw [if_pos c, e]
   simp only [Option.bind_some]
   rw [if_pos (by omega), show wrap64 (m - 1) = m - 1 by unfold wrap64; omega]
   refine ih (acc ++ [r]) (m - 1) j k g4 g5 (by omega) (by omega) (by rw [List.length_append, List.length_singleton]; omega) (fun x hx => ?_) K (by omega)
   rcases List.mem_append.1 hx with hx | hx
   ·exact h5 x hx
   ·rw [List.mem_singleton] at hx
    subst hx
    exact ⟨g1, g2, g3⟩
  ·rw [if_neg c]
   exact ⟨_, _, _, rfl, by omega, h5, h0, h1⟩
theorem spec_l7Word.any (w0 w : World) (g : Nat) (n : Int) (hC : Cur w0 g w) (hn : n ≤ 256) :
  Calls Tryz.prog 53 #[.pointer (some ⟨g, 0, none⟩), .int .i64 n] w fun e w' => (∃ (v : Value) (r : List Int), e = .returned v ∧ Kd.R (Kd.int .i64) 3 w' w.heap.size (fun _ => True) v r ∧ r.length ≤ 300 ∧ ∀ x ∈ r, 0 ≤ x ∧ x ≤ 255 ∧ (1 ≤ n → x < n)) ∧ Cur w0 g w' ∧ KeepBut w w' g none := by
 obtain ⟨⟨l, i, h, hI, hl, h0, h1⟩, hB⟩ := hC
 obtain ⟨m, j1, k1, e1, g1, g2, g3, g4, g5⟩ := below_some (h := h) 12 hl h0 h1 (by omega)
 obtain ⟨r, j, k, e, q1, q2, q3, q4⟩ := word_some n hl hn 300 [] m j1 k1 g4 g5 (by omega) (by omega) (by simp; omega) (by simp) 400 (by omega)
 have e2 : spec_l7Word.f 400 l i h n = some (r, j, k) := by unfold spec_l7Word.f; rw [e1]; exact e
 exact (spec_l7Word.calls 400 g l i h n r j k w0 w hI hB e2).mono fun e w' ⟨v, he, hR, hI', hB', hK⟩ => ⟨⟨v, r, he, hR, q1, q2⟩, ⟨⟨l, j, k, hI', hl, q3, q4⟩, hB'⟩, hK⟩
structure L3 (W : World) (b : Nat) (ok : Nat → Prop) (g6 g7 : Nat) (ba : Int) (vN vO : Value) (rows : List (List Int)) (outs : List Int) : Prop where
 sn : Kd.S (Kd.slice 3 (Kd.int .i64)) 24 W b (fun k => ok k ∧ some k ≠ vO.ownBlock) vN rows
 ro : Kd.R (Kd.int .i64) 3 W b ok vO outs
 b6 : W.heap[g6]? = some (.cells #[.int .i64 0, .slice none 0 0, .slice none 0 0] 68 (0, 0))
 b7 : W.heap[g7]? = some (.cells #[.int .i64 ba, vN, vO] 68 (0, 0))
 o6 : ok g6
 o7 : ok g7
 ne : g6 ≠ g7
section
variable {W W1 : World} {b g6 g7 : Nat} {ok ok' : Nat → Prop} {ba : Int} {vN vO v1 : Value} {rows rows' : List (List Int)} {outs outs' : List Int}
theorem L3.step (h : L3 W b ok g6 g7 ba vN vO rows outs) (hm : ∀ k, ok k → k < W.heap.size → W1.heap[k]? = W.heap[k]?) : L3 W1 b ok g6 g7 ba vN vO rows outs :=
 ⟨Kd.S_step h.sn (fun k hk => hm k hk.1), Kd.R_step h.ro hm, (hm _ h.o6 (blk_lt h.b6)).trans h.b6, (hm _ h.o7 (blk_lt h.b7)).trans h.b7, h.o6, h.o7, h.ne⟩
theorem L3.mono (h : L3 W b ok g6 g7 ba vN vO rows outs) (hk : ∀ k, ok k → ok' k) : L3 W b ok' g6 g7 ba vN vO rows outs :=
 ⟨Kd.S_mono h.sn (fun k hk' => ⟨hk k hk'.1, hk'.2⟩), Kd.R_mono h.ro hk, h.b6, h.b7, hk _ h.o6, hk _ h.o7, h.ne⟩
theorem L3.bound (h : L3 W b ok g6 g7 ba vN vO rows outs) : L3 W b (fun k => ok k ∧ k < W.heap.size) g6 g7 ba vN vO rows outs :=
 ⟨Kd.S_mono (Kd.S_bound h.sn) (fun k hk => ⟨⟨hk.1.1, hk.2.2.1⟩, hk.1.2⟩), Kd.R_mono (Kd.R_bound h.ro) (fun k hk => ⟨hk.1, hk.2.2.1⟩), h.b6, h.b7, ⟨h.o6, blk_lt h.b6⟩, ⟨h.o7, blk_lt h.b7⟩, h.ne⟩
theorem L3.below (h : L3 W b ok g6 g7 ba vN vO rows outs) (hb : Below W.heap.size W W1) : L3 W1 b ok g6 g7 ba vN vO rows outs := h.step (fun k _ hk => hb.block k hk)
theorem L3.elder {v : Value} (h : L3 W b ok g6 g7 ba vN vO rows outs) (hbase : ∀ k, v.ownBlock = some k → W.heap.size ≤ k) (hb : Below W.heap.size W W1) : L3 W1 b (fun k => ok k ∧ some k ≠ v.ownBlock) g6 g7 ba vN vO rows outs :=
 (h.bound.step (fun k hk hlt => hb.block k hlt)).mono (fun k hk => ⟨hk.1, fun e => by have := hbase k e.symm; omega⟩)
theorem L3.after {v v1 : Value} (h : L3 W b (fun k => ok k ∧ some k ≠ v.ownBlock) g6 g7 ba vN vO rows outs) (hg : W.grownBy W1 v.ownBlock) (hat : v1.ownBlock = v.ownBlock ∨ ∃ b, v1.ownBlock = some b ∧ W.heap.size ≤ b) : L3 W1 b (fun k => ok k ∧ some k ≠ v1.ownBlock) g6 g7 ba vN vO rows outs :=
 (h.bound.step (fun k hk hlt => hg.block k hlt hk.1.2)).mono (fun k hk => ⟨hk.1.1, fun e => by
  rcases hat with hat | ⟨q, hq, hle⟩
  ·exact hk.1.2 (by rw [← hat]; exact e)
  ·rw [hq] at e
   injection e with e
   omega⟩)
theorem L3.put1 (hs : Kd.S (Kd.slice 3 (Kd.int .i64)) 24 W b (fun k => ok k ∧ some k ≠ vO.ownBlock) v1 rows') (ho : Kd.R (Kd.int .i64) 3 W b ok vO outs)
  (b6 : W.heap[g6]? = some (.cells #[.int .i64 0, .slice none 0 0, .slice none 0 0] 68 (0, 0))) (b7 : W.heap[g7]? = some (.cells #[.int .i64 ba, vN, vO] 68 (0, 0))) (o6 : ok g6) (o7 : ok g7) (ne : g6 ≠ g7) :
  L3 (W.setCell ⟨g7, 1, none⟩ v1) b ok g6 g7 ba v1 vO rows' outs :=
 ⟨Kd.S_mono (Kd.S_far (p := ⟨g7, 1, none⟩) (Kd.S_types hs b7 (by decide)) (fun _ hk => hk.2) _) (fun _ hk => hk.1), Kd.R_mono (Kd.R_far (p := ⟨g7, 1, none⟩) (Kd.R_types ho b7 (by decide)) (fun _ hk => hk.2) _) (fun _ hk => hk.1), blk_far b6 ne _, blk_put (cs := #[.int .i64 ba, vN, vO]) b7 1 _ rfl, o6, o7, ne⟩
theorem L3.put2 (hs : Kd.S (Kd.slice 3 (Kd.int .i64)) 24 W b (fun k => ok k ∧ some k ≠ v1.ownBlock) vN rows) (ho : Kd.R (Kd.int .i64) 3 W b ok v1 outs')
  (b6 : W.heap[g6]? = some (.cells #[.int .i64 0, .slice none 0 0, .slice none 0 0] 68 (0, 0))) (b7 : W.heap[g7]? = some (.cells #[.int .i64 ba, vN, vO] 68 (0, 0))) (o6 : ok g6) (o7 : ok g7) (ne : g6 ≠ g7) :
  L3 (W.setCell ⟨g7, 2, none⟩ v1) b ok g6 g7 ba vN v1 rows outs' :=
 ⟨Kd.S_mono (Kd.S_far (p := ⟨g7, 2, none⟩) (Kd.S_types hs b7 (by decide)) (fun _ hk => hk.2) _) (fun _ hk => hk.1), Kd.R_mono (Kd.R_far (p := ⟨g7, 2, none⟩) (Kd.R_types ho b7 (by decide)) (fun _ hk => hk.2) _) (fun _ hk => hk.1), blk_far b6 ne _, blk_put (cs := #[.int .i64 ba, vN, vO]) b7 2 _ rfl, o6, o7, ne⟩
end
theorem L3.done {W : World} {b g6 g7 : Nat} {ok : Nat → Prop} {ba : Int} {vN vO : Value} {rows : List (List Int)} {outs : List Int} (h : L3 W b ok g6 g7 ba vN vO rows outs) (hw : SeqW ba rows outs) :
  SeqRet (((W.setCell ⟨g6, 0, none⟩ (.int .i64 ba)).setCell ⟨g6, 1, none⟩ vN).setCell ⟨g6, 2, none⟩ vO) b (.agg #[.int .i64 ba, vN, vO]) ∧
  (((W.setCell ⟨g6, 0, none⟩ (.int .i64 ba)).setCell ⟨g6, 1, none⟩ vN).setCell ⟨g6, 2, none⟩ vO).heap[g6]? = some (.cells #[.int .i64 ba, vN, vO] 68 (0, 0)) := by
 refine ⟨?_, blk_put (cs := #[.int .i64 ba, vN, .slice none 0 0]) (blk_put (cs := #[.int .i64 ba, .slice none 0 0, .slice none 0 0]) (blk_put (cs := #[.int .i64 0, .slice none 0 0, .slice none 0 0]) h.b6 0 _ rfl) 1 _ rfl) 2 _ rfl⟩
 have hs := Kd.S_V (base' := 0) (Kd.S_mono (ok' := fun k => b ≤ k ∧ k ≠ g6) (Kd.S_bound (Kd.S_types h.sn h.b6 (by decide))) (fun k hk => ⟨hk.2.1, hk.1.2⟩))
 have ho := Kd.R_V (base' := 0) (Kd.R_mono (ok' := fun k => b ≤ k ∧ k ≠ g6) (Kd.R_bound (Kd.R_types h.ro h.b6 (by decide))) (fun k hk => ⟨hk.2.1, hk.1.2⟩))
 obtain ⟨A1, c1, rfl, _, h1⟩ := hs
 obtain ⟨A2, c2, rfl, _, h2⟩ := ho
 exact ⟨ba, A1, c1, rows, A2, c2, outs, rfl, hw, Kd.F_mono (Kd.F_far (Kd.F_far (Kd.F_far h1 (fun _ hk => hk.2) _) (fun _ hk => hk.2) _) (fun _ hk => hk.2) _) (fun _ hk => hk.1), Kd.F_mono (Kd.F_far (Kd.F_far (Kd.F_far h2 (fun _ hk => hk.2) _) (fun _ hk => hk.2) _) (fun _ hk => hk.2) _) (fun _ hk => hk.1)⟩
theorem L3.zero {W : World} {b g6 g7 : Nat} {ok : Nat → Prop} {ba : Int} {vN vO : Value} {rows : List (List Int)} {outs : List Int} (h : L3 W b ok g6 g7 ba vN vO rows outs) (hr : 0 < rows.length) {row0 : List Int} (h00 : rows.getD 0 [] = row0) (hl : 0 < row0.length) :
  ∃ gN cN gr cr, vN = .slice (some ⟨gN, 0, none⟩) rows.length cN ∧ W.cell? ⟨gN, 0, none⟩ = some (.slice (some ⟨gr, 0, none⟩) row0.length cr) ∧ W.cell? ⟨gr, 0, none⟩ = some (.int .i64 (rd row0 0)) ∧ W.frozen? ⟨gr, 0, none⟩ = false ∧ b ≤ gr ∧ ok gr ∧
   L3 (W.setCell ⟨gr, 0, none⟩ (.int .i64 0)) b ok g6 g7 ba vN vO (rows.set 0 (row0.set 0 0)) outs := by
 subst h00
 obtain ⟨gN, cN, rfl, _⟩ := Kd.S_form h.sn hr
 obtain ⟨oki, c, hcl, ⟨v, rfl, hR⟩, hcell, hoki, hback⟩ := Kd.S_borrow h.sn ([] : List Int) 0 (by omega) (by omega)
 have hR' : Kd.R (Kd.int .i64) 3 W b oki v (rows.getD 0 []) := hR
 obtain ⟨gr, cr, rfl, hb, _, cells, hblk⟩ := Kd.R_form hR' hl
 have hgr := hR'.1 gr (by simp [Value.ownBlock])
 have hp := Kd.R_put hR' 0 0
 have hne : some gr ≠ vO.ownBlock := (hoki gr hgr).1.2
 refine ⟨gN, cN, gr, cr, rfl, hcell 0 _ rfl, ?_, ?_, hb, (hoki gr hgr).1.1, hback hp.2 (fun k hk => by injection hk with hk; rw [← hk]; exact hgr) ⟨_, rfl, hp.1⟩, ?_, ?_, ?_, h.o6, h.o7, h.ne⟩
 ·obtain ⟨ad, e, hx⟩ := Kd.at_int (Kd.R_reads' hR').2.2 0 (by omega) (by omega)
  injection e with e
  subst e
  exact hx
 ·exact blk_frozen hblk 0
 ·exact Kd.R_mono (Kd.R_step (Kd.R_tight rfl h.ro) (fun k hk hlt => hp.2.block k hlt (fun e => hne (by rw [← e]; exact hk)))) (fun k hk => h.ro.1 k hk.symm)
 ·exact blk_grown h.b6 hp.2 (Kd.R_ne hR' h.b6 (by decide))
 ·exact blk_grown h.b7 hp.2 (Kd.R_ne hR' h.b7 (by decide))
theorem cur_app {w0 w W w1 : World} {g : Nat} {row : Option Nat} (hC : Cur w0 g W) (hK : KeepBut w W g none) (hg : W.grownBy w1 row) (hne : some g ≠ row) (hb : Below w.heap.size W w1) (hle : w0.heap.size ≤ w.heap.size) (hrow : row = none ∨ ∃ b, row = some b ∧ w.heap.size ≤ b) : Cur w0 g w1 ∧ KeepBut w w1 g none :=
 ⟨hC.grown hg hne (below_weaken hC.2 hle hb), KeepBut.trans hK (KeepBut.of_grown hg g) hrow⟩
def RowsOk (b st : Int) (rows : List (List Int)) : Prop := ∀ r ∈ rows, (r.length : Int) = b ∧ ∀ x ∈ r, 0 ≤ x ∧ x < st
theorem spec_l3Random.any (w0 w : World) (g : Nat) (b st : Int) (hC : Cur w0 g w) (hle : w0.heap.size ≤ w.heap.size) (hb2 : 2 ≤ b) (hb4 : b ≤ 4) (hs1 : 1 ≤ st) (hs5 : st ≤ 16) :
  Calls Tryz.prog 71 #[.pointer (some ⟨g, 0, none⟩), .int .i64 b, .int .i64 st] w fun e w' => (∃ v : Value, e = .returned v ∧ SeqRet w' w.heap.size v) ∧ Cur w0 g w' ∧ KeepBut w w' g none := by
 have HC := G.a hC
 have HLE := G.a hle
 have HN := G.a (show 2 ≤ b ∧ b ≤ 4 ∧ 1 ≤ st ∧ st ≤ 16 from ⟨hb2, hb4, hs1, hs5⟩)
 clear hC hle hb2 hb4 hs1 hs5
 have huSq := Tryz.underlying68
 go_enter Tryz.func71, Tryz.ntmps71
 go_wp2
 have hB0 : Below w.heap.size w ((w.alloc (.cells #[.int .i64 0, .slice none 0 0, .slice none 0 0] 68)).alloc (.cells #[.int .i64 b, .slice none 0 0, .slice none 0 0] 68)) := below_alloc (below_alloc (Below.refl _ _) _) _
 have HL := G.a (show L3 ((w.alloc (.cells #[.int .i64 0, .slice none 0 0, .slice none 0 0] 68)).alloc (.cells #[.int .i64 b, .slice none 0 0, .slice none 0 0] 68)) w.heap.size (fun k => k ≠ g) w.heap.size (w.heap.size + 1) b (.slice none 0 0) (.slice none 0 0) [] [] from ⟨Kd.S_nil _ _ _ _ _, Kd.R_nil _ _ _ _ _, hlook, hlook, by have := HC.out.lt; omega, by have := HC.out.lt; omega, by omega⟩)
 have HC1 := G.a (HC.out.below hB0)
 have HK1 := G.a (KeepBut.of_below hB0 g none)
 clear hB0
 go_loopg [8] st.toNat (fun kq v8 w' => ∃ (x : Int) (vN vO : Value) (rows : List (List Int)) (outs : List Int), v8 = .int .i64 x ∧ Aside0 (x = (rows.length : Int) ∧ x ≤ st ∧ st ≤ x + kq ∧ outs.length = rows.length) ∧ Aside0 (RowsOk b st rows) ∧ Aside0 (∀ y ∈ outs, 0 ≤ y ∧ y ≤ 3) ∧ Aside0 (L3 w' w.heap.size (fun k => k ≠ g) w.heap.size (w.heap.size + 1) b vN vO rows outs) ∧ Aside0 (Cur w0 g w') ∧ Aside0 (KeepBut w w' g none))
 case atStart => exact ⟨0, _, _, [], [], rfl, ⟨by have := HN.out; simp; omega⟩, ⟨fun r hr => by cases hr⟩, ⟨fun r hr => by cases hr⟩, HL, HC1, HK1⟩
 case round =>
  clear HL HC1 HK1
  obtain ⟨x, vN, vO, rows, outs, rfl, HX, HR, HO, HL, HC1, HK⟩ := hrel
  by_cases c : x < st
  ·have cb : decide (x < st) = true := decide_eq_true c
   have HX2 := G.a c
   clear c
   obtain ⟨k1, rfl⟩ : ∃ k1, gk = k1 + 1 := ⟨gk - 1, by have := HX.out; have := HX2.out; omega⟩
   go_wp2_with (first | ((with_reducible refine gate_dst (N := 18) rfl ?_); refine Kd.R_lit (Kd.int .i64) _ 3 ?hg (N := 18) ?hd (xs := ([] : List Int)) (inner := []) (ok := fun _ => True) (okp := fun _ => True) ?hr ?hp (fun _ hk => hk) trivial (Below.refl _ _) (Nat.le_refl _) (by simp) ?_; (case hd => rfl); (case hg => rfl); (case hr => first | (go_simp; done) | (go_simp; rfl)); (case hp => exact (Reps.none _ _)); intro v1 w1 ho hb hg_ hnew_; clear hg_ hnew_; have n1_ := G.a (HL.out.elder (Kd.R_base ho) hb); have n2_ := G.a (HC1.out.below hb); have n3_ := G.a (KeepBut.trans HK.out (KeepBut.of_below hb g none) (.inl rfl)); have n4_ := G.a (Kd.R_lower (Kd.R_mono (ok' := fun k => k ≠ g) (Kd.R_bound ho) (fun k hk => by have := HC1.out.lt; have := hk.2.1; omega)) HK.out.1); clear HL HC1 HK ho hb; have HL := n1_; have HC1 := n2_; have HK := n3_; have HW := n4_; clear n1_ n2_ n3_ n4_))
   clear cb
   go_loopg [9, 10] b.toNat (fun kq v9 v10 w' => ∃ (y : Int) (row : List Int), v10 = .int .i64 y ∧ Aside0 (y = (row.length : Int) ∧ y ≤ b ∧ b ≤ y + kq) ∧ Aside0 (∀ z ∈ row, 0 ≤ z ∧ z < st) ∧ Aside0 (L3 w' w.heap.size (fun k => k ≠ g ∧ some k ≠ (v9 : Value).ownBlock) w.heap.size (w.heap.size + 1) b vN vO rows outs) ∧ Aside0 (Kd.R (Kd.int .i64) 3 w' w.heap.size (fun k => k ≠ g) v9 row) ∧ Aside0 (Cur w0 g w') ∧ Aside0 (KeepBut w w' g none))
   case atStart => exact ⟨0, [], rfl, ⟨by have := HN.out; simp; omega⟩, ⟨fun r hr => by cases hr⟩, HL, HW, HC1, HK⟩
   case round =>
    clear HL HW HC1 HK
    obtain ⟨y, row, rfl, HY, HZ, HL, HW, HC1, HK⟩ := hrel
    by_cases c : y < b
    ·have cb : decide (y < b) = true := decide_eq_true c
     have HY2 := G.a c
     clear c
     go_wp2_with (first | (go_at_call 47; refine (spec_l1Below.any w0 _ g st HC1.out (by have := HN.out; omega)).mono ?_; rintro e w2 ⟨⟨z, rfl, hz⟩, hc, hk⟩; have n1_ := G.a hc; have n2_ := G.a (KeepBut.trans HK.out hk (.inl rfl)); have n3_ := G.a (HL.out.step (fun k hk2 hlt => hk.2 k hlt hk2.1 (by simp))); have n4_ := G.a (Kd.R_keep HW.out hk (fun _ h => h)); have HZ2 := G.a hz; clear HC1 HK HL HW hc hk hz; have HC1 := n1_; have HK := n2_; have HL := n3_; have HW := n4_; clear n1_ n2_ n3_ n4_) | ((with_reducible refine gate_builtin (b := .append) (xs := #[.tmp 24, .tmp 28]) rfl ?_); at_builtin; refine Kd.R_append (Kd.int .i64) w.heap.size rfl (.tmp 24) (.tmp 28) 24 3 (.int .i64 0) 8 rfl Tryz.underlying24 info3 rfl (by decide) (by omega) u9 row z [.int .i64 z] (fun k => k ≠ g) (fun _ => False) rfl rfl ?aP (fun _ hk => hk.elim) ?aF ?aO (Below.refl _ _) ?aS ?aL ?_; (case aP => exact rfl); (case aF => exact (fun k hk => by have := HC1.out.lt; omega)); (case aO => exact HW.out); (case aS => exact HK.out.1); (case aL => have := HY.out; have := HN.out; omega); intro v3 w3 ho hb hg hat; have n1_ := G.a (cur_app HC1.out HK.out hg (fun e => HW.out.1 g e.symm rfl) hb HLE.out (Kd.R_base2 HW.out)); have n3_ := G.a (HL.out.after hg hat); have n4_ := G.a ho; clear HC1 HK HL HW ho hb hg hat; have HC1 := G.a n1_.out.1; have HK := G.a n1_.out.2; have HL := n3_; have HW := n4_; clear n1_ n3_ n4_))
     go_roundg (gk - 1)
     case measure => have := HY.out; have := HY2.out; omega
     case rel =>
      refine ⟨wrap64 (y + 1), row ++ [z], rfl, ⟨?_⟩, ⟨fun q hq => ?_⟩, HL, HW, HC1, HK⟩
      ·have := HY.out; have := HY2.out; have := HN.out
       rw [wsx (n := 1099511627776) (by omega) (by omega) (by omega), List.length_append, List.length_singleton]; omega
      ·rcases List.mem_append.1 hq with hq | hq
       ·exact HZ.out q hq
       ·rw [List.mem_singleton] at hq
        subst hq
        have := HZ2.out; have := HN.out; omega
    ·have cb : decide (y < b) = false := decide_eq_false c
     have HY2 := G.a c
     clear c
     obtain ⟨Ar, cr, er⟩ := Kd.R_slice HW.out
     subst er
     have z1 : _ = some (vN : Value) := (blk_cell HL.out.b7 1).trans rfl
     have y1 := blk_frozen HL.out.b7 1
     go_wp2_with (first | ((with_reducible refine gate_builtin (b := .append) (xs := #[.tmp 31, .tmp 33]) rfl ?_); at_builtin; refine Kd.S_append (Kd.slice 3 (Kd.int .i64)) w.heap.size rfl (.tmp 31) (.tmp 33) 63 24 (.slice none 0 0) 24 rfl Tryz.underlying63 info24 rfl (by decide) (by omega) vN rows row [.slice Ar row.length cr] (fun k => k ≠ g ∧ some k ≠ (vO : Value).ownBlock) (fun k => some k = (.slice Ar row.length cr : Value).ownBlock) rfl rfl ?aP ?aK ?aF ?aO (Below.refl _ _) ?aS ?aL ?_; (case aP => exact Kd.M_row (Kd.R_mono (Kd.R_tight rfl HW.out) (fun _ h_ => h_))); (case aK => exact (fun k hk => ⟨⟨HW.out.1 k hk.symm, fun e => (HL.out.ro.1 k e.symm).2 hk⟩, fun e => ((Kd.S_R HL.out.sn).1 k e.symm).1.2 hk⟩)); (case aF => exact (fun k hk => ⟨by have := HC1.out.lt; omega, fun e => by have := Kd.R_lt HL.out.ro k e.symm; omega⟩)); (case aO => exact Kd.S_mono HL.out.sn (fun k hk => ⟨⟨hk.1.1, hk.2⟩, fun e => hk.1.2 e⟩)); (case aS => exact HK.out.1); (case aL => have := HX.out; have := HN.out; omega); intro v1 w1 hs hb hg hat; generalize hr2 : rows ++ [row] = rows2 at hs; have HR2 := G.a hr2; clear hr2; obtain ⟨An, cn, en⟩ := Kd.S_slice hs; subst en; have n1_ := G.a (cur_app HC1.out HK.out hg (fun e => ((Kd.S_R HL.out.sn).1 g e.symm).1.1 rfl) hb HLE.out (Kd.S_base2 HL.out.sn)); have n2_ := G.a (Kd.R_mono (ok' := fun k => k ≠ g) (Kd.R_over' HL.out.ro (Kd.S_typed HL.out.sn) (by decide) hg) (fun k hk => hk.1)); have n3_ := G.a (blk_grown HL.out.b6 hg (Kd.S_ne HL.out.sn HL.out.b6 (by decide))); have n4_ := G.a (blk_grown HL.out.b7 hg (Kd.S_ne HL.out.sn HL.out.b7 (by decide))); have HS := G.a hs; have n5_ := G.a (show w.heap.size ≠ g ∧ w.heap.size + 1 ≠ g from ⟨HL.out.o6.1, HL.out.o7.1⟩); clear HC1 HK HL HW hs hb hg hat z1 y1; have HC1 := G.a n1_.out.1; have HK := G.a n1_.out.2; clear n1_; have z1 : _ = some (vN : Value) := (blk_cell n4_.out 1).trans rfl; have y1 := blk_frozen n4_.out 1))
     clear z1 y1
     have HL := G.a (L3.put1 HS.out n2_.out n3_.out n4_.out n5_.out.1 n5_.out.2 (by omega))
     have HC2 := G.a (HC1.out.far (p := ⟨w.heap.size + 1, 1, none⟩) n5_.out.2.symm (Nat.le_trans HLE.out (Nat.le_succ _)) (.slice An rows2.length cn))
     have HK2 := G.a (keep_far HK.out (p := ⟨w.heap.size + 1, 1, none⟩) (Nat.le_succ _) (.slice An rows2.length cn))
     clear HC1 HK HS n2_ n3_ n4_ n5_ cb
     generalize w1.setCell ⟨w.heap.size + 1, 1, none⟩ (.slice An rows2.length cn) = W at HL HC2 HK2
     have hdr : Below W.heap.size W W.drew := below_drew (Below.refl _ _)
     have HC1 := G.a (HC2.out.below hdr)
     have HK := G.a (KeepBut.trans HK2.out (KeepBut.of_below hdr g none) (.inl rfl))
     have HL2 := G.a (HL.out.below hdr)
     clear HC2 HK2 HL hdr
     have HL := HL2
     clear HL2
     have z2 : _ = some (vO : Value) := (blk_cell HL.out.b7 2).trans rfl
     go_region_law (first | (go_simp; go_at_call 47; (with_reducible refine (spec_l1Below.any w0 _ g 2 HC1.out (by decide)).mono ?_); rintro e w2 ⟨⟨z, rfl, hz⟩, hc, hk⟩; have n1_ := G.a hc; have n2_ := G.a (KeepBut.trans HK.out hk (.inl rfl)); have n3_ := G.a (HL.out.step (fun k hk2 hlt => hk.2 k hlt hk2 (by simp))); have HZ2 := G.a hz; clear HC1 HK HL hc hk hz; have HC1 := n1_; have HK := n2_; have HL := n3_; clear n1_ n2_ n3_; have z2 : _ = some (vO : Value) := (blk_cell HL.out.b7 2).trans rfl) | (go_simp; go_at_call 47; (with_reducible refine (spec_l1Below.any w0 _ g _ HC1.out ?hn).mono ?_); (case hn => have := HZ2.out; rw [IntKind.wrap_i64]; omega); rintro e w3 ⟨⟨q, rfl, hq⟩, hc, hk⟩; have n1_ := G.a hc; have n2_ := G.a (KeepBut.trans HK.out hk (.inl rfl)); have n3_ := G.a (HL.out.step (fun k hk2 hlt => hk.2 k hlt hk2 (by simp))); have HQ := G.a hq; clear HC1 HK HL hc hk hq; have HC1 := n1_; have HK := n2_; have HL := n3_; clear n1_ n2_ n3_; have z2 : _ = some (vO : Value) := (blk_cell HL.out.b7 2).trans rfl; have z4 : (w3.alloc (.cells #[.int .i64 q] 3)).cell? ⟨w.heap.size + 1, 2, none⟩ = some (vO : Value) := (blk_cell (blk_alloc HL.out.b7 _) 2).trans rfl) | (refine Kd.R_append_step (Kd.int .i64) w.heap.size (by rfl) (.tmp 37) (.tmp 43) 24 3 (.int .i64 0) 8 rfl Tryz.underlying24 info3 rfl (by decide) (by omega) vO outs q [.int .i64 q] (fun k => k ≠ g) (fun _ => False) rfl rfl ?aP (fun _ hk => hk.elim) ?aF ?aO (Below.refl _ _) ?aS ?aL ?_; (case aP => exact rfl); (case aF => exact (fun k hk => by have := HC1.out.lt; omega)); (case aO => exact HL.out.ro); (case aS => exact HK.out.1); (case aL => have := HX.out; have := HN.out; omega); intro v3 w4 ho hb hg hat; generalize ho2 : outs ++ [q] = outs2 at ho; have HO3 := G.a ho2; clear ho2; obtain ⟨Ao, co, eo⟩ := Kd.R_slice ho; subst eo; have HB7 := G.a (blk_grown HL.out.b7 hg (Kd.R_ne HL.out.ro HL.out.b7 (by decide))); have HL4 := G.a (L3.put2 (Kd.S_after HL.out.sn hg hat) ho (blk_grown HL.out.b6 hg (Kd.R_ne HL.out.ro HL.out.b6 (by decide))) HB7.out HL.out.o6 HL.out.o7 HL.out.ne); have HC4 := G.a (cur_app HC1.out HK.out hg (fun e => HL.out.ro.1 g e.symm rfl) hb HLE.out (Kd.R_base2 HL.out.ro)); have HC5 := G.a (HC4.out.1.far (p := ⟨w.heap.size + 1, 2, none⟩) HL.out.o7.symm (Nat.le_trans HLE.out (Nat.le_succ _)) (.slice Ao outs2.length co)); have HK5 := G.a (keep_far HC4.out.2 (p := ⟨w.heap.size + 1, 2, none⟩) (Nat.le_succ _) (.slice Ao outs2.length co)); clear ho hb hg hat HL HC1 HK HC4; have z3 : _ = some (vO : Value) := (blk_cell HB7.out 2).trans rfl; have y3 := blk_frozen HB7.out 2))
     all_goals
      try go_wp2
      go_roundg k1
      case measure => omega
      case rel =>
       refine ⟨wrap64 (x + 1), _, _, rows2, outs2, rfl, ⟨?_⟩, ⟨?_⟩, ⟨?_⟩, HL4, HC5, HK5⟩
       ·have := HX.out; have := HX2.out; have := HN.out
        rw [wsx (n := 1099511627776) (by omega) (by omega) (by omega), ← HR2.out, ← HO3.out, List.length_append, List.length_append, List.length_singleton, List.length_singleton]; omega
       ·rw [← HR2.out]
        intro r hr
        rcases List.mem_append.1 hr with hr | hr
        ·exact HR.out r hr
        ·rw [List.mem_singleton] at hr
         subst hr
         exact ⟨by have := HY.out; have := HY2.out; omega, HZ.out⟩
       ·rw [← HO3.out]
        intro r hr
        rcases List.mem_append.1 hr with hr | hr
        ·exact HO.out r hr
        ·rw [List.mem_singleton] at hr
         subst hr
         have h1 := HQ.out; have h2 := HZ2.out
         rw [IntKind.wrap_i64] at h1
         omega
  ·have cb : decide (x < st) = false := decide_eq_false c
   have HSW := G.a (show SeqW b rows outs from by
    have := HX.out; have := HN.out
    exact ⟨by omega, by omega, by omega, by omega, by omega, fun r hr => ⟨(HR.out r hr).1, fun z hz => by have := (HR.out r hr).2 z hz; omega⟩, HO.out⟩)
   obtain ⟨row0, h00⟩ : ∃ r, rows.getD 0 [] = r := ⟨_, rfl⟩
   have HL0 := G.a (show 0 < rows.length ∧ 0 < row0.length ∧ row0 ∈ rows from by
    have := HX.out; have := HN.out
    have h0 : 0 < rows.length := by omega
    have hm := mem_getD (d := ([] : List Int)) h0
    rw [h00] at hm
    exact ⟨h0, by have := (HR.out _ hm).1; omega, hm⟩)
   have H00 := G.a h00
   clear h00
   have HSZ := G.a (show SeqW b (rows.set 0 (row0.set 0 0)) outs from by
    have h := HSW.out
    refine ⟨h.b2, h.b4, by rw [List.length_set]; exact h.n1, by rw [List.length_set]; exact h.n16, by rw [List.length_set]; exact h.olen, fun r hr => ?_, h.outs⟩
    rw [List.length_set]
    rcases List.mem_or_eq_of_mem_set hr with hr | rfl
    ·exact h.row r hr
    ·have h1 := h.row _ HL0.out.2.2
     refine ⟨by rw [List.length_set]; exact h1.1, fun z hz => ?_⟩
     rcases List.mem_or_eq_of_mem_set hz with hz | rfl
     ·exact h1.2 z hz
     ·have := HL0.out.1; omega)
   clear c
   go_wp2_with (go_at_call 38; (with_reducible refine (spec_l1Once.any w0 _ g 2 HC1.out (by decide)).mono ?_); rintro e w2 ⟨⟨z, rfl⟩, hc, hk⟩; have n1_ := G.a hc; have n2_ := G.a (KeepBut.trans HK.out hk (.inl rfl)); have n3_ := G.a (HL.out.step (fun k hk2 hlt => hk.2 k hlt hk2 (by simp))); clear HC1 HK HL hc hk; have HC1 := n1_; have HK := n2_; have HL := n3_; clear n1_ n2_ n3_; obtain ⟨Ao, co, eo⟩ := Kd.R_slice HL.out.ro; subst eo; obtain ⟨gN, cN, gr, cr, rfl, q1, q2, q3, q4, q5, hz⟩ := HL.out.zero HL0.out.1 H00.out HL0.out.2.1; have HLZ := G.a hz; have HQ := G.a (And.intro q4 q5); clear hz q4 q5; have z0 : w2.cell? ⟨w.heap.size + 1, 0, none⟩ = some (.int .i64 b : Value) := (blk_cell HL.out.b7 0).trans rfl; have z1 : w2.cell? ⟨w.heap.size + 1, 1, none⟩ = some (.slice (some ⟨gN, 0, none⟩) rows.length cN : Value) := (blk_cell HL.out.b7 1).trans rfl; have z2 : w2.cell? ⟨w.heap.size + 1, 2, none⟩ = some (.slice Ao outs.length co : Value) := (blk_cell HL.out.b7 2).trans rfl; have zc0 : w2.cell? ⟨w.heap.size, 0, none⟩ = some (.int .i64 0 : Value) := (blk_cell HL.out.b6 0).trans rfl; have zf0 := blk_frozen HL.out.b6 0; have zc1 : w2.cell? ⟨w.heap.size, 1, none⟩ = some (.slice none 0 0 : Value) := (blk_cell HL.out.b6 1).trans rfl; have zf1 := blk_frozen HL.out.b6 1; have zc2 : w2.cell? ⟨w.heap.size, 2, none⟩ = some (.slice none 0 0 : Value) := (blk_cell HL.out.b6 2).trans rfl; have zf2 := blk_frozen HL.out.b6 2; have x0 : (w2.setCell ⟨gr, 0, none⟩ (.int .i64 0)).cell? ⟨w.heap.size + 1, 0, none⟩ = some (.int .i64 b : Value) := (blk_cell HLZ.out.b7 0).trans rfl; have x1 : (w2.setCell ⟨gr, 0, none⟩ (.int .i64 0)).cell? ⟨w.heap.size + 1, 1, none⟩ = some (.slice (some ⟨gN, 0, none⟩) rows.length cN : Value) := (blk_cell HLZ.out.b7 1).trans rfl; have x2 : (w2.setCell ⟨gr, 0, none⟩ (.int .i64 0)).cell? ⟨w.heap.size + 1, 2, none⟩ = some (.slice Ao outs.length co : Value) := (blk_cell HLZ.out.b7 2).trans rfl; have xc0 : (w2.setCell ⟨gr, 0, none⟩ (.int .i64 0)).cell? ⟨w.heap.size, 0, none⟩ = some (.int .i64 0 : Value) := (blk_cell HLZ.out.b6 0).trans rfl; have xf0 := blk_frozen HLZ.out.b6 0; have xc1 : (w2.setCell ⟨gr, 0, none⟩ (.int .i64 0)).cell? ⟨w.heap.size, 1, none⟩ = some (.slice none 0 0 : Value) := (blk_cell HLZ.out.b6 1).trans rfl; have xf1 := blk_frozen HLZ.out.b6 1; have xc2 : (w2.setCell ⟨gr, 0, none⟩ (.int .i64 0)).cell? ⟨w.heap.size, 2, none⟩ = some (.slice none 0 0 : Value) := (blk_cell HLZ.out.b6 2).trans rfl; have xf2 := blk_frozen HLZ.out.b6 2; have p1 := eq_true HL0.out.1; have p2 := eq_true HL0.out.2.1)
   all_goals first
    | exact bodyPost_ret (results_cell_row rfl _ _ w.heap.size 68 #[.int .i64 b, .slice (some ⟨gN, 0, none⟩) rows.length cN, .slice Ao outs.length co] (0, 0) _ rfl (HLZ.out.done HSZ.out).2 Tryz.underlying68 rfl (by kernel_rfl)) rfl ⟨⟨_, rfl, (HLZ.out.done HSZ.out).1⟩, (((HC1.out.far (p := ⟨gr, 0, none⟩) HQ.out.2.symm (Nat.le_trans HLE.out HQ.out.1) _).far (p := ⟨w.heap.size, 0, none⟩) HL.out.o6.symm HLE.out _).far (p := ⟨w.heap.size, 1, none⟩) HL.out.o6.symm HLE.out _).far (p := ⟨w.heap.size, 2, none⟩) HL.out.o6.symm HLE.out _, keep_far (keep_far (keep_far (keep_far HK.out (p := ⟨gr, 0, none⟩) HQ.out.1 _) (p := ⟨w.heap.size, 0, none⟩) (Nat.le_refl _) _) (p := ⟨w.heap.size, 1, none⟩) (Nat.le_refl _) _) (p := ⟨w.heap.size, 2, none⟩) (Nat.le_refl _) _⟩
    | exact bodyPost_ret (results_cell_row rfl _ _ w.heap.size 68 #[.int .i64 b, .slice (some ⟨gN, 0, none⟩) rows.length cN, .slice Ao outs.length co] (0, 0) _ rfl (HL.out.done HSW.out).2 Tryz.underlying68 rfl (by kernel_rfl)) rfl ⟨⟨_, rfl, (HL.out.done HSW.out).1⟩, ((HC1.out.far (p := ⟨w.heap.size, 0, none⟩) HL.out.o6.symm HLE.out _).far (p := ⟨w.heap.size, 1, none⟩) HL.out.o6.symm HLE.out _).far (p := ⟨w.heap.size, 2, none⟩) HL.out.o6.symm HLE.out _, keep_far (keep_far (keep_far HK.out (p := ⟨w.heap.size, 0, none⟩) (Nat.le_refl _) _) (p := ⟨w.heap.size, 1, none⟩) (Nat.le_refl _) _) (p := ⟨w.heap.size, 2, none⟩) (Nat.le_refl _) _⟩
theorem fin3 {w0 w W : World} {g b g6 : Nat} {x1 x2 x3 : Value} (hC : Cur w0 g W) (hK : KeepBut w W g none) (hge : w.heap.size ≤ g6) (hle : w0.heap.size ≤ w.heap.size) (hne : g6 ≠ g)
  (b6 : W.heap[g6]? = some (.cells #[.int .i64 0, .slice none 0 0, .slice none 0 0] 68 (0, 0))) (hv : SeqRet W b (.agg #[x1, x2, x3])) (hlt : g6 < b) (hwb : w.heap.size ≤ b) :
  (SeqRet (((W.setCell ⟨g6, 0, none⟩ x1).setCell ⟨g6, 1, none⟩ x2).setCell ⟨g6, 2, none⟩ x3) w.heap.size (.agg #[x1, x2, x3]) ∧ Cur w0 g (((W.setCell ⟨g6, 0, none⟩ x1).setCell ⟨g6, 1, none⟩ x2).setCell ⟨g6, 2, none⟩ x3) ∧ KeepBut w (((W.setCell ⟨g6, 0, none⟩ x1).setCell ⟨g6, 1, none⟩ x2).setCell ⟨g6, 2, none⟩ x3) g none) ∧
  (((W.setCell ⟨g6, 0, none⟩ x1).setCell ⟨g6, 1, none⟩ x2).setCell ⟨g6, 2, none⟩ x3).heap[g6]? = some (.cells #[x1, x2, x3] 68 (0, 0)) :=
 ⟨⟨((((hv.far (p := ⟨g6, 0, none⟩) hlt x1).far (p := ⟨g6, 1, none⟩) hlt x2).far (p := ⟨g6, 2, none⟩) hlt x3).mono hwb), ((hC.far (p := ⟨g6, 0, none⟩) hne.symm (Nat.le_trans hle hge) x1).far (p := ⟨g6, 1, none⟩) hne.symm (Nat.le_trans hle hge) x2).far (p := ⟨g6, 2, none⟩) hne.symm (Nat.le_trans hle hge) x3, keep_far (keep_far (keep_far hK (p := ⟨g6, 0, none⟩) hge x1) (p := ⟨g6, 1, none⟩) hge x2) (p := ⟨g6, 2, none⟩) hge x3⟩,
  blk_put (cs := #[x1, x2, .slice none 0 0]) (blk_put (cs := #[x1, .slice none 0 0, .slice none 0 0]) (blk_put (cs := #[.int .i64 0, .slice none 0 0, .slice none 0 0]) b6 0 _ rfl) 1 _ rfl) 2 _ rfl⟩
theorem spec_l1Pick.six (w0 w : World) (g b t : Nat) (hC : Cur w0 g w) (hb : w.heap[b]? = some (.cells (pw_strs names6).toArray t (0, 0))) (hne : b ≠ g) :
  Calls Tryz.prog 70 #[.pointer (some ⟨g, 0, none⟩), .slice (some ⟨b, 0, none⟩) 6 6] w fun e w' => (∃ r : ByteArray, e = .returned (.string r) ∧ r ∈ names6) ∧ Cur w0 g w' ∧ KeepBut w w' g none :=
 spec_l1Pick.any w0 w g (some ⟨b, 0, none⟩) 6 names6 hC (lit_str hb (by decide)) (by decide) (by decide) (by decide) (fun ad e => by injection e with e; rw [← e]; exact hne)
theorem spec_l3Draw.any (w0 w : World) (g : Nat) (hC : Cur w0 g w) (hle : w0.heap.size ≤ w.heap.size) :
  Calls Tryz.prog 49 #[.pointer (some ⟨g, 0, none⟩)] w fun e w' => (∃ v : Value, e = .returned v ∧ SeqRet w' w.heap.size v) ∧ Cur w0 g w' ∧ KeepBut w w' g none := by
 have HC := G.a hC
 have HLE := G.a hle
 clear hC hle
 have huSq := Tryz.underlying68
 go_enter Tryz.func49, Tryz.ntmps49
 go_upto_region 1 with (fail)
 have hb0 : Below w.heap.size w (w.alloc (.cells #[.int .i64 0, .slice none 0 0, .slice none 0 0] 68)) := below_alloc (Below.refl _ _) _
 have B2 := G.a (show (w.alloc (.cells #[.int .i64 0, .slice none 0 0, .slice none 0 0] 68)).heap[w.heap.size]? = _ from hlook)
 have HC1 := G.a (HC.out.below hb0)
 have HK := G.a (KeepBut.of_below hb0 g none)
 clear hb0
 go_wp2_with (first | (go_at_call 38; (with_reducible refine (spec_l1Once.any w0 _ g 3 HC1.out (by decide)).mono ?_); rintro e w2 ⟨⟨z, rfl⟩, hc, hk⟩; have n1_ := G.a hc; have n2_ := G.a (KeepBut.trans HK.out hk (.inl rfl)); have n3_ := G.a (KeepBut.blk hk B2.out (by have := HC.out.lt; omega) (by simp)); clear HC1 HK B2 hc hk; have HC1 := n1_; have HK := n2_; have B2 := n3_; clear n1_ n2_ n3_; have zc0 : w2.cell? ⟨w.heap.size, 0, none⟩ = some (.int .i64 0 : Value) := (blk_cell B2.out 0).trans rfl; have zc1 : w2.cell? ⟨w.heap.size, 1, none⟩ = some (.slice none 0 0 : Value) := (blk_cell B2.out 1).trans rfl; have zc2 : w2.cell? ⟨w.heap.size, 2, none⟩ = some (.slice none 0 0 : Value) := (blk_cell B2.out 2).trans rfl; have zf0 := blk_frozen B2.out 0; have zf1 := blk_frozen B2.out 1; have zf2 := blk_frozen B2.out 2) | (go_at_call 70; (with_reducible refine (spec_l1Pick.six w0 _ g w2.heap.size 9 (HC1.out.below (below_alloc (Below.refl _ _) _)) ?hk1 ?hk2).mono ?_); (case hk1 => exact heap_hit rfl); (case hk2 => have := HC1.out.lt; omega); rintro e w3 ⟨⟨s, rfl, hs⟩, hc, hk⟩; have HS := G.a hs; clear hs; have b2_ := blk_alloc B2.out (.cells (pw_strs names6).toArray 9); have k2_ := KeepBut.trans HK.out (KeepBut.of_below (below_alloc (Below.refl _ _) (.cells (pw_strs names6).toArray 9)) g none) (.inl rfl); clear B2 HK; have B2 := G.a b2_; have HK := G.a k2_; clear b2_ k2_ zc0 zc1 zc2 zf0 zf1 zf2; have n1_ := G.a hc; have n2_ := G.a (KeepBut.trans HK.out hk (.inl rfl)); have n3_ := G.a (KeepBut.blk hk B2.out (by have := HC.out.lt; omega) (by simp)); clear HC1 HK B2 hc hk; have HC1 := n1_; have HK := n2_; have B2 := n3_; clear n1_ n2_ n3_; have zc0 : w3.cell? ⟨w.heap.size, 0, none⟩ = some (.int .i64 0 : Value) := (blk_cell B2.out 0).trans rfl; have zc1 : w3.cell? ⟨w.heap.size, 1, none⟩ = some (.slice none 0 0 : Value) := (blk_cell B2.out 1).trans rfl; have zc2 : w3.cell? ⟨w.heap.size, 2, none⟩ = some (.slice none 0 0 : Value) := (blk_cell B2.out 2).trans rfl; have zf0 := blk_frozen B2.out 0; have zf1 := blk_frozen B2.out 1; have zf2 := blk_frozen B2.out 2) | (go_at_call 69; (with_reducible refine (spec_NamedSequence.any s HS.out _).mono ?_); rintro e w4 ⟨⟨v, rfl, hv⟩, hb⟩; have HV := G.a hv; have HB3 := G.a (blk_lt B2.out); clear hv zc0 zc1 zc2 zf0 zf1 zf2; obtain ⟨ba, A1, c1, rows, A2, c2, out, rfl, _⟩ := HV.out; have HB := G.a hb; clear hb; have b4_ := blk_alloc (blk_below B2.out HB.out) (.cells #[.int .i64 ba, .slice A1 rows.length c1, .slice A2 out.length c2] 68); clear B2; have B2 := G.a b4_; clear b4_; have zc0 : (w4.alloc (.cells #[.int .i64 ba, .slice A1 rows.length c1, .slice A2 out.length c2] 68)).cell? ⟨w.heap.size, 0, none⟩ = some (.int .i64 0 : Value) := (blk_cell B2.out 0).trans rfl; have zf0 := blk_frozen B2.out 0; have zc1 : (w4.alloc (.cells #[.int .i64 ba, .slice A1 rows.length c1, .slice A2 out.length c2] 68)).cell? ⟨w.heap.size, 1, none⟩ = some (.slice none 0 0 : Value) := (blk_cell B2.out 1).trans rfl; have zf1 := blk_frozen B2.out 1; have zc2 : (w4.alloc (.cells #[.int .i64 ba, .slice A1 rows.length c1, .slice A2 out.length c2] 68)).cell? ⟨w.heap.size, 2, none⟩ = some (.slice none 0 0 : Value) := (blk_cell B2.out 2).trans rfl; have zf2 := blk_frozen B2.out 2) | (go_at_call 47; (with_reducible refine (spec_l1Below.any w0 _ g 2 HC1.out (by decide)).mono ?_); rintro e w5 ⟨⟨p, rfl, hp⟩, hc, hk⟩; have HP := G.a hp; clear hp; have n1_ := G.a hc; have n2_ := G.a (KeepBut.trans HK.out hk (.inl rfl)); have n3_ := G.a (KeepBut.blk hk B2.out (by have := HC.out.lt; omega) (by simp)); have HS_ := G.a hk.1; clear HC1 HK B2 hc hk zc0 zc1 zc2 zf0 zf1 zf2; have HC1 := n1_; have HK := n2_; have B2 := n3_; clear n1_ n2_ n3_; have zc0 : w5.cell? ⟨w.heap.size, 0, none⟩ = some (.int .i64 0 : Value) := (blk_cell B2.out 0).trans rfl; have zf0 := blk_frozen B2.out 0; have zc1 : w5.cell? ⟨w.heap.size, 1, none⟩ = some (.slice none 0 0 : Value) := (blk_cell B2.out 1).trans rfl; have zf1 := blk_frozen B2.out 1; have zc2 : w5.cell? ⟨w.heap.size, 2, none⟩ = some (.slice none 0 0 : Value) := (blk_cell B2.out 2).trans rfl; have zf2 := blk_frozen B2.out 2) | (go_at_call 47; (with_reducible refine (spec_l1Below.any w0 _ g 5 HC1.out (by decide)).mono ?_); rintro e w6 ⟨⟨q, rfl, hq⟩, hc, hk⟩; have HQ := G.a hq; clear hq; have n1_ := G.a hc; have n2_ := G.a (KeepBut.trans HK.out hk (.inl rfl)); have n3_ := G.a (KeepBut.blk hk B2.out (by have := HC.out.lt; omega) (by simp)); have HS_ := G.a hk.1; clear HC1 HK B2 hc hk zc0 zc1 zc2 zf0 zf1 zf2; have HC1 := n1_; have HK := n2_; have B2 := n3_; clear n1_ n2_ n3_; have zc0 : w6.cell? ⟨w.heap.size, 0, none⟩ = some (.int .i64 0 : Value) := (blk_cell B2.out 0).trans rfl; have zf0 := blk_frozen B2.out 0; have zc1 : w6.cell? ⟨w.heap.size, 1, none⟩ = some (.slice none 0 0 : Value) := (blk_cell B2.out 1).trans rfl; have zf1 := blk_frozen B2.out 1; have zc2 : w6.cell? ⟨w.heap.size, 2, none⟩ = some (.slice none 0 0 : Value) := (blk_cell B2.out 2).trans rfl; have zf2 := blk_frozen B2.out 2) | (go_at_call 71; (with_reducible refine (spec_l3Random.any w0 _ g _ _ HC1.out ?ha ?hb ?hc ?hd ?he).mono ?_); (case ha => exact Nat.le_trans HLE.out HK.out.1); (case hb => have := HP.out; unfold wrap64; omega); (case hc => have := HP.out; unfold wrap64; omega); (case hd => have := HQ.out; unfold wrap64; omega); (case he => have := HQ.out; unfold wrap64; omega); rintro e w7 ⟨⟨v, rfl, hv⟩, hc, hk⟩; have HV := G.a hv; clear hv; obtain ⟨ba, A1, c1, rows, A2, c2, out, rfl, _⟩ := HV.out; have HB3 := G.a (blk_lt B2.out); have n1_ := G.a hc; have n2_ := G.a (KeepBut.trans HK.out hk (.inl rfl)); have n3_ := G.a (KeepBut.blk hk B2.out (by have := HC.out.lt; omega) (by simp)); have HS_ := G.a hk.1; clear HC1 HK B2 hc hk zc0 zc1 zc2 zf0 zf1 zf2; have HC1 := n1_; have HK := n2_; have B2 := n3_; clear n1_ n2_ n3_; have zc0 : w7.cell? ⟨w.heap.size, 0, none⟩ = some (.int .i64 0 : Value) := (blk_cell B2.out 0).trans rfl; have zf0 := blk_frozen B2.out 0; have zc1 : w7.cell? ⟨w.heap.size, 1, none⟩ = some (.slice none 0 0 : Value) := (blk_cell B2.out 1).trans rfl; have zf1 := blk_frozen B2.out 1; have zc2 : w7.cell? ⟨w.heap.size, 2, none⟩ = some (.slice none 0 0 : Value) := (blk_cell B2.out 2).trans rfl; have zf2 := blk_frozen B2.out 2))
 ·have HV2 := HV.out.below (below_alloc (Below.refl w4.heap.size w4) (.cells #[.int .i64 ba, .slice A1 rows.length c1, .slice A2 out.length c2] 68))
  have hb4 := below_step HB.out (below_alloc (Below.refl w4.heap.size w4) (.cells #[.int .i64 ba, .slice A1 rows.length c1, .slice A2 out.length c2] 68))
  have hlt : w.heap.size < w3.heap.size := by have := HK.out.1; have := HB3.out; omega
  have hf := fin3 (HC1.out.below hb4) (KeepBut.trans HK.out (KeepBut.of_below hb4 g none) (.inl rfl)) (Nat.le_refl _) HLE.out (by have := HC.out.lt; omega) B2.out HV2 hlt (Nat.le_of_lt hlt)
  exact bodyPost_ret (results_cell_row rfl _ _ w.heap.size 68 _ (0, 0) _ rfl hf.2 Tryz.underlying68 rfl (by kernel_rfl)) rfl ⟨⟨_, rfl, hf.1.1⟩, hf.1.2⟩
 ·have hlt : w.heap.size < w6.heap.size := HB3.out
  have hf := fin3 HC1.out HK.out (Nat.le_refl _) HLE.out (by have := HC.out.lt; omega) B2.out HV.out hlt (Nat.le_of_lt hlt)
  exact bodyPost_ret (results_cell_row rfl _ _ w.heap.size 68 _ (0, 0) _ rfl hf.2 Tryz.underlying68 rfl (by kernel_rfl)) rfl ⟨⟨_, rfl, hf.1.1⟩, hf.1.2⟩
def MorRet (w' : World) (b : Nat) (v : Value) : Prop := ∃ (A : Option Addr) (c : Nat) (rows : List (List Int)), v = .agg #[.slice A rows.length c] ∧ (rows.length ≤ 1048576 ∧ ∀ r ∈ rows, r.length ≤ 1048576) ∧ Kd.F (Kd.slice 3 (Kd.int .i64)) w' (fun k => b ≤ k) A rows.length rows
theorem MorRet.below {W W1 : World} {b : Nat} {v : Value} (h : MorRet W b v) (hb : Below W.heap.size W W1) : MorRet W1 b v := by
 obtain ⟨A, c, rows, e, h1, h2⟩ := h
 exact ⟨A, c, rows, e, h1, Kd.F_below h2 hb⟩
theorem MorRet.mono {W : World} {b b' : Nat} {v : Value} (h : MorRet W b v) (hb : b' ≤ b) : MorRet W b' v := by
 obtain ⟨A, c, rows, e, h1, h2⟩ := h
 exact ⟨A, c, rows, e, h1, Kd.F_mono h2 (fun k hk => Nat.le_trans hb hk)⟩
structure LM (W : World) (b : Nat) (ok : Nat → Prop) (g2 g4 : Nat) (vM : Value) (rows : List (List Int)) : Prop where
 sm : Kd.S (Kd.slice 3 (Kd.int .i64)) 24 W b ok vM rows
 b2 : W.heap[g2]? = some (.cells #[.slice none 0 0] 72 (0, 0))
 b4 : W.heap[g4]? = some (.cells #[vM] 72 (0, 0))
 o2 : ok g2
 o4 : ok g4
 ne : g2 ≠ g4
section
variable {W W1 : World} {b g2 g4 : Nat} {ok ok' : Nat → Prop} {vM v1 : Value} {rows rows' : List (List Int)}
theorem LM.step (h : LM W b ok g2 g4 vM rows) (hm : ∀ k, ok k → k < W.heap.size → W1.heap[k]? = W.heap[k]?) : LM W1 b ok g2 g4 vM rows :=
 ⟨Kd.S_step h.sm hm, (hm _ h.o2 (blk_lt h.b2)).trans h.b2, (hm _ h.o4 (blk_lt h.b4)).trans h.b4, h.o2, h.o4, h.ne⟩
theorem LM.mono (h : LM W b ok g2 g4 vM rows) (hk : ∀ k, ok k → ok' k) : LM W b ok' g2 g4 vM rows :=
 ⟨Kd.S_mono h.sm hk, h.b2, h.b4, hk _ h.o2, hk _ h.o4, h.ne⟩
theorem LM.bound (h : LM W b ok g2 g4 vM rows) : LM W b (fun k => ok k ∧ k < W.heap.size) g2 g4 vM rows :=
 ⟨Kd.S_mono (Kd.S_bound h.sm) (fun k hk => ⟨hk.1, hk.2.2.1⟩), h.b2, h.b4, ⟨h.o2, blk_lt h.b2⟩, ⟨h.o4, blk_lt h.b4⟩, h.ne⟩
theorem LM.below (h : LM W b ok g2 g4 vM rows) (hb : Below W.heap.size W W1) : LM W1 b ok g2 g4 vM rows := h.step (fun k _ hk => hb.block k hk)
theorem LM.elder {v : Value} (h : LM W b ok g2 g4 vM rows) (hbase : ∀ k, v.ownBlock = some k → W.heap.size ≤ k) (hb : Below W.heap.size W W1) : LM W1 b (fun k => ok k ∧ some k ≠ v.ownBlock) g2 g4 vM rows :=
 (h.bound.step (fun k hk hlt => hb.block k hlt)).mono (fun k hk => ⟨hk.1, fun e => by have := hbase k e.symm; omega⟩)
theorem LM.after {v v1 : Value} (h : LM W b (fun k => ok k ∧ some k ≠ v.ownBlock) g2 g4 vM rows) (hg : W.grownBy W1 v.ownBlock) (hat : v1.ownBlock = v.ownBlock ∨ ∃ b, v1.ownBlock = some b ∧ W.heap.size ≤ b) : LM W1 b (fun k => ok k ∧ some k ≠ v1.ownBlock) g2 g4 vM rows :=
 (h.bound.step (fun k hk hlt => hg.block k hlt hk.1.2)).mono (fun k hk => ⟨hk.1.1, fun e => by
  rcases hat with hat | ⟨q, hq, hle⟩
  ·exact hk.1.2 (by rw [← hat]; exact e)
  ·rw [hq] at e
   injection e with e
   omega⟩)
theorem LM.put (hs : Kd.S (Kd.slice 3 (Kd.int .i64)) 24 W b ok v1 rows') (b2 : W.heap[g2]? = some (.cells #[.slice none 0 0] 72 (0, 0))) (b4 : W.heap[g4]? = some (.cells #[vM] 72 (0, 0))) (o2 : ok g2) (o4 : ok g4) (ne : g2 ≠ g4) : LM (W.setCell ⟨g4, 0, none⟩ v1) b ok g2 g4 v1 rows' :=
 ⟨Kd.S_mono (Kd.S_far (p := ⟨g4, 0, none⟩) (Kd.S_types hs b4 (by decide)) (fun _ hk => hk.2) _) (fun _ hk => hk.1), blk_far b2 ne _, blk_put (cs := #[vM]) b4 0 _ rfl, o2, o4, ne⟩
theorem LM.done (h : LM W b ok g2 g4 vM rows) (hl : rows.length ≤ 1048576 ∧ ∀ r ∈ rows, r.length ≤ 1048576) :
  MorRet (W.setCell ⟨g2, 0, none⟩ vM) b (.agg #[vM]) ∧ (W.setCell ⟨g2, 0, none⟩ vM).heap[g2]? = some (.cells #[vM] 72 (0, 0)) := by
 refine ⟨?_, blk_put (cs := #[.slice none 0 0]) h.b2 0 _ rfl⟩
 have hs := Kd.S_V (base' := 0) (Kd.S_mono (ok' := fun k => b ≤ k ∧ k ≠ g2) (Kd.S_bound (Kd.S_types h.sm h.b2 (by decide))) (fun k hk => ⟨hk.2.1, hk.1.2⟩))
 obtain ⟨A1, c1, rfl, _, h1⟩ := hs
 exact ⟨A1, c1, rows, rfl, hl, Kd.F_mono (Kd.F_far h1 (fun _ hk => hk.2) _) (fun _ hk => hk.1)⟩
end
theorem MorRet.far {W : World} {b : Nat} {v : Value} (h : MorRet W b v) {p : Addr} (hp : p.block < b) (u : Value) : MorRet (W.setCell p u) b v := by
 obtain ⟨A, c, rows, e, h1, h2⟩ := h
 exact ⟨A, c, rows, e, h1, Kd.F_far h2 (fun k hk => by omega) u⟩
theorem finM {w0 w W : World} {g b g2 : Nat} {x : Value} (hC : Cur w0 g W) (hK : KeepBut w W g none) (hge : w.heap.size ≤ g2) (hle : w0.heap.size ≤ w.heap.size) (hne : g2 ≠ g)
  (b2 : W.heap[g2]? = some (.cells #[.slice none 0 0] 72 (0, 0))) (hv : MorRet W b (.agg #[x])) (hlt : g2 < b) (hwb : w.heap.size ≤ b) :
  (MorRet (W.setCell ⟨g2, 0, none⟩ x) w.heap.size (.agg #[x]) ∧ Cur w0 g (W.setCell ⟨g2, 0, none⟩ x) ∧ KeepBut w (W.setCell ⟨g2, 0, none⟩ x) g none) ∧
  (W.setCell ⟨g2, 0, none⟩ x).heap[g2]? = some (.cells #[x] 72 (0, 0)) :=
 ⟨⟨(hv.far (p := ⟨g2, 0, none⟩) hlt x).mono hwb, hC.far (p := ⟨g2, 0, none⟩) hne.symm (Nat.le_trans hle hge) x, keep_far hK (p := ⟨g2, 0, none⟩) hge x⟩, blk_put (cs := #[.slice none 0 0]) b2 0 _ rfl⟩
theorem lit_M {W : World} {b g n : Nat} {vs : List Value} {rows : List (List Int)} (hn : n = rows.length) (hb : b ≤ g) (h : W.heap[g]? = some (.cells vs.toArray 24 (0, 0))) (hl : rows.length ≤ 100 ∧ ∀ r ∈ rows, r.length ≤ 1048576) (hr : LitRows W b vs rows) : MorRet W b (.agg #[.slice (some ⟨g, 0, none⟩) n n]) := by
 have f := lit_F hn hb h hl.1 hr
 subst hn
 exact ⟨_, _, rows, rfl, ⟨by have := hl.1; omega, hl.2⟩, f⟩
structure LH (W : World) (b : Nat) (ok : Nat → Prop) (g2 g4 gN cN : Nat) (oki : Nat → Prop) (v : Value) (rows : List (List Int)) (row0 : List Int) : Prop where
 hH : Kd.H (Kd.slice 3 (Kd.int .i64)) 24 W b ok (.slice (some ⟨gN, 0, none⟩) rows.length cN) rows 0 oki [v]
 hr : Kd.R (Kd.int .i64) 3 W b oki v row0
 oi : ∀ k, oki k → ok k
 hp : 0 < rows.length
 b2 : W.heap[g2]? = some (.cells #[.slice none 0 0] 72 (0, 0))
 b4 : W.heap[g4]? = some (.cells #[.slice (some ⟨gN, 0, none⟩) rows.length cN] 72 (0, 0))
 bN : ∃ cells, W.heap[gN]? = some (.cells cells 24 (0, 0))
 oN : ok gN ∧ b ≤ gN
 o2 : ok g2
 o4 : ok g4
 ne : g2 ≠ g4
section
variable {W W1 : World} {b g2 g4 gN cN : Nat} {ok oki : Nat → Prop} {v vM : Value} {rows : List (List Int)} {row0 : List Int}
theorem LM.lend (h : LM W b ok g2 g4 vM rows) (hp : 0 < rows.length) : ∃ gN cN oki v row0, vM = .slice (some ⟨gN, 0, none⟩) rows.length cN ∧ row0 = rows.getD 0 [] ∧ LH W b ok g2 g4 gN cN oki v rows row0 := by
 obtain ⟨gN, cN, rfl, hb, _, hc⟩ := Kd.S_form h.sm hp
 obtain ⟨oki, c, hcl, ⟨v, rfl, hR⟩, hcc, hoki, hH⟩ := Kd.S_lend h.sm ([] : List Int) 0 (by omega) (by omega)
 exact ⟨gN, cN, oki, v, _, rfl, rfl, hH, hR, fun k hk => (hoki k hk).1, hp, h.b2, h.b4, hc, ⟨(Kd.S_R h.sm).1 gN (by simp [Value.ownBlock]), hb⟩, h.o2, h.o4, h.ne⟩
theorem LH.step (h : LH W b ok g2 g4 gN cN oki v rows row0) (hm : ∀ k, ok k → k < W.heap.size → W1.heap[k]? = W.heap[k]?) : LH W1 b ok g2 g4 gN cN oki v rows row0 := by
 obtain ⟨cells, hc⟩ := h.bN
 exact ⟨Kd.H_step h.hH (fun k hk _ hlt => hm k hk hlt), Kd.R_step h.hr (fun k hk hlt => hm k (h.oi k hk) hlt), h.oi, h.hp, (hm _ h.o2 (blk_lt h.b2)).trans h.b2, (hm _ h.o4 (blk_lt h.b4)).trans h.b4, ⟨cells, (hm _ h.oN.1 (blk_lt hc)).trans hc⟩, h.oN, h.o2, h.o4, h.ne⟩
theorem LH.below (h : LH W b ok g2 g4 gN cN oki v rows row0) (hb : Below W.heap.size W W1) : LH W1 b ok g2 g4 gN cN oki v rows row0 := h.step (fun k _ hk => hb.block k hk)
theorem LH.cell (h : LH W b ok g2 g4 gN cN oki v rows row0) : W.cell? ⟨gN, 0, none⟩ = some v := (Kd.H_at h.hH (by omega) (by have := h.hp; omega)).1 0 v rfl
theorem LH.app {q : Int} {v1 : Value} (h : LH W b ok g2 g4 gN cN oki v rows row0) (hg : W.grownBy W1 v.ownBlock) (ho : Kd.R (Kd.int .i64) 3 W1 b (fun k => oki k ∨ ok k ∧ W.heap.size ≤ k) v1 (row0 ++ [q])) :
  (W1.cell? ⟨gN, 0, none⟩ = some v ∧ W1.frozen? ⟨gN, 0, none⟩ = false) ∧ W1.cell? ⟨g4, 0, none⟩ = some (.slice (some ⟨gN, 0, none⟩) rows.length cN) ∧ LM (W1.setCell ⟨gN, 0, none⟩ v1) b ok g2 g4 (.slice (some ⟨gN, 0, none⟩) rows.length cN) (rows.set 0 (row0 ++ [q])) := by
 have hH := Kd.H_grown (Kd.H_widen h.hH) hg (fun k hk => .inl (h.hr.1 k hk))
 have hp := h.hp
 have hat := Kd.H_at hH (by omega) (by omega)
 have hs := (Kd.S_seg0 hH (by omega) (by omega) (seg := [v1]) (j := 0) (Nat.le_refl 1) (x' := row0 ++ [q]) (okp := fun k => oki k ∨ ok k ∧ W.heap.size ≤ k) (Kd.M_row ho) (fun _ hk => hk)).1
 obtain ⟨cells, hc⟩ := h.bN
 have hb2 := blk_grown h.b2 hg (Kd.R_ne h.hr h.b2 (by decide))
 have hb4 := blk_grown h.b4 hg (Kd.R_ne h.hr h.b4 (by decide))
 have n2 : g2 ≠ gN := fun e => by rw [e] at h; have := h.b2; rw [hc] at this; simp at this
 have n4 : g4 ≠ gN := fun e => by rw [e] at h; have := h.b4; rw [hc] at this; simp at this
 exact ⟨⟨hat.1 0 v rfl, hat.2 0⟩, (blk_cell hb4 0).trans rfl, hs, blk_far hb2 n2 _, blk_far hb4 n4 _, h.o2, h.o4, h.ne⟩
end
theorem spec_l1PickInt.lit (w0 w : World) (g b t n : Nat) (xs : List Int) (hC : Cur w0 g w) (hn : n = xs.length) (hb : w.heap[b]? = some (.cells (nums .i64 xs).toArray t (0, 0))) (h1 : 1 ≤ n) (h2 : n ≤ 100) (hne : b ≠ g) :
  Calls Tryz.prog 39 #[.pointer (some ⟨g, 0, none⟩), .slice (some ⟨b, 0, none⟩) n n] w fun e w' => (∃ r : Int, e = .returned (.int .i64 r) ∧ r ∈ xs) ∧ Cur w0 g w' ∧ KeepBut w w' g none := by
 subst hn
 exact spec_l1PickInt.any w0 w g (some ⟨b, 0, none⟩) xs.length xs hC (lit_int hb (by omega)) (Nat.le_refl _) h1 (by omega) (fun ad e => by injection e with e; rw [← e]; exact hne)
def RowsLe (rows : List (List Int)) : Prop := rows.length ≤ 4 ∧ ∀ r ∈ rows, r.length ≤ 4
theorem RowsLe.big {rows : List (List Int)} (h : RowsLe rows) : rows.length ≤ 1048576 ∧ ∀ r ∈ rows, r.length ≤ 1048576 := ⟨by have := h.1; omega, fun r hr => by have := h.2 r hr; omega⟩
def l7M.T : Bool × List (List Nat × List Nat) := (true, [([], []), ([0], [0]), ([], []), ([2], [2]), ([3], [3]), ([4], [4]), ([], []), ([], []), ([6, 7], [6, 7]), ([8], [8]), ([5, 9, 8], [5, 9]), ([1, 0, 1, 2, 3, 4, 5, 6, 7, 8, 9, 10], [1]), ([11, 10, 10, 0, 1, 2, 3, 4, 5, 6, 7, 8, 9, 10], [10, 11])])
def l7M.B : List Nat := [0, 1, 0, 4, 12, 28, 0, 0, 192, 448, 1020, 2047, 4095]
theorem l7M.tab : rtab .any (opsOf Tryz.f51 20) = l7M.T := by kernel_rfl
theorem l7M.bits : waitsOk l7M.T.2 l7M.B = true := by kernel_rfl
theorem spec_l7Morphism.any (w0 w : World) (g : Nat) (hC : Cur w0 g w) (hle : w0.heap.size ≤ w.heap.size) :
  Calls Tryz.prog 51 #[.pointer (some ⟨g, 0, none⟩)] w fun e w' => (∃ v : Value, e = .returned v ∧ MorRet w' w.heap.size v) ∧ Cur w0 g w' ∧ KeepBut w w' g none := by
 have HC := G.a hC
 have HLE := G.a hle
 clear hC hle
 have huMo := Tryz.underlying72
 go_enter Tryz.func51, Tryz.ntmps51
 go_upto_region 1 with (fail)
 have hb0 : Below w.heap.size w (w.alloc (.cells #[.slice none 0 0] 72)) := below_alloc (Below.refl _ _) _
 have B2 := G.a (show (w.alloc (.cells #[.slice none 0 0] 72)).heap[w.heap.size]? = _ from hlook)
 have HC1 := G.a (HC.out.below hb0)
 have HK := G.a (KeepBut.of_below hb0 g none)
 clear hb0
 go_upto_region 2 with (go_at_call 47; (with_reducible refine (spec_l1Below.any w0 _ g 5 HC1.out (by decide)).mono ?_); rintro e w2 ⟨⟨z, rfl, hz⟩, hc, hk⟩; have n1_ := G.a hc; have n2_ := G.a (KeepBut.trans HK.out hk (.inl rfl)); have n3_ := G.a (KeepBut.blk hk B2.out (by have := HC.out.lt; omega) (by simp)); have HZ := G.a hz; clear HC1 HK B2 hc hk hz; have HC1 := n1_; have HK := n2_; have B2 := n3_; clear n1_ n2_ n3_)
 have zc0 : w2.cell? ⟨w.heap.size, 0, none⟩ = some (.slice none 0 0 : Value) := (blk_cell B2.out 0).trans rfl
 have zf0 := blk_frozen B2.out 0
 have zz : ∀ o1 o2 o3, (((w2.alloc o1).alloc o2).alloc o3).cell? ⟨w.heap.size, 0, none⟩ = some (.slice none 0 0 : Value) := fun o1 o2 o3 => (blk_cell (blk_alloc (blk_alloc (blk_alloc B2.out _) _) _) 0).trans rfl
 have zf : ∀ o1 o2 o3, (((w2.alloc o1).alloc o2).alloc o3).frozen? ⟨w.heap.size, 0, none⟩ = false := fun o1 o2 o3 => blk_frozen (blk_alloc (blk_alloc (blk_alloc B2.out _) _) _) 0
 have zz4 : ∀ o1 o2 o3 o4, ((((w2.alloc o1).alloc o2).alloc o3).alloc o4).cell? ⟨w.heap.size, 0, none⟩ = some (.slice none 0 0 : Value) := fun o1 o2 o3 o4 => (blk_cell (blk_alloc (blk_alloc (blk_alloc (blk_alloc B2.out _) _) _) _) 0).trans rfl
 have zf4 : ∀ o1 o2 o3 o4, ((((w2.alloc o1).alloc o2).alloc o3).alloc o4).frozen? ⟨w.heap.size, 0, none⟩ = false := fun o1 o2 o3 o4 => blk_frozen (blk_alloc (blk_alloc (blk_alloc (blk_alloc B2.out _) _) _) _) 0
 have FIN := G.a (show ∀ (W : World) (x : Value), Below w2.heap.size w2 W → W.heap[w.heap.size]? = some (.cells #[.slice none 0 0] 72 (0, 0)) → MorRet W w2.heap.size (.agg #[x]) → _ from fun W x hb b2 hv => finM (HC1.out.below hb) (KeepBut.trans HK.out (KeepBut.of_below hb g none) (.inl rfl)) (Nat.le_refl w.heap.size) HLE.out (by have := HC.out.lt; omega) b2 hv (blk_lt B2.out) HK.out.1)
 by_cases c0 : z = 0
 ·have d0 : (z == 0) = true := by rw [c0]; rfl
  clear c0
  go_wp2
  have hf := FIN.out (((w2.alloc (.cells #[.int .i64 0, .int .i64 1] 3)).alloc (.cells #[.int .i64 1, .int .i64 0] 3)).alloc (.cells #[.slice (some ⟨w2.heap.size, 0, none⟩) 2 2, .slice (some ⟨w2.heap.size + 1, 0, none⟩) 2 2] 24)) (.slice (some ⟨w2.heap.size + 1 + 1, 0, none⟩) 2 2) (below_alloc (below_alloc (below_alloc (Below.refl _ w2) _) _) _) (blk_alloc (blk_alloc (blk_alloc (B2.out) _) _) _) (lit_M (rows := [[0, 1], [1, 0]]) (vs := [.slice (some ⟨w2.heap.size, 0, none⟩) 2 2, .slice (some ⟨w2.heap.size + 1, 0, none⟩) 2 2]) rfl (by omega) hlook (by decide) ⟨⟨_, rfl, by omega, by decide, hlook⟩, ⟨_, rfl, by omega, by decide, hlook⟩, trivial⟩)
  exact bodyPost_ret (results_cell_row rfl _ _ w.heap.size 72 _ (0, 0) _ rfl hf.2 Tryz.underlying72 rfl (by kernel_rfl)) rfl ⟨⟨_, rfl, hf.1.1⟩, hf.1.2⟩
 have d0 : (z == 0) = false := beq_eq_false_iff_ne.mpr c0
 by_cases c1 : z = 1
 ·have d1 : (z == 1) = true := by rw [c1]; rfl
  clear c0 c1
  go_wp2
  have hf := FIN.out (((w2.alloc (.cells #[.int .i64 0, .int .i64 1] 3)).alloc (.cells #[.int .i64 0] 3)).alloc (.cells #[.slice (some ⟨w2.heap.size, 0, none⟩) 2 2, .slice (some ⟨w2.heap.size + 1, 0, none⟩) 1 1] 24)) (.slice (some ⟨w2.heap.size + 1 + 1, 0, none⟩) 2 2) (below_alloc (below_alloc (below_alloc (Below.refl _ w2) _) _) _) (blk_alloc (blk_alloc (blk_alloc (B2.out) _) _) _) (lit_M (rows := [[0, 1], [0]]) (vs := [.slice (some ⟨w2.heap.size, 0, none⟩) 2 2, .slice (some ⟨w2.heap.size + 1, 0, none⟩) 1 1]) rfl (by omega) hlook (by decide) ⟨⟨_, rfl, by omega, by decide, hlook⟩, ⟨_, rfl, by omega, by decide, hlook⟩, trivial⟩)
  exact bodyPost_ret (results_cell_row rfl _ _ w.heap.size 72 _ (0, 0) _ rfl hf.2 Tryz.underlying72 rfl (by kernel_rfl)) rfl ⟨⟨_, rfl, hf.1.1⟩, hf.1.2⟩
 have d1 : (z == 1) = false := beq_eq_false_iff_ne.mpr c1
 by_cases c2 : z = 2
 ·have d2 : (z == 2) = true := by rw [c2]; rfl
  clear c0 c1 c2
  go_wp2
  have hf := FIN.out ((((w2.alloc (.cells #[.int .i64 0, .int .i64 1, .int .i64 2] 3)).alloc (.cells #[.int .i64 0, .int .i64 2] 3)).alloc (.cells #[.int .i64 1] 3)).alloc (.cells #[.slice (some ⟨w2.heap.size, 0, none⟩) 3 3, .slice (some ⟨w2.heap.size + 1, 0, none⟩) 2 2, .slice (some ⟨w2.heap.size + 1 + 1, 0, none⟩) 1 1] 24)) (.slice (some ⟨w2.heap.size + 1 + 1 + 1, 0, none⟩) 3 3) (below_alloc (below_alloc (below_alloc (below_alloc (Below.refl _ w2) _) _) _) _) (blk_alloc (blk_alloc (blk_alloc (blk_alloc (B2.out) _) _) _) _) (lit_M (rows := [[0, 1, 2], [0, 2], [1]]) (vs := [.slice (some ⟨w2.heap.size, 0, none⟩) 3 3, .slice (some ⟨w2.heap.size + 1, 0, none⟩) 2 2, .slice (some ⟨w2.heap.size + 1 + 1, 0, none⟩) 1 1]) rfl (by omega) hlook (by decide) ⟨⟨_, rfl, by omega, by decide, hlook⟩, ⟨_, rfl, by omega, by decide, hlook⟩, ⟨_, rfl, by omega, by decide, hlook⟩, trivial⟩)
  exact bodyPost_ret (results_cell_row rfl _ _ w.heap.size 72 _ (0, 0) _ rfl hf.2 Tryz.underlying72 rfl (by kernel_rfl)) rfl ⟨⟨_, rfl, hf.1.1⟩, hf.1.2⟩
 have d2 : (z == 2) = false := beq_eq_false_iff_ne.mpr c2
 clear zz zf zz4 zf4 zc0 zf0 FIN c0 c1 c2
 go_wp2_with (go_at_call 47; (with_reducible refine (spec_l1Below.any w0 _ g 3 HC1.out (by decide)).mono ?_); rintro e w3 ⟨⟨n, rfl, hz⟩, hc, hk⟩; have n1_ := G.a hc; have n2_ := G.a (KeepBut.trans HK.out hk (.inl rfl)); have n3_ := G.a (KeepBut.blk hk B2.out (by have := HC.out.lt; omega) (by simp)); have HN := G.a hz; clear HC1 HK B2 HZ hc hk hz; have HC1 := n1_; have HK := n2_; have B2 := n3_; clear n1_ n2_ n3_)
 have hst : wrap64 (1 + n) = n + 1 := by have := HN.out; unfold wrap64; omega
 have HS := G.a (show 1 ≤ wrap64 (1 + n) ∧ wrap64 (1 + n) ≤ 3 from by have := HN.out; omega)
 generalize wrap64 (1 + n) = st at HS ⊢
 clear hst HN
 have HL := G.a (show LM (w3.alloc (.cells #[.slice none 0 0] 72)) w.heap.size (fun k => k ≠ g) w.heap.size w3.heap.size (.slice none 0 0) [] from ⟨Kd.S_nil _ _ _ _ _, blk_alloc B2.out _, heap_hit rfl, by have := HC.out.lt; omega, by have := HC1.out.lt; omega, by have := blk_lt B2.out; omega⟩)
 have HG4 := G.a (show w.heap.size ≤ w3.heap.size from HK.out.1)
 have n1_ := G.a (HC1.out.below (below_alloc (Below.refl _ w3) (.cells #[.slice none 0 0] 72)))
 have n2_ := G.a (KeepBut.trans HK.out (KeepBut.of_below (below_alloc (Below.refl _ w3) (.cells #[.slice none 0 0] 72)) g none) (.inl rfl))
 clear HC1 HK B2
 have HC1 := n1_
 have HK := n2_
 clear n1_ n2_
 generalize w3.heap.size = g4 at HL HG4 ⊢
 go_loopg [5] st.toNat (fun kq v5 w' => ∃ (x : Int) (vM : Value) (rows : List (List Int)), v5 = .int .i64 x ∧ Aside0 (x = (rows.length : Int) ∧ x ≤ st ∧ st ≤ x + kq) ∧ Aside0 (∀ r ∈ rows, r.length ≤ 3) ∧ Aside0 (LM w' w.heap.size (fun k => k ≠ g) w.heap.size g4 vM rows) ∧ Aside0 (Cur w0 g w') ∧ Aside0 (KeepBut w w' g none))
 case atStart => exact ⟨0, _, [], rfl, ⟨by have := HS.out; simp; omega⟩, ⟨fun r hr => by cases hr⟩, HL, HC1, HK⟩
 case round =>
  clear HL HC1 HK
  obtain ⟨x, vM, rows, rfl, HX, HR, HL, HC1, HK⟩ := hrel
  by_cases c : x < st
  ·have cb : decide (x < st) = true := decide_eq_true c
   have HX2 := G.a c
   clear c
   obtain ⟨k1, rfl⟩ : ∃ k1, gk = k1 + 1 := ⟨gk - 1, by have := HX.out; have := HX2.out; omega⟩
   go_wp2_with (first | ((with_reducible refine gate_dst (N := 38) rfl ?_); refine Kd.R_lit (Kd.int .i64) _ 3 ?hg (N := 38) ?hd (xs := ([] : List Int)) (inner := []) (ok := fun _ => True) (okp := fun _ => True) ?hr ?hp (fun _ hk => hk) trivial (Below.refl _ _) (Nat.le_refl _) (by simp) ?_; (case hd => rfl); (case hg => rfl); (case hr => first | (go_simp; done) | (go_simp; rfl)); (case hp => exact (Reps.none _ _)); intro v1 w1 ho hb hg_ hnew_; clear hg_ hnew_; have n1_ := G.a (HL.out.elder (Kd.R_base ho) hb); have n2_ := G.a (HC1.out.below hb); have n3_ := G.a (KeepBut.trans HK.out (KeepBut.of_below hb g none) (.inl rfl)); have n4_ := G.a (Kd.R_lower (Kd.R_mono (ok' := fun k => k ≠ g) (Kd.R_bound ho) (fun k hk => by have := HC1.out.lt; have := hk.2.1; omega)) HK.out.1); clear HL HC1 HK ho hb; have HL := n1_; have HC1 := n2_; have HK := n3_; have HW := n4_; clear n1_ n2_ n3_ n4_) | (go_at_call 47; refine (spec_l1Below.any w0 _ g 4 HC1.out (by decide)).mono ?_; rintro e w2 ⟨⟨kk, rfl, hz⟩, hc, hk⟩; have n1_ := G.a hc; have n2_ := G.a (KeepBut.trans HK.out hk (.inl rfl)); have n3_ := G.a (HL.out.step (fun k hk2 hlt => hk.2 k hlt hk2.1 (by simp))); have n4_ := G.a (Kd.R_keep HW.out hk (fun _ h => h)); have HZ2 := G.a hz; clear HC1 HK HL HW hc hk hz; have HC1 := n1_; have HK := n2_; have HL := n3_; have HW := n4_; clear n1_ n2_ n3_ n4_))
   clear cb
   go_loopg [6, 7] kk.toNat (fun kq v6 v7 w' => ∃ (y : Int) (row : List Int), v7 = .int .i64 y ∧ Aside0 (0 ≤ y ∧ (row.length : Int) + y ≤ 3 ∧ y ≤ kq) ∧ Aside0 (LM w' w.heap.size (fun k => k ≠ g ∧ some k ≠ (v6 : Value).ownBlock) w.heap.size g4 vM rows) ∧ Aside0 (Kd.R (Kd.int .i64) 3 w' w.heap.size (fun k => k ≠ g) v6 row) ∧ Aside0 (Cur w0 g w') ∧ Aside0 (KeepBut w w' g none))
   case atStart => exact ⟨kk, [], rfl, ⟨by have := HZ2.out; simp; omega⟩, HL, HW, HC1, HK⟩
   case round =>
    clear HL HW HC1 HK
    obtain ⟨y, row, rfl, HY, HL, HW, HC1, HK⟩ := hrel
    by_cases c : 0 < y
    ·have cb : decide (0 < y) = true := decide_eq_true c
     have HY2 := G.a c
     clear c
     go_wp2_with (first | (go_at_call 47; refine (spec_l1Below.any w0 _ g st HC1.out (by have := HS.out; omega)).mono ?_; rintro e w2 ⟨⟨z, rfl, hz⟩, hc, hk⟩; have n1_ := G.a hc; have n2_ := G.a (KeepBut.trans HK.out hk (.inl rfl)); have n3_ := G.a (HL.out.step (fun k hk2 hlt => hk.2 k hlt hk2.1 (by simp))); have n4_ := G.a (Kd.R_keep HW.out hk (fun _ h => h)); clear HC1 HK HL HW hc hk hz; have HC1 := n1_; have HK := n2_; have HL := n3_; have HW := n4_; clear n1_ n2_ n3_ n4_) | ((with_reducible refine gate_builtin (b := .append) (xs := #[.tmp 45, .tmp 49]) rfl ?_); at_builtin; refine Kd.R_append (Kd.int .i64) w.heap.size rfl (.tmp 45) (.tmp 49) 24 3 (.int .i64 0) 8 rfl Tryz.underlying24 info3 rfl (by decide) (by omega) u6 row z [.int .i64 z] (fun k => k ≠ g) (fun _ => False) rfl rfl ?aP (fun _ hk => hk.elim) ?aF ?aO (Below.refl _ _) ?aS ?aL ?_; (case aP => exact rfl); (case aF => exact (fun k hk => by have := HC1.out.lt; omega)); (case aO => exact HW.out); (case aS => exact HK.out.1); (case aL => have := HY.out; omega); intro v3 w3 ho hb hg hat; have n1_ := G.a (cur_app HC1.out HK.out hg (fun e => HW.out.1 g e.symm rfl) hb HLE.out (Kd.R_base2 HW.out)); have n3_ := G.a (HL.out.after hg hat); have n4_ := G.a ho; clear HC1 HK HL HW ho hb hg hat; have HC1 := G.a n1_.out.1; have HK := G.a n1_.out.2; have HL := n3_; have HW := n4_; clear n1_ n3_ n4_))
     go_roundg (gk - 1)
     case measure => have := HY.out; have := HY2.out; omega
     case rel =>
      refine ⟨wrap64 (y - 1), row ++ [z], rfl, ⟨?_⟩, HL, HW, HC1, HK⟩
      have := HY.out; have := HY2.out
      rw [show wrap64 (y - 1) = y - 1 by unfold wrap64; omega, List.length_append, List.length_singleton]; omega
    ·have cb : decide (0 < y) = false := decide_eq_false c
     have HRL := G.a (show row.length ≤ 3 by have := HY.out; omega)
     clear c
     obtain ⟨Ar, cr, er⟩ := Kd.R_slice HW.out
     subst er
     have z1 : _ = some (vM : Value) := (blk_cell HL.out.b4 0).trans rfl
     have y1 := blk_frozen HL.out.b4 0
     go_wp2_with (first | ((with_reducible refine gate_builtin (b := .append) (xs := #[.tmp 52, .tmp 54]) rfl ?_); at_builtin; refine Kd.S_append (Kd.slice 3 (Kd.int .i64)) w.heap.size rfl (.tmp 52) (.tmp 54) 63 24 (.slice none 0 0) 24 rfl Tryz.underlying63 info24 rfl (by decide) (by omega) vM rows row [.slice Ar row.length cr] (fun k => k ≠ g) (fun k => some k = (.slice Ar row.length cr : Value).ownBlock) rfl rfl ?aP ?aK ?aF ?aO (Below.refl _ _) ?aS ?aL ?_; (case aP => exact Kd.M_row (Kd.R_mono (Kd.R_tight rfl HW.out) (fun _ h_ => h_))); (case aK => exact (fun k hk => ⟨HW.out.1 k hk.symm, fun e => ((Kd.S_R HL.out.sm).1 k e.symm).2 hk⟩)); (case aF => exact (fun k hk => by have := HC1.out.lt; omega)); (case aO => exact Kd.S_mono HL.out.sm (fun k hk => ⟨hk.1, fun e => hk.2 e⟩)); (case aS => exact HK.out.1); (case aL => have := HX.out; have := HS.out; omega); intro v1 w1 hs hb hg hat; generalize hr2 : rows ++ [row] = rows2 at hs; have HR2 := G.a hr2; clear hr2; obtain ⟨An, cn, en⟩ := Kd.S_slice hs; subst en; have n1_ := G.a (cur_app HC1.out HK.out hg (fun e => ((Kd.S_R HL.out.sm).1 g e.symm).1 rfl) hb HLE.out (Kd.S_base2 HL.out.sm)); have n3_ := G.a (blk_grown HL.out.b2 hg (Kd.S_ne HL.out.sm HL.out.b2 (by decide))); have n4_ := G.a (blk_grown HL.out.b4 hg (Kd.S_ne HL.out.sm HL.out.b4 (by decide))); have HSS := G.a hs; have n5_ := G.a (show w.heap.size ≠ g4 ∧ w.heap.size ≠ g ∧ g4 ≠ g from ⟨HL.out.ne, HL.out.o2.1, HL.out.o4.1⟩); clear HC1 HK HL HW hs hb hg hat z1 y1; have HC1 := G.a n1_.out.1; have HK := G.a n1_.out.2; clear n1_; have z1 : _ = some (vM : Value) := (blk_cell n4_.out 0).trans rfl; have y1 := blk_frozen n4_.out 0))
     clear z1 y1
     have HL := G.a (LM.put HSS.out n3_.out n4_.out n5_.out.2.1 n5_.out.2.2 n5_.out.1)
     have HC2 := G.a (HC1.out.far (p := ⟨g4, 0, none⟩) n5_.out.2.2.symm (Nat.le_trans HLE.out HG4.out) (.slice An rows2.length cn))
     have HK2 := G.a (keep_far HK.out (p := ⟨g4, 0, none⟩) HG4.out (.slice An rows2.length cn))
     go_roundg k1
     case measure => omega
     case rel =>
      refine ⟨wrap64 (x + 1), _, rows2, rfl, ⟨?_⟩, ⟨?_⟩, HL, HC2, HK2⟩
      ·have := HX.out; have := HX2.out; have := HS.out
       rw [wsx (n := 1099511627776) (by omega) (by omega) (by omega), ← HR2.out, List.length_append, List.length_singleton]; omega
      ·rw [← HR2.out]
       intro r hr
       rcases List.mem_append.1 hr with hr | hr
       ·exact HR.out r hr
       ·rw [List.mem_singleton] at hr
        subst hr
        exact HRL.out
  ·have cb : decide (x < st) = false := decide_eq_false c
   have HR1 := G.a (show 1 ≤ rows.length ∧ RowsLe rows from by
    have := HX.out; have := HS.out
    exact ⟨by omega, by omega, fun r hr => by have := HR.out r hr; omega⟩)
   clear c
   obtain ⟨AM, cM, eM⟩ := Kd.S_slice HL.out.sm
   subst eM
   go_wp2_with (go_at_call 38; (with_reducible refine (spec_l1Once.any w0 _ g 12 HC1.out (by decide)).mono ?_); rintro e w2 ⟨⟨z, rfl⟩, hc, hk⟩; have n1_ := G.a hc; have n2_ := G.a (KeepBut.trans HK.out hk (.inl rfl)); have n3_ := G.a (HL.out.step (fun k hk2 hlt => hk.2 k hlt hk2 (by simp))); clear HC1 HK HL hc hk; have HC1 := n1_; have HK := n2_; have HL := n3_; clear n1_ n2_ n3_; have z4 : w2.cell? ⟨g4, 0, none⟩ = some (.slice AM rows.length cM : Value) := (blk_cell HL.out.b4 0).trans rfl; have z2 : w2.cell? ⟨w.heap.size, 0, none⟩ = some (.slice none 0 0 : Value) := (blk_cell HL.out.b2 0).trans rfl; have zf2 := blk_frozen HL.out.b2 0)
   ·obtain ⟨gN, cN', oki, v0, row0, eN, e0, hh⟩ := HL.out.lend (by have := HR1.out.1; omega)
    cases eN
    have hdr : Below w2.heap.size w2 w2.drew := below_drew (Below.refl _ _)
    have HHd := G.a (hh.below hdr)
    have HC1d := G.a (HC1.out.below hdr)
    have HKd := G.a (KeepBut.trans HK.out (KeepBut.of_below hdr g none) (.inl rfl))
    have HE0 := G.a e0
    have hp0 := eq_true (show 0 < rows.length from by have := HR1.out.1; omega)
    have HLT3 := G.a (show g < w2.drew.heap.size from HC1d.out.lt)
    obtain ⟨A0, c0, ev⟩ := Kd.R_slice hh.hr
    subst ev
    have HRW := G.a (show row0.length ≤ 4 from by rw [e0]; exact HR1.out.2.2 _ (mem_getD (by have := HR1.out.1; omega)))
    clear HL HC1 HK hdr hh e0 z4 z2 zf2
    refine start_ (n := 13) (S := (fun w' => w'.cell? ⟨g4, 0, none⟩ = some (.slice (some ⟨gN, 0, none⟩) rows.length cM) ∧ w'.cell? ⟨gN, 0, none⟩ = some (.slice A0 row0.length c0))) (ds := [12]) #[false, false, false, false, false, false, false, false, false, false, false, false, false] (by kernel_rfl) rfl rfl ⟨(blk_cell HHd.out.b4 0).trans rfl, HHd.out.cell⟩ (fun hHeld => ?_); refine with_tabW l7M.tab l7M.bits (fun HT_ HW_ => ?_)
    generalize w2.drew = w3 at HHd HC1d HKd HLT3 hHeld ⊢
    have HH := HHd
    have HC1 := HC1d
    have HK := HKd
    clear HHd HC1d HKd
    refine pure_ (i := 0) (N := (some 59)) (v := ?_) (a' := ?_) #[true, false, false, false, false, false, false, false, false, false, false, false, false] rfl rfl (any_of HT_.out (by kernel_rfl)) (fun _ _ _ h => h) (Or.inl ⟨by rfl, ?_⟩) ?_ ?_
    rotate_left; (·intro w'; go_simp; with_reducible rfl); rotate_left; (·simp only [Act.put, List.setIfInBounds_toArray, List.set_cons_zero, List.set_cons_succ, i64_w, i32_w]; rfl)
    refine pure_ (i := 2) (N := (some 61)) (v := ?_) (a' := ?_) #[true, false, true, false, false, false, false, false, false, false, false, false, false] rfl rfl (any_of HT_.out (by kernel_rfl)) (fun _ _ _ h => h) (Or.inl ⟨by rfl, ?_⟩) ?_ ?_
    rotate_left; (·intro w'; go_simp; with_reducible rfl); rotate_left; (·simp only [Act.put, List.setIfInBounds_toArray, List.set_cons_zero, List.set_cons_succ, i64_w, i32_w]; rfl)
    refine take_ (i := 1) (N := (some 60)) (v := ?_) (a' := ?_) #[true, true, true, false, false, false, false, false, false, false, false, false, false] rfl rfl (take_ofW HT_.out HW_.out (by kernel_rfl)) (fun _ _ _ h => h) (Or.inl ⟨by rfl, ?_⟩) hHeld ?_ ?_
    rotate_left; (·rintro w' ⟨s0, s1⟩; go_simp; with_reducible rfl); rotate_left; (·simp only [Act.put, List.setIfInBounds_toArray, List.set_cons_zero, List.set_cons_succ, i64_w, i32_w]; rfl)
    refine take_ (i := 3) (N := (some 62)) (v := ?_) (a' := ?_) #[true, true, true, true, false, false, false, false, false, false, false, false, false] rfl rfl (take_ofW HT_.out HW_.out (by kernel_rfl)) (fun _ _ _ h => h) (Or.inl ⟨by rfl, ?_⟩) hHeld ?_ ?_
    rotate_left; (·rintro w' ⟨s0, s1⟩; go_simp; with_reducible rfl); rotate_left; (·simp only [Act.put, List.setIfInBounds_toArray, List.set_cons_zero, List.set_cons_succ, i64_w, i32_w]; rfl)
    refine pure_ (i := 4) (N := (some 63)) (v := ?_) (a' := ?_) #[true, true, true, true, true, false, false, false, false, false, false, false, false] rfl rfl (any_of HT_.out (by kernel_rfl)) (fun _ _ _ h => h) (Or.inl ⟨by rfl, ?_⟩) ?_ ?_
    rotate_left; (·intro w'; go_simp; with_reducible rfl); rotate_left; (·simp only [Act.put, List.setIfInBounds_toArray, List.set_cons_zero, List.set_cons_succ, i64_w, i32_w]; rfl)
    refine take_ (i := 5) (N := (some 64)) (v := ?_) (a' := ?_) #[true, true, true, true, true, true, false, false, false, false, false, false, false] rfl rfl (take_ofW HT_.out HW_.out (by kernel_rfl)) (fun _ _ _ h => h) (Or.inl ⟨by rfl, ?_⟩) hHeld ?_ ?_
    rotate_left; (·rintro w' ⟨s0, s1⟩; go_simp; with_reducible rfl); rotate_left; (·simp only [Act.put, List.setIfInBounds_toArray, List.set_cons_zero, List.set_cons_succ, i64_w, i32_w]; rfl)
    refine pure_ (i := 6) (N := (some 65)) (v := ?_) (a' := ?_) #[true, true, true, true, true, true, true, false, false, false, false, false, false] rfl rfl (any_of HT_.out (by kernel_rfl)) (fun _ _ _ h => h) (Or.inl ⟨by rfl, ?_⟩) ?_ ?_
    rotate_left; (·intro w'; go_simp; with_reducible rfl); rotate_left; (·simp only [Act.put, List.setIfInBounds_toArray, List.set_cons_zero, List.set_cons_succ, i64_w, i32_w]; rfl)
    refine one_ (i := 7) (N := (some 66)) (G.bs 13 255) rfl rfl (one_of HT_.out (by kernel_rfl)) (by decide) (fun K hK => ?_)
    go_simp
    have hb3 : w3.heap.size = w3.heap.size := rfl
    have n1_ := G.a (HC1.out.below (below_alloc (Below.refl _ w3) (.cells #[.int .i64 (-1), .int .i64 4, .int .i64 0] 3)))
    have n2_ := G.a (KeepBut.trans HK.out (KeepBut.of_below (below_alloc (Below.refl _ w3) (.cells #[.int .i64 (-1), .int .i64 4, .int .i64 0] 3)) g none) (.inl rfl))
    have n3_ := G.a (HH.out.below (below_alloc (Below.refl _ w3) (.cells #[.int .i64 (-1), .int .i64 4, .int .i64 0] 3)))
    clear HC1 HK HH
    have HC1 := n1_
    have HK := n2_
    have HH := n3_
    clear n1_ n2_ n3_
    refine hK.out _ _ ⟨(blk_cell HH.out.b4 0).trans rfl, HH.out.cell⟩ (fun hHeld => ?_)
    clear hK K
    refine one_ (i := 8) (N := (some 67)) (G.bs 13 511) rfl rfl (one_of HT_.out (by kernel_rfl)) (by decide) (fun K hK => ?_)
    go_simp
    go_at_call 39
    (with_reducible refine (spec_l1PickInt.lit w0 _ g w3.heap.size 3 3 [-1, 4, 0] HC1.out rfl (heap_hit rfl) (by decide) (by decide) ?hne).mono ?_)
    (case hne => have := HLT3.out; omega)
    rintro e w5 ⟨⟨q, rfl, hq⟩, hc, hk⟩
    have n1_ := G.a hc
    have n2_ := G.a (KeepBut.trans HK.out hk (.inl rfl))
    have n3_ := G.a (HH.out.step (fun k hk2 hlt => hk.2 k hlt hk2 (by simp)))
    clear HC1 HK HH hc hk hq
    have HC1 := n1_
    have HK := n2_
    have HH := n3_
    clear n1_ n2_ n3_
    refine hK.out _ _ ⟨(blk_cell HH.out.b4 0).trans rfl, HH.out.cell⟩ (fun hHeld => ?_)
    clear hK K
    refine one_ (i := 9) (N := (some 68)) (G.bs 13 1023) rfl rfl (one_of HT_.out (by kernel_rfl)) (by decide) (fun K hK => ?_)
    go_simp
    refine hK.out _ _ ⟨(blk_cell (blk_alloc HH.out.b4 _) 0).trans rfl, (HH.out.below (below_alloc (Below.refl _ w5) _)).cell⟩ (fun hHeld => ?_)
    clear hK K
    refine one_ (i := 10) (N := (some 69)) (G.bs 13 2047) rfl rfl (one_of HT_.out (by kernel_rfl)) (by decide) (fun K hK => ?_)
    refine Kd.R_append_step (Kd.int .i64) w.heap.size (by rfl) (.tmp 64) (.tmp 68) 24 3 (.int .i64 0) 8 rfl Tryz.underlying24 info3 rfl (by decide) (by omega) (.slice A0 row0.length c0) row0 q [.int .i64 q] (fun k => oki k ∨ k ≠ g ∧ w5.heap.size ≤ k) (fun _ => False) rfl rfl ?aP (fun _ hk => hk.elim) ?aF ?aO (Below.refl _ _) ?aS ?aL ?_
    (case aP => exact rfl)
    (case aF => exact (fun k hk => .inr ⟨by have := HC1.out.lt; omega, hk⟩))
    (case aO => exact Kd.R_mono HH.out.hr (fun k hk => .inl hk))
    (case aS => exact HK.out.1)
    (case aL => have := HRW.out; omega)
    intro v6 w6 ho hb hg hat
    generalize hl6 : row0 ++ [q] = row1 at ho
    obtain ⟨A6, c6, e6⟩ := Kd.R_slice ho
    subst e6
    have happ := HH.out.app (q := q) hg (by rw [hl6]; exact ho)
    have HL6 := G.a (show row1.length ≤ 5 by rw [← hl6, List.length_append, List.length_singleton]; have := HRW.out; omega)
    rw [hl6] at happ
    clear hl6
    have n1_ := G.a (cur_app HC1.out HK.out hg (fun e => HH.out.oi g (HH.out.hr.1 g e.symm) rfl) hb HLE.out (Kd.R_base2 HH.out.hr))
    have HAP := G.a happ
    have HON := G.a HH.out.oN
    clear HC1 HK HH ho hb hg hat happ
    refine hK.out _ _ ⟨HAP.out.2.1, HAP.out.1.1⟩ (fun hHeld => ?_)
    clear hK K
    refine norm_ (a' := ?_) ?_ ?_
    rotate_left
    ·show Act.put _ (some 69) _ = _
     simp only [Act.put, List.setIfInBounds_toArray, List.set_cons_zero, List.set_cons_succ, i64_w, i32_w]
     rfl
    refine pure_ (i := 11) (N := (some 70)) (v := ?_) (a' := ?_) #[true, true, true, true, true, true, true, true, true, true, true, true, false] rfl rfl (any_of HT_.out (by kernel_rfl)) (fun _ _ _ h => h) (Or.inl ⟨by rfl, ?_⟩) ?_ ?_
    rotate_left; (·intro w'; go_simp; with_reducible rfl); rotate_left; (·simp only [Act.put, List.setIfInBounds_toArray, List.set_cons_zero, List.set_cons_succ, i64_w, i32_w]; rfl)
    refine last_ (i := 12) (N := none) (G.bs 13 8191) rfl rfl (one_of HT_.out (by kernel_rfl)) (by decide) (fun K hK => ?_)
    have zN := HAP.out.1.1
    have zF := HAP.out.1.2
    go_simp
    refine hK.out _ _ ?_
    clear hK K zN zF hHeld
    refine done_ (done_of HT_.out (by kernel_rfl)) ?_
    have HL := G.a HAP.out.2.2
    have HC1 := G.a (n1_.out.1.far (p := ⟨gN, 0, none⟩) HON.out.1.symm (Nat.le_trans HLE.out HON.out.2) (.slice A6 row1.length c6))
    have HK := G.a (keep_far n1_.out.2 (p := ⟨gN, 0, none⟩) HON.out.2 (.slice A6 row1.length c6))
    clear HAP n1_
    generalize w6.setCell ⟨gN, 0, none⟩ (.slice A6 row1.length c6) = w7 at HL HC1 HK ⊢
    have z4 : w7.cell? ⟨g4, 0, none⟩ = some (.slice (some ⟨gN, 0, none⟩) rows.length cM : Value) := (blk_cell HL.out.b4 0).trans rfl
    have z2 : w7.cell? ⟨w.heap.size, 0, none⟩ = some (.slice none 0 0 : Value) := (blk_cell HL.out.b2 0).trans rfl
    have zf2 := blk_frozen HL.out.b2 0
    go_wp2
    have hlen : rows.length = (rows.set 0 row1).length := by rw [List.length_set]
    have hd := HL.out.done (by
     refine ⟨by rw [List.length_set]; have := HR1.out.2.1; omega, fun r hr => ?_⟩
     rcases List.mem_or_eq_of_mem_set hr with hr | rfl
     ·have := HR1.out.2.2 r hr; omega
     ·have := HL6.out; omega)
    exact bodyPost_ret (results_cell_row rfl _ _ w.heap.size 72 _ (0, 0) _ rfl hd.2 Tryz.underlying72 rfl (by kernel_rfl)) rfl ⟨⟨_, rfl, hd.1⟩, HC1.out.far (p := ⟨w.heap.size, 0, none⟩) HL.out.o2.symm HLE.out _, keep_far HK.out (p := ⟨w.heap.size, 0, none⟩) (Nat.le_refl _) _⟩
   ·have hd := HL.out.done HR1.out.2.big
    exact bodyPost_ret (results_cell_row rfl _ _ w.heap.size 72 _ (0, 0) _ rfl hd.2 Tryz.underlying72 rfl (by kernel_rfl)) rfl ⟨⟨_, rfl, hd.1⟩, HC1.out.far (p := ⟨w.heap.size, 0, none⟩) HL.out.o2.symm HLE.out _, keep_far HK.out (p := ⟨w.heap.size, 0, none⟩) (Nat.le_refl _) _⟩
theorem MorRet.keep {W W1 : World} {b g : Nat} {v : Value} (h : MorRet W b v) (hk : KeepBut W W1 g none) (hg : g < b) : MorRet W1 b v := by
 obtain ⟨A, c, rows, e, h1, h2⟩ := h
 exact ⟨A, c, rows, e, h1, Kd.F_step h2 (fun k hk2 hlt => hk.2 k hlt (by omega) (by simp))⟩
def WordRet (m : Nat) (w' : World) (b : Nat) (v : Value) : Prop := ∃ r : List Int, Kd.R (Kd.int .i64) 3 w' b (fun _ => True) v r ∧ r.length ≤ m
theorem WordRet.lower {m : Nat} {w' : World} {b b' : Nat} {v : Value} (h : WordRet m w' b v) (hb : b' ≤ b) : WordRet m w' b' v := by
 obtain ⟨r, h1, h2⟩ := h
 exact ⟨r, Kd.R_lower h1 hb, h2⟩
theorem spec_l8Long.any (w0 w : World) (g : Nat) (hC : Cur w0 g w) (hle : w0.heap.size ≤ w.heap.size) :
  Calls Tryz.prog 37 #[.pointer (some ⟨g, 0, none⟩)] w fun e w' => (∃ v : Value, e = .returned v ∧ WordRet 1000 w' w.heap.size v) ∧ Cur w0 g w' ∧ KeepBut w w' g none := by
 have HC := G.a hC
 have HLE := G.a hle
 clear hC hle
 have huMo := Tryz.underlying72
 have huSq := Tryz.underlying68
 go_enter Tryz.func37, Tryz.ntmps37
 go_upto_region 2 with (go_at_call 47; (with_reducible refine (spec_l1Below.any w0 _ g 4 HC.out (by decide)).mono ?_); rintro e w2 ⟨⟨z, rfl, hz⟩, hc, hk⟩; have HC1 := G.a hc; have HK := G.a hk; clear hc hk hz)
 have HLE2 := G.a (Nat.le_trans HLE.out HK.out.1)
 by_cases c0 : z = 0
 ·have d0 : (z == 0) = true := by rw [c0]; rfl
  clear c0
  go_upto_region 4 with (go_at_call 49; (with_reducible refine (spec_l3Draw.any w0 _ g HC1.out HLE2.out).mono ?_); rintro e w3 ⟨⟨v, rfl, hv⟩, hc, hk⟩; obtain ⟨ba, A1, c1, rows, A2, c2, out, rfl, hw_, hf1, hf2⟩ := hv; have HW := G.a hw_; have HF1 := G.a hf1; have HF2 := G.a hf2; clear hw_ hf1 hf2; have HG := G.a (show g < w2.heap.size from HC1.out.lt); have n1_ := G.a hc; have n2_ := G.a (KeepBut.trans HK.out hk (.inl rfl)); have HLE3 := G.a (show w2.heap.size ≤ w3.heap.size from hk.1); clear HC1 HK hc hk; have HC1 := n1_; have HK := n2_; clear n1_ n2_)
  have hb3 : Below w3.heap.size w3 (w3.alloc (.cells #[.int .i64 ba, .slice A1 rows.length c1, .slice A2 out.length c2] 68)).drew := below_drew (below_alloc (Below.refl _ _) _)
  have B3 := G.a (show (w3.alloc (.cells #[.int .i64 ba, .slice A1 rows.length c1, .slice A2 out.length c2] 68)).drew.heap[w3.heap.size]? = some (.cells #[.int .i64 ba, .slice A1 rows.length c1, .slice A2 out.length c2] 68 (0, 0)) from heap_hit rfl)
  have n1_ := G.a (HC1.out.below hb3)
  have n2_ := G.a (KeepBut.trans HK.out (KeepBut.of_below hb3 g none) (.inl rfl))
  have n3_ := G.a (Kd.F_below HF1.out hb3)
  have n4_ := G.a (Kd.F_below HF2.out hb3)
  have HNE := G.a (show w3.heap.size ≠ g from by have := HC1.out.lt; omega)
  have HGB := G.a (show ∀ k, w2.heap.size ≤ k → k ≠ g from fun k hk => by have := HG.out; omega)
  have HLE5 := G.a (show w.heap.size ≤ w3.heap.size from HK.out.1)
  clear HC1 HK HF1 HF2 hb3
  have HC1 := n1_
  have HK := n2_
  have HF1 := n3_
  have HF2 := n4_
  clear n1_ n2_ n3_ n4_
  go_region_held3 (fun W => W.cell? ⟨w3.heap.size, 0, none⟩ = some (.int .i64 ba) ∧ W.cell? ⟨w3.heap.size, 1, none⟩ = some (.slice A1 rows.length c1) ∧ W.cell? ⟨w3.heap.size, 2, none⟩ = some (.slice A2 out.length c2)) (first | exact ⟨(blk_cell B3.out 0).trans rfl, (blk_cell B3.out 1).trans rfl, (blk_cell B3.out 2).trans rfl⟩) (first | (go_at_call 47; (with_reducible refine (spec_l1Below.any w0 _ g 40 HC1.out (by decide)).mono ?_); rintro e w5 ⟨⟨z, rfl, hz⟩, hc, hk⟩; obtain ⟨zn, rfl⟩ := Int.eq_ofNat_of_zero_le hz.1; have HZ := G.a (show zn < 40 by omega); have hw : (10 + (zn : Int) + 9223372036854775808) % 18446744073709551616 - 9223372036854775808 = ((10 + zn : Nat) : Int) := (by omega); have n1_ := G.a hc; have n2_ := G.a (KeepBut.trans HK.out hk (.inl rfl)); have n3_ := G.a (KeepBut.blk hk B3.out HNE.out (by simp)); have n4_ := G.a (Kd.F_keep HF1.out hk HGB.out); have n5_ := G.a (Kd.F_keep HF2.out hk HGB.out); clear HC1 HK B3 HF1 HF2 hc hk hz; have HC1 := n1_; have HK := n2_; have B3 := n3_; have HF1 := n4_; have HF2 := n5_; clear n1_ n2_ n3_ n4_ n5_) | (go_at_call 50; rw [IntKind.wrap_i64, hw]; (with_reducible refine (spec_PrefixOf.any _ _ _ _ _ _ _ _ _ (Kd.F_now HF1.out) (Kd.F_now HF2.out) HW.out ?hn).mono ?_); (case hn => have := HZ.out; omega); rintro e w6 ⟨⟨v, l, rfl, hl, ho⟩, hb⟩; have HO := G.a (Kd.R_lower ho (show w.heap.size ≤ _ from HK.out.1)); have HL := G.a hl; have n1_ := G.a (HC1.out.below hb); have n2_ := G.a (KeepBut.trans HK.out (KeepBut.of_below hb g none) (.inl rfl)); have n3_ := G.a (blk_below B3.out hb); clear HC1 HK B3 HF1 HF2 hb ho hl hw; have HC1 := n1_; have HK := n2_; have B3 := n3_; clear n1_ n2_ n3_))
  go_wp2
  go_ret
  exact ⟨⟨_, rfl, l, HO.out, by have := HL.out; omega⟩, HC1.out, HK.out⟩
 have d0 : (z == 0) = false := beq_eq_false_iff_ne.mpr c0
 by_cases c1 : z = 1
 ·have d1 : (z == 1) = true := by rw [c1]; rfl
  clear c0 c1
  go_upto_region 7 with (go_at_call 51; (with_reducible refine (spec_l7Morphism.any w0 _ g HC1.out HLE2.out).mono ?_); rintro e w3 ⟨⟨v, rfl, hv⟩, hc, hk⟩; obtain ⟨A1, c1, rows, rfl, hw_, hf1⟩ := hv; have HW := G.a hw_; have HF1 := G.a hf1; clear hw_ hf1; have HG := G.a (show g < w2.heap.size from HC1.out.lt); have n1_ := G.a hc; have n2_ := G.a (KeepBut.trans HK.out hk (.inl rfl)); have HLE3 := G.a (show w2.heap.size ≤ w3.heap.size from hk.1); clear HC1 HK hc hk; have HC1 := n1_; have HK := n2_; clear n1_ n2_)
  have hb3 : Below w3.heap.size w3 (w3.alloc (.cells #[.slice A1 rows.length c1] 72)).drew := below_drew (below_alloc (Below.refl _ _) _)
  have B3 := G.a (show (w3.alloc (.cells #[.slice A1 rows.length c1] 72)).drew.heap[w3.heap.size]? = some (.cells #[.slice A1 rows.length c1] 72 (0, 0)) from heap_hit rfl)
  have n1_ := G.a (HC1.out.below hb3)
  have n2_ := G.a (KeepBut.trans HK.out (KeepBut.of_below hb3 g none) (.inl rfl))
  have n3_ := G.a (Kd.F_below HF1.out hb3)
  have HNE := G.a (show w3.heap.size ≠ g from by have := HC1.out.lt; omega)
  have HGB := G.a (show ∀ k, w2.heap.size ≤ k → k ≠ g from fun k hk => by have := HG.out; omega)
  clear HC1 HK HF1 hb3
  have HC1 := n1_
  have HK := n2_
  have HF1 := n3_
  clear n1_ n2_ n3_
  go_region_held3 (fun W => W.cell? ⟨w3.heap.size, 0, none⟩ = some (.slice A1 rows.length c1)) (first | exact (blk_cell B3.out 0).trans rfl) (first | (go_at_call 47; (with_reducible refine (spec_l1Below.any w0 _ g 40 HC1.out (by decide)).mono ?_); rintro e w5 ⟨⟨z, rfl, hz⟩, hc, hk⟩; obtain ⟨zn, rfl⟩ := Int.eq_ofNat_of_zero_le hz.1; have HZ := G.a (show zn < 40 by omega); have hw : (10 + (zn : Int) + 9223372036854775808) % 18446744073709551616 - 9223372036854775808 = ((10 + zn : Nat) : Int) := (by omega); have n1_ := G.a hc; have n2_ := G.a (KeepBut.trans HK.out hk (.inl rfl)); have n3_ := G.a (KeepBut.blk hk B3.out HNE.out (by simp)); have n4_ := G.a (Kd.F_keep HF1.out hk HGB.out); clear HC1 HK B3 HF1 hc hk hz; have HC1 := n1_; have HK := n2_; have B3 := n3_; have HF1 := n4_; clear n1_ n2_ n3_ n4_) | (go_at_call 52; rw [IntKind.wrap_i64, hw]; (with_reducible refine (spec_FixedPrefix.any _ _ _ _ _ (Kd.F_now HF1.out) HW.out.1 HW.out.2 ?hn).mono ?_); (case hn => have := HZ.out; omega); rintro e w6 ⟨⟨v, l, bb, rfl, hl, ho⟩, hb⟩; have HO := G.a (Kd.R_lower ho (show w.heap.size ≤ _ from HK.out.1)); have HL := G.a hl; have n1_ := G.a (HC1.out.below hb); have n2_ := G.a (KeepBut.trans HK.out (KeepBut.of_below hb g none) (.inl rfl)); have n3_ := G.a (blk_below B3.out hb); clear HC1 HK B3 HF1 hb ho hl hw; have HC1 := n1_; have HK := n2_; have B3 := n3_; clear n1_ n2_ n3_))
  go_wp2
  go_ret
  exact ⟨⟨_, rfl, l, HO.out, by have := HL.out; omega⟩, HC1.out, HK.out⟩
 have d1 : (z == 1) = false := beq_eq_false_iff_ne.mpr c1
 by_cases c2 : z = 2
 ·have d2 : (z == 2) = true := by rw [c2]; rfl
  clear c0 c1 c2
  go_upto_region 11 with (go_at_call 53; (with_reducible refine (spec_l7Word.any w0 _ g 2 HC1.out (by decide)).mono ?_); rintro e w3 ⟨⟨v, r, rfl, hr, hl, _⟩, hc, hk⟩; have HV := G.a hr; have HL := G.a hl; have n1_ := G.a hc; have n2_ := G.a (KeepBut.trans HK.out hk (.inl rfl)); have HLE3 := G.a (show w2.heap.size ≤ w3.heap.size from hk.1); clear HC1 HK hc hk hr hl; have HC1 := n1_; have HK := n2_; clear n1_ n2_)
  obtain ⟨AV, cv, eV⟩ := Kd.R_slice HV.out
  subst eV
  have HVC := G.a (Kd.R_reads' HV.out).2.2
  have HLE5 := G.a (show w.heap.size ≤ w3.heap.size from HK.out.1)
  go_wp2_with (first | ((with_reducible refine gate_dst (N := 36) rfl ?_); refine Kd.R_lit (Kd.int .i64) _ 3 ?hg (N := 36) ?hd (xs := ([] : List Int)) (inner := []) (ok := fun _ => True) (okp := fun _ => True) ?hr ?hp (fun _ hk => hk) trivial (Below.refl _ _) (Nat.le_refl _) (by simp) ?_; (case hd => rfl); (case hg => rfl); (case hr => first | (go_simp; done) | (go_simp; rfl)); (case hp => exact (Reps.none _ _)); intro v4 w4 ho hb hg_ hnew_; clear hg_ hnew_; have HO := G.a ho; have HB := G.a hb; clear ho hb) | ((with_reducible refine gate_builtin (b := .append) (xs := #[.tmp 36, .tmp 37]) rfl ?_); at_builtin; refine Kd.R_append_rows (Kd.int .i64) (w0 := w3) w3.heap.size rfl (.tmp 36) (.tmp 37) 24 3 (.int .i64 0) 8 rfl Tryz.underlying24 info3 rfl (by decide) (by omega) v4 ([]) r _ _ _ (fun _ => True) (fun _ => False) rfl rfl ?aO ?aR (fun _ _ h => h) (fun _ h => h.elim) ?aF ?aB ?aS ?aL ?_; (case aR => exact Kd.C_below HVC.out HB.out); (case aB => exact HB.out); (case aF => exact (fun _ _ => trivial)); (case aO => exact HO.out); (case aS => exact below_size HB.out); (case aL => have := HL.out; simp only [List.length_append, List.length_nil]; omega); intro v5 w5 ho hb hg hat; clear hg hat HO HB; have HO := G.a ho; have HB := G.a hb; clear ho hb) | ((with_reducible refine gate_builtin (b := .append) (xs := #[.tmp 38, .tmp 39]) rfl ?_); at_builtin; refine Kd.R_append_rows (Kd.int .i64) (w0 := w3) w3.heap.size rfl (.tmp 38) (.tmp 39) 24 3 (.int .i64 0) 8 rfl Tryz.underlying24 info3 rfl (by decide) (by omega) v5 ([] ++ r) r _ _ _ (fun _ => True) (fun _ => False) rfl rfl ?aO ?aR (fun _ _ h => h) (fun _ h => h.elim) ?aF ?aB ?aS ?aL ?_; (case aR => exact Kd.C_below HVC.out HB.out); (case aB => exact HB.out); (case aF => exact (fun _ _ => trivial)); (case aO => exact HO.out); (case aS => exact below_size HB.out); (case aL => have := HL.out; simp only [List.length_append, List.length_nil]; omega); intro v6 w6 ho hb hg hat; clear hg hat HO HB; have HO := G.a ho; have HB := G.a hb; clear ho hb) | ((with_reducible refine gate_builtin (b := .append) (xs := #[.tmp 40, .tmp 41]) rfl ?_); at_builtin; refine Kd.R_append_rows (Kd.int .i64) (w0 := w3) w3.heap.size rfl (.tmp 40) (.tmp 41) 24 3 (.int .i64 0) 8 rfl Tryz.underlying24 info3 rfl (by decide) (by omega) v6 (([] ++ r) ++ r) r _ _ _ (fun _ => True) (fun _ => False) rfl rfl ?aO ?aR (fun _ _ h => h) (fun _ h => h.elim) ?aF ?aB ?aS ?aL ?_; (case aR => exact Kd.C_below HVC.out HB.out); (case aB => exact HB.out); (case aF => exact (fun _ _ => trivial)); (case aO => exact HO.out); (case aS => exact below_size HB.out); (case aL => have := HL.out; simp only [List.length_append, List.length_nil]; omega); intro v7 w7 ho hb hg hat; clear hg hat HO HB; have HO := G.a ho; have HB := G.a hb; clear ho hb))
  go_ret
  exact ⟨⟨_, rfl, _, Kd.R_lower HO.out HLE5.out, by have := HL.out; simp only [List.length_append, List.length_nil]; omega⟩, HC1.out.below HB.out, KeepBut.trans HK.out (KeepBut.of_below HB.out g none) (.inl rfl)⟩
 have d2 : (z == 2) = false := beq_eq_false_iff_ne.mpr c2
 clear c0 c1 c2
 have HLE4 := G.a (show w.heap.size ≤ w2.heap.size from HK.out.1)
 go_wp2_with (go_at_call 53; (with_reducible refine (spec_l7Word.any w0 _ g 3 HC1.out (by decide)).mono ?_); rintro e w3 ⟨⟨v, r, rfl, hr, hl, _⟩, hc, hk⟩; have HV := G.a hr; have HL := G.a hl; have n1_ := G.a hc; have n2_ := G.a (KeepBut.trans HK.out hk (.inl rfl)); clear HC1 HK hc hk hr hl; have HC1 := n1_; have HK := n2_; clear n1_ n2_)
 go_ret
 exact ⟨⟨_, rfl, r, Kd.R_lower HV.out HLE4.out, by have := HL.out; omega⟩, HC1.out, HK.out⟩
theorem spec_l8Any.any (w0 w : World) (g : Nat) (hC : Cur w0 g w) (hle : w0.heap.size ≤ w.heap.size) :
  Calls Tryz.prog 23 #[.pointer (some ⟨g, 0, none⟩)] w fun e w' => (∃ v : Value, e = .returned v ∧ WordRet 1001 w' w.heap.size v) ∧ Cur w0 g w' ∧ KeepBut w w' g none := by
 have HC := G.a hC
 have HLE := G.a hle
 clear hC hle
 go_enter Tryz.func23, Tryz.ntmps23
 go_wp2_with (first | (go_at_call 37; (with_reducible refine (spec_l8Long.any w0 _ g HC.out HLE.out).mono ?_); rintro e w2 ⟨⟨v, rfl, r, hr, hl⟩, hc, hk⟩; have HW := G.a (Kd.R_mono (ok' := fun k => k ≠ g) (Kd.R_bound hr) (fun k hk => by have := HC.out.lt; have := hk.2.1; omega)); have HL := G.a hl; have HC1 := G.a hc; have HK := G.a hk; clear hr hl hc hk) | (go_at_call 38; (with_reducible refine (spec_l1Once.any w0 _ g 16 HC1.out (by decide)).mono ?_); rintro e w3 ⟨⟨z, rfl⟩, hc, hk⟩; have n1_ := G.a hc; have n2_ := G.a (KeepBut.trans HK.out hk (.inl rfl)); have n3_ := G.a (Kd.R_keep HW.out hk (fun _ h => h)); clear HC1 HK HW hc hk; have HC1 := n1_; have HK := n2_; have HW := n3_; clear n1_ n2_ n3_) | (go_at_call 39; (with_reducible refine (spec_l1PickInt.lit w0 _ g w3.heap.size 3 2 [-1, 16] (HC1.out.below (below_alloc (Below.refl _ w3) (.cells #[.int .i64 (-1), .int .i64 16] 3))) rfl (heap_hit rfl) (by decide) (by decide) ?hne).mono ?_); (case hne => have := HC1.out.lt; omega); rintro e w4 ⟨⟨q, rfl, hq⟩, hc, hk⟩; have n1_ := G.a hc; have n2_ := G.a (KeepBut.trans (KeepBut.trans HK.out (KeepBut.of_below (below_alloc (Below.refl _ w3) (.cells #[.int .i64 (-1), .int .i64 16] 3)) g none) (.inl rfl)) hk (.inl rfl)); have n3_ := G.a (Kd.R_keep (Kd.R_alloc HW.out (.cells #[.int .i64 (-1), .int .i64 16] 3)) hk (fun _ h => h)); clear HC1 HK HW hc hk hq; have HC1 := n1_; have HK := n2_; have HW := n3_; clear n1_ n2_ n3_) | ((with_reducible refine gate_builtin (b := .append) (xs := #[.tmp 8, .tmp 12]) rfl ?_); at_builtin; refine Kd.R_append (Kd.int .i64) w.heap.size rfl (.tmp 8) (.tmp 12) 24 3 (.int .i64 0) 8 rfl Tryz.underlying24 info3 rfl (by decide) (by omega) v r q [.int .i64 q] (fun k => k ≠ g) (fun _ => False) rfl rfl ?aP (fun _ hk => hk.elim) ?aF ?aO (Below.refl _ _) ?aS ?aL ?_; (case aP => exact rfl); (case aF => exact (fun k hk => by have := HC1.out.lt; omega)); (case aO => exact HW.out); (case aS => exact HK.out.1); (case aL => have := HL.out; omega); intro v3 w5 ho hb hg hat; have n1_ := G.a (cur_app HC1.out HK.out hg (fun e => HW.out.1 g e.symm rfl) hb HLE.out (Kd.R_base2 HW.out)); have n4_ := G.a ho; clear HC1 HK HW ho hb hg hat; have HC1 := G.a n1_.out.1; have HK := G.a n1_.out.2; have HW := n4_; clear n1_ n4_))
 all_goals go_ret
 ·exact ⟨⟨_, rfl, _, Kd.R_mono HW.out (fun _ _ => trivial), by have := HL.out; rw [List.length_append, List.length_singleton]; omega⟩, HC1.out, HK.out⟩
 ·exact ⟨⟨_, rfl, r, Kd.R_mono HW.out (fun _ _ => trivial), by have := HL.out; omega⟩, HC1.out, HK.out⟩
end
section
open Go.Proofs.YtolikggioekalabGreat.G
theorem spec_l1New.box (A0 : Option Addr) (c0 : Nat) (l0 : List Int) (w : World) (hr0 : Kd.C (Kd.int .u8) w A0 l0.length l0) (hc0 : l0.length ≤ c0) (hl : l0.length ≤ 1048576) :
  Calls Tryz.prog 24 #[.slice A0 l0.length c0] w fun e w' => ∃ (g_ : Nat) (h : Int), e = .returned (.pointer (some ⟨g_, 0, none⟩)) ∧ w'.heap[g_]? = some (.cells #[.slice A0 l0.length c0, .int .i64 0, .int .i64 h] 58 (0, 0)) ∧ w.heap.size ≤ g_ ∧ Below w.heap.size w w' := by
 have huCu := Tryz.underlying58
 have HR0 := G.a hr0
 have HL := G.a hl
 clear hr0 hc0 hl
 have HB := G.a (Below.refl w.heap.size w)
 go_enter Tryz.func24, Tryz.ntmps24
 go_wp2
 go_loopg [3, 4] 4000 (fun kq v3 v4 w' => ∃ (h : Int) (i : Nat), v3 = .int .i64 h ∧ v4 = .int .i64 (i : Int) ∧ Aside0 (i ≤ 4000 ∧ 4000 ≤ i + kq) ∧ Aside0 (Below w.heap.size w w'))
 case atStart => exact ⟨_, 0, rfl, rfl, ⟨by omega⟩, HB⟩
 case round =>
  clear HB
  obtain ⟨h, i, rfl, rfl, HI, HB⟩ := hrel
  have fin : ∀ g w5, g = wr.heap.size → w5.heap[g]? = some (.cells #[.slice A0 l0.length c0, .int .i64 0, .int .i64 h] 58 (0, 0)) → Below wr.heap.size wr w5 → w5.heap[g]? = some (.cells #[.slice A0 l0.length c0, .int .i64 0, .int .i64 h] 58 (0, 0)) ∧ w.heap.size ≤ g ∧ Below w.heap.size w w5 := fun g w5 hg hbox hb => ⟨hbox, by rw [hg]; exact HB.out.size, below_step HB.out hb⟩
  have FIN := G.a fin
  clear fin
  by_cases c : i < l0.length
  ·have d1 : decide (i < l0.length) = true := decide_eq_true c
   by_cases c2 : i < 4000
   ·have d2 : decide (i < 4000) = true := decide_eq_true c2
    have d3 : decide ((i : Int) < 4000) = true := decide_eq_true (by omega)
    have HC := G.a c2
    obtain ⟨ad, e, hx⟩ := Kd.at_int HR0.out (i : Int) (by omega) (by omega)
    cases e
    rw [Int.toNat_natCast] at hx
    replace hx := pw_cell_below HB.out hx
    have p := eq_true (show (0 : Int) ≤ (i : Int) by omega)
    have q := eq_true c
    clear c c2
    go_wp2
    go_roundg (gk - 1)
    case measure => have := HI.out; have := HC.out; omega
    case rel => exact ⟨_, i + 1, rfl, by rw [wsx (n := 1099511627776) (by omega) (by have := HC.out; omega) (by omega)]; rfl, ⟨by have := HI.out; have := HC.out; omega⟩, HB⟩
   ·have d2 : decide (i < 4000) = false := decide_eq_false c2
    have d3 : decide ((i : Int) < 4000) = false := decide_eq_false (by omega)
    clear c c2
    go_wp2_with (first | ((with_reducible refine gate_dst (N := 31) rfl ?_); refine box_event ?hg (N := 31) ?hd (cs := #[.slice A0 l0.length c0, .int .i64 0, .int .i64 h]) (t := 58) ?hr ?_; (case hd => rfl); (case hg => rfl); (case hr => first | (go_simp; done) | (go_simp; rfl)); intro gb hg w5 hbox hb; have HF := G.a (FIN.out gb w5 hg hbox hb); clear hg hbox hb))
    go_ret
    exact ⟨_, h, rfl, HF.out.1, HF.out.2.1, HF.out.2.2⟩
  ·have d1 : decide (i < l0.length) = false := decide_eq_false c
   clear c
   go_wp2_with (first | ((with_reducible refine gate_dst (N := 31) rfl ?_); refine box_event ?hg (N := 31) ?hd (cs := #[.slice A0 l0.length c0, .int .i64 0, .int .i64 h]) (t := 58) ?hr ?_; (case hd => rfl); (case hg => rfl); (case hr => first | (go_simp; done) | (go_simp; rfl)); intro gb hg w5 hbox hb; have HF := G.a (FIN.out gb w5 hg hbox hb); clear hg hbox hb))
   go_ret
   exact ⟨_, h, rfl, HF.out.1, HF.out.2.1, HF.out.2.2⟩
theorem spec_l1New.any (A0 : Option Addr) (c0 : Nat) (l0 : List Int) (w : World) (hr0 : Kd.C (Kd.int .u8) w A0 l0.length l0) (hc0 : l0.length ≤ c0) (hl : l0.length ≤ 1048576) :
  Calls Tryz.prog 24 #[.slice A0 l0.length c0] w fun e w' => ∃ g_ : Nat, e = .returned (.pointer (some ⟨g_, 0, none⟩)) ∧ Cur w g_ w' ∧ Below w.heap.size w w' := by
 refine (spec_l1New.box A0 c0 l0 w hr0 hc0 hl).mono ?_
 rintro e w' ⟨g, h, he, hbx, hge, hb⟩
 exact ⟨g, he, ⟨⟨l0, 0, h, ⟨A0, c0, hbx, hge, hr0⟩, hl, by omega, by omega⟩, hb⟩, hb⟩
end
section
open Go.Proofs.YtolikggioekalabGreat.G
def spec_DrawRunsOf.Ok (t : List Int) : Prop := t.length ≤ 1001
theorem big_le {l : List Int} (h : laws_big.f l = some false) : l.length ≤ 1048576 := by
 unfold laws_big.f at h
 simp at h
 omega
theorem spec_DrawRunsOf.any (A0 : Option Addr) (c0 : Nat) (l0 : List Int) (w : World) (hr0 : Kd.C (Kd.int .u8) w A0 l0.length l0) (hc0 : l0.length ≤ c0) (hl : l0.length ≤ 1048576) :
  Calls Tryz.prog 5 #[.slice A0 l0.length c0] w fun e w' => ∃ (r : List Int) (v0_ : Value), r.length ≤ 1001 ∧ e = .returned (v0_) ∧ Kd.R (Kd.int .i64) 3 w' w.heap.size (fun _ => True) v0_ r ∧ Below w.heap.size w w' := by
 have HR0 := G.a hr0
 have HC0 := G.a hc0
 have HL := G.a hl
 clear hr0 hc0 hl
 go_enter Tryz.func5, Tryz.ntmps5
 go_wp2_with (first | (go_at_call 24; (with_reducible refine (spec_l1New.any A0 c0 l0 w HR0.out HC0.out HL.out).mono ?_); rintro e w2 ⟨g, rfl, hc, hb⟩; have HC := G.a hc; have HB := G.a hb; clear hc hb) | (go_at_call 23; (with_reducible refine (spec_l8Any.any w _ g HC.out HB.out.size).mono ?_); rintro e w3 ⟨⟨v, rfl, r, hr, hl⟩, hc, hk⟩; have HW := G.a (Kd.R_lower hr HB.out.size); have HL2 := G.a hl; have HB2 := G.a hc.2; clear hr hl hc hk))
 go_ret
 exact ⟨r, _, HL2.out, rfl, HW.out, HB2.out⟩
end
end Go.Proofs.YtolikggioekalabGreat.PFnRuns
