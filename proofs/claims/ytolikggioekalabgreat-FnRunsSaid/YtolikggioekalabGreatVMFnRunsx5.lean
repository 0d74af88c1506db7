/- The Go functions that the law FnRuns reaches (part 5): each as a Lean function, and that its code comes to these answers. No condition beyond those written. -/
import Derived.Deep.RegionHeld3
import Derived.Test.YtolikggioekalabGreatVMFnRunsx4
namespace Go.Proofs.YtolikggioekalabGreat.PFnRuns
open Go.RowKit Go.Proofs.YtolikggioekalabGreatW.PrintWords Go.Proofs.YtolikggioekalabGreatW.PrintLast Go.Proofs.YtolikggioekalabGreatW.PrintMore
attribute [local go_sem] max2_int min2_int max_two min_two max_three min_three max_four min_four
set_option maxHeartbeats 8000000
set_option maxRecDepth 100000
set_option linter.unusedVariables false
set_option linter.unusedSimpArgs false
section
open Go.Proofs.YtolikggioekalabGreat.G
theorem digits_good : ∀ n : Nat, n < 50 → ∀ b : Nat, b < 5 → 2 ≤ b → ∃ d, spec_DigitsOf.f 40 (n : Int) (b : Int) = some d ∧ spec_AreDigits.f 40 d (b : Int) = some true ∧ d.length ≤ 16 ∧ ∀ x ∈ d, 0 ≤ x ∧ x < (b : Int) := by
 have key : ((List.range 50).all fun n => [2, 3, 4].all fun b => match spec_DigitsOf.f 40 ((n : Nat) : Int) ((b : Nat) : Int) with
  | some d => spec_AreDigits.f 40 d (b : Int) == some true && decide (d.length ≤ 16) && d.all fun x => decide (0 ≤ x) && decide (x < (b : Int))
  | none => false) = true := by decide +kernel
 intro n hn b hb hb2
 rw [List.all_eq_true] at key
 have h1 := key n (List.mem_range.2 hn)
 rw [List.all_eq_true] at h1
 have h2 := h1 b (by simp; omega)
 revert h2
 cases spec_DigitsOf.f 40 (n : Int) (b : Int) with
 | none => intro h; cases h
 | some d =>
  intro h
  simp only [Bool.and_eq_true, beq_iff_eq, decide_eq_true_eq, List.all_eq_true] at h
  exact ⟨d, rfl, h.1.1, h.1.2, h.2⟩
theorem power_good : ∀ b : Nat, b < 5 → 2 ≤ b → ∃ p, spec_PowerOf.f 40 (b : Int) 16 = some p ∧ 1000 ≤ p := by
 have key : ([2, 3, 4].all fun b => match spec_PowerOf.f 40 ((b : Nat) : Int) 16 with
  | some p => decide (1000 ≤ p)
  | none => false) = true := by decide +kernel
 intro b hb hb2
 rw [List.all_eq_true] at key
 have h2 := key b (by simp; omega)
 revert h2
 cases spec_PowerOf.f 40 (b : Int) 16 with
 | none => intro h; cases h
 | some p => intro h; exact ⟨p, rfl, by simpa using h⟩
theorem spec_TermAt.any (b : Int) (A1 : Option Addr) (c1 : Nat) (rows : List (List Int)) (A2 : Option Addr) (c2 : Nat) (out : List Int) (n : Nat) (w : World)
  (hr1 : Kd.C (Kd.slice 3 (Kd.int .i64)) w A1 rows.length rows) (hr2 : Kd.C (Kd.int .i64) w A2 out.length out) (hW : SeqW b rows out) (hn : n < 50) :
  Calls Tryz.prog 73 #[.agg #[.int .i64 b, .slice A1 rows.length c1, .slice A2 out.length c2], .int .i64 (n : Int)] w fun e w' => (∃ v : Int, e = .returned (.int .i64 v)) ∧ Below w.heap.size w w' := by
 have huSq := Tryz.underlying68
 obtain ⟨b, rfl⟩ := Int.eq_ofNat_of_zero_le (show 0 ≤ b by have := hW.b2; omega)
 obtain ⟨d, hd1, hd2, hd3, hd4⟩ := digits_good n hn b (by have := hW.b4; omega) (by have := hW.b2; omega)
 obtain ⟨p, hp1, hp2⟩ := power_good b (by have := hW.b4; omega) (by have := hW.b2; omega)
 have hst := hW.stA hd4
 obtain ⟨ad, e, hx⟩ := Kd.at_int hr2 (stA rows d) hst.1 (by rw [hW.olen]; exact hst.2)
 cases e
 have D0 : decide ((n : Int) < 0) = false := decide_eq_false (by omega)
 have D1 : decide (p ≤ (n : Int)) = false := decide_eq_false (by omega)
 have p1 := eq_true hst.1
 have q1 := eq_true (show stA rows d < (out.length : Int) by rw [hW.olen]; exact hst.2)
 have HR1 := G.a hr1
 have HR2 := G.a hr2
 have HW := G.a hW
 have HD1 := G.a hd1
 have HD2 := G.a hd2
 have HD3 := G.a hd3
 have HD4 := G.a hd4
 have HP := G.a hp1
 have HX := G.a hx
 clear hr1 hr2 hW hd1 hd2 hd3 hd4 hp1 hp2 hst hn hx
 go_enter Tryz.func73, Tryz.ntmps73
 go_upto_region 1 with (first | ((with_reducible refine gate_dst (N := 2) rfl ?_); refine box_event ?hg (N := 2) ?hd (cs := #[.int .i64 (b : Int), .slice A1 rows.length c1, .slice (some ad) out.length c2]) (t := 68) ?hr ?_; (case hd => rfl); (case hg => rfl); (case hr => first | (go_simp; done) | (go_simp; rfl)); intro gb hg w2 hbox hb; have BX := G.a (box3 hbox); have H0 := G.a hb; clear hg hbox hb))
 have HB := G.a (Below.refl w2.heap.size w2)
 obtain ⟨z0, z1, z2, y0, y1, y2⟩ := BX.out _ HB.out
 go_wp2_with (first | (go_at_call 72; refine (spec_IsSequence.any _ _ _ _ _ _ _ _ (Kd.C_below HR1.out (below_step H0.out bel)) (Kd.C_below HR2.out (below_step H0.out bel)) HW.out).mono ?_; rintro e w3 ⟨rfl, hb⟩; have n_ := G.a (below_step HB.out hb); clear HB hb; have HB := n_; clear n_; obtain ⟨z0, z1, z2, y0, y1, y2⟩ := BX.out _ HB.out) | (go_at_call 86; refine (spec_PowerOf.calls 40 _ _ p _ HP.out).mono ?_; rintro e w' ⟨rfl, ⟨nd, rfl⟩⟩))
 obtain ⟨z0, z1, z2, y0, y1, y2⟩ := BX.out _ (show Below w2.heap.size w2 _ from bel)
 go_region_held3 (fun W => W.cell? ⟨gb, 0, none⟩ = some (.int .i64 (b : Int)) ∧ W.cell? ⟨gb, 1, none⟩ = some (.slice A1 rows.length c1) ∧ W.cell? ⟨gb, 2, none⟩ = some (.slice (some ad) out.length c2) ∧ W.cell? (ad.add (stA rows d).toNat) = some (.int .i64 (rd out (stA rows d)))) (first | exact ⟨(BX.out _ bel).1, (BX.out _ bel).2.1, (BX.out _ bel).2.2.1, pw_cell_below (below_step H0.out bel) HX.out⟩) (first | (go_at_call 88; refine (spec_DigitsOf.calls 40 _ _ d _ HD1.out).mono ?_; rintro e w4 ⟨vd, rfl, ho, hb⟩; have n_ := G.a (below_step (show Below w2.heap.size w2 _ from bel) hb); clear HB hb; have HB := n_; clear n_; have HO := G.a ho; clear ho; obtain ⟨Ad, cd, ed⟩ := Kd.R_slice HO.out; subst ed) | (go_at_call 87; refine (spec_StateAfter.any _ _ _ _ _ _ _ _ _ _ _ _ (Kd.C_below HR1.out (below_step H0.out bel)) (Kd.C_below HR2.out (below_step H0.out bel)) HW.out (Kd.R_reads' HO.out).2.2 (Kd.R_reads' HO.out).2.1 HD4.out HD3.out HD2.out).mono ?_; rintro e w5 ⟨rfl, hb⟩; have n_ := G.a (below_step HB.out hb); clear HB hb; have HB := n_; clear n_))
 go_wp2
 go_ret
 exact ⟨⟨_, rfl⟩, below_step H0.out bel⟩
end
section
open Go.Proofs.YtolikggioekalabGreat.G
theorem spec_PrefixOf.any (b : Int) (A1 : Option Addr) (c1 : Nat) (rows : List (List Int)) (A2 : Option Addr) (c2 : Nat) (out : List Int) (n : Nat) (w : World)
  (hr1 : Kd.C (Kd.slice 3 (Kd.int .i64)) w A1 rows.length rows) (hr2 : Kd.C (Kd.int .i64) w A2 out.length out) (hW : SeqW b rows out) (hn : n < 50) :
  Calls Tryz.prog 50 #[.agg #[.int .i64 b, .slice A1 rows.length c1, .slice A2 out.length c2], .int .i64 (n : Int)] w fun e w' => (∃ (v : Value) (l : List Int), e = .returned v ∧ l.length < 50 ∧ Kd.R (Kd.int .i64) 3 w' w.heap.size (fun _ => True) v l) ∧ Below w.heap.size w w' := by
 have huSq := Tryz.underlying68
 have HR1 := G.a hr1
 have HR2 := G.a hr2
 have HW := G.a hW
 have HN := G.a hn
 have D1 : decide ((n : Int) ≤ 256) = true := decide_eq_true (by omega)
 clear hr1 hr2 hW hn
 go_enter Tryz.func50, Tryz.ntmps50
 go_upto_region 1 with (first | ((with_reducible refine gate_dst (N := 2) rfl ?_); refine box_event ?hg (N := 2) ?hd (cs := #[.int .i64 b, .slice A1 rows.length c1, .slice A2 out.length c2]) (t := 68) ?hr ?_; (case hd => rfl); (case hg => rfl); (case hr => first | (go_simp; done) | (go_simp; rfl)); intro gb hg w2 hbox hb; have BX := G.a (box3 hbox); have H0 := G.a hb; clear hg hbox hb))
 have HB := G.a (Below.refl w2.heap.size w2)
 go_wp2_with (first | ((with_reducible refine gate_dst (N := 7) rfl ?_); refine Kd.R_lit (Kd.int .i64) _ 3 ?hg (N := 7) ?hd (xs := ([] : List Int)) (inner := []) (ok := fun _ => True) (okp := fun _ => True) ?hr ?hp (fun _ hk => hk) trivial (Below.refl _ _) (Nat.le_refl _) (by simp) ?_; (case hd => rfl); (case hg => rfl); (case hr => first | (go_simp; done) | (go_simp; rfl)); (case hp => exact (Reps.none _ _)); intro v3 w3 ho hb hg_ hnew_; clear hg_ hnew_; have n_ := G.a (below_step HB.out hb); have HO := G.a ho; clear ho HB hb; have HB := n_; clear n_))
 go_loopg [5, 6] n (fun kq v5 v6 w' => ∃ (l : List Int) (y : Int), v6 = .int .i64 y ∧ Aside0 (y = (l.length : Int) ∧ l.length ≤ n ∧ n ≤ l.length + kq) ∧ Aside0 (Kd.R (Kd.int .i64) 3 w' w2.heap.size (fun _ => True) v5 l) ∧ Aside0 (Below w2.heap.size w2 w'))
 case atStart => exact ⟨[], 0, rfl, ⟨⟨rfl, by simp, by simp⟩⟩, ⟨HO.out⟩, ⟨bel⟩⟩
 case round =>
  clear HB HO
  obtain ⟨l, y, rfl, HY, HO, HB⟩ := hrel
  obtain ⟨z0, z1, z2, y0, y1, y2⟩ := BX.out _ HB.out
  by_cases c : y < (n : Int)
  ·have cb : decide (y < (n : Int)) = true := decide_eq_true c
   have HC := G.a c
   clear c
   go_wp2_with (first | (go_at_call 72; refine (spec_IsSequence.any _ _ _ _ _ _ _ _ (Kd.C_below HR1.out (below_step H0.out bel)) (Kd.C_below HR2.out (below_step H0.out bel)) HW.out).mono ?_; rintro e w3 ⟨rfl, hb⟩; have n_ := G.a (below_step HB.out hb); have m_ := G.a (Kd.R_below HO.out hb); clear HB hb HO; have HB := n_; have HO := m_; clear n_ m_; obtain ⟨z0, z1, z2, y0, y1, y2⟩ := BX.out _ HB.out) | (go_at_call 73; rw [HY.out.1]; refine (spec_TermAt.any _ _ _ _ _ _ _ _ _ (Kd.C_below HR1.out (below_step H0.out bel)) (Kd.C_below HR2.out (below_step H0.out bel)) HW.out (by have := HY.out; have := HN.out; have := HC.out; omega)).mono ?_; rintro e w3 ⟨⟨t, rfl⟩, hb⟩; have n_ := G.a (below_step HB.out hb); have m_ := G.a (Kd.R_below HO.out hb); clear HB hb HO; have HB := n_; have HO := m_; clear n_ m_) | ((with_reducible refine gate_builtin (b := .append) (xs := #[.tmp 21, .tmp 25]) rfl ?_); at_builtin; refine Kd.R_append (Kd.int .i64) (w0 := w2) w2.heap.size rfl (.tmp 21) (.tmp 25) 24 3 (.int .i64 0) 8 rfl Tryz.underlying24 info3 rfl (by decide) (by omega) u5 l t [.int .i64 t] (fun _ => True) (fun _ => False) rfl rfl ?aP (fun _ hk => hk.elim) ?aF ?aO ?aB ?aS ?aL ?_; (case aP => exact rfl); (case aF => exact (fun _ _ => trivial)); (case aO => exact (G.kR HO.out)); (case aB => exact bel); (case aS => exact below_size bel); (case aL => have := HY.out; have := HN.out; omega); intro v1 w1 ho hb hg hat; have n_ := G.a hb; have m_ := G.a ho; clear HB HO hb ho hg hat; have HB := n_; have HO := m_; clear n_ m_))
   go_roundg (gk - 1)
   case measure => have := HY.out; have := HC.out; omega
   case rel => exact ⟨l ++ [t], wrap64 (y + 1), by rw [HY.out.1], ⟨by have := HY.out; have := HC.out; have := HN.out; rw [wsx (n := 1099511627776) (by omega) (by omega) (by omega), List.length_append, List.length_singleton]; omega⟩, ⟨HO.out⟩, ⟨bel⟩⟩
  ·have cb : decide (y < (n : Int)) = false := decide_eq_false c
   clear c
   go_wp2
   go_ret
   exact ⟨⟨_, l, rfl, by have := HY.out; have := HN.out; omega, Kd.R_lower HO.out H0.out.size⟩, below_step H0.out bel⟩
end
def spec_l1PickInt.f (s0_0 : List Int) (s0_1 : Int) (s0_2 : Int) (l1 : List Int) : Option (Int × Int × Int) := (spec_l1Below.f s0_0 s0_1 s0_2 (l1.length : Int)).bind fun bt296 => (if 0 ≤ bt296.1 then (if bt296.1 < (l1.length : Int) then (some (rd l1 bt296.1, bt296.2.1, bt296.2.2)) else (none)) else (none))
theorem spec_l1PickInt.calls (g : Nat) (s0_0 : List Int) (s0_1 : Int) (s0_2 : Int) (A1 : Option Addr) (c1 : Nat) (l1 : List Int) (r1 : Int) (r2 : Int) (r3 : Int) (w0 w : World) (hI : IsS58 w0 w g s0_0 s0_1 s0_2) (hB : Below w0.heap.size w0 w) (hr1 : Kd.C (Kd.int .i64) w A1 l1.length l1) (hc1 : l1.length ≤ c1) (hf1 : ∀ ad, A1 = some ad → 0 < l1.length → ad.block ≠ g) (h : spec_l1PickInt.f s0_0 s0_1 s0_2 l1 = some (r1, r2, r3)) :
  Calls Tryz.prog 39 #[.pointer (some ⟨g, 0, none⟩), .slice A1 l1.length c1] w fun e w' => e = .returned (.int .i64 r1) ∧ IsS58 w0 w' g s0_0 r2 r3 ∧ Below w0.heap.size w0 w' ∧ KeepBut w w' g none := by
 have HR1 := G.a hr1
 have HC1 := G.a hc1
 clear hr1 hc1
 have HI0 := G.a hI
 have HK := G.a (KeepBut.refl w g none)
 have HL := G.a hB.size
 clear hI
 have HW0 := G.a hB.size
 have HB := G.a hB
 clear hB
 have H : ((spec_l1Below.f s0_0 s0_1 s0_2 (l1.length : Int)).bind fun bt296 => (if 0 ≤ bt296.1 then (if bt296.1 < (l1.length : Int) then (some (rd l1 bt296.1, bt296.2.1, bt296.2.2)) else (none)) else (none))) = some (r1, r2, r3) := h
 clear h
 obtain ⟨⟨t296, t297, t298⟩, A3, H⟩ := G.bx H
 replace H : (if 0 ≤ t296 then (if t296 < (l1.length : Int) then (some (rd l1 t296, t297, t298)) else (none)) else (none)) = some (r1, r2, r3) := H
 by_cases c4 : 0 ≤ t296
 ·rw [if_pos c4] at H
  have c4b0 : decide (0 ≤ t296) = true := decide_eq_true c4
  clear c4
  by_cases c5 : t296 < (l1.length : Int)
  ·rw [if_pos c5] at H
   have c5b0 : decide (t296 < (l1.length : Int)) = true := decide_eq_true c5
   clear c5
   simp only [Option.some.injEq, Prod.mk.injEq] at H
   obtain ⟨rfl, rfl, rfl⟩ := H
   go_enter Tryz.func39, Tryz.ntmps39
   go_wp2_with (first | ((with_reducible refine gate_callee (f := 47) rfl ?_); refine goesL_ (some 9) rfl rfl Tryz.func47 (by kernel_rfl) rfl #[.pointer (some ⟨g, 0, none⟩), .int .i64 (l1.length : Int)] rfl G.ar ?_; (with_reducible refine (spec_l1Below.calls g s0_0 s0_1 s0_2 (l1.length : Int) t296 t297 t298 w0 _ ?side1 ?side2 A3.out).mono ?_); (case side1 => repeat (first | (with_reducible first | exact HI0.out | apply IsS58.alloc | apply IsS58.drewN | apply IsS58.drew | apply IsS58.set_1 | apply IsS58.set_2) | exact HI0.out)); (case side2 => repeat (first | (with_reducible first | exact HB.out | apply below_alloc | apply pw_below_drewN | apply below_drew1 | refine below_set ?_ (IsS58.ge HI0.out)) | exact HB.out)); rintro e w6 ⟨rfl, hi, hb, hk⟩; refine ⟨_, rfl, ?_⟩; have n0_ := G.a (KeepBut.trans (by repeat (first | (with_reducible first | exact HK.out | apply KeepBut.set_ | apply keep_drewN | apply keep_drew | apply keep_alloc) | exact HK.out)) hk (.inl rfl)); have n1_ := G.a (hb); have n2_ := G.a (hi); clear HK; clear HB; clear HI0; have HK := n0_; have HB := n1_; have HI0 := n2_; clear n0_ n1_ n2_; (try clear hb); (try clear hb2); (try clear hk); (try clear hi); have p299 : 0 ≤ (t296 : Int) := G.odt; have q299 : t296 < (l1.length : Int) := G.odt; obtain ⟨ad299, e299, hx299_0⟩ := Kd.at_int HR1.out t296 p299 q299; cases e299; replace hx299_0 := keep_cell HK.out hx299_0 (by first | (rw [add_block]; exact hf1 _ rfl (by omega)) | exact hf1 _ rfl (by omega) | exact hf1 ad299 rfl (by omega)); replace p299 := eq_true p299; replace q299 := eq_true q299))
   go_ret
   exact ⟨G.er, by repeat (first | (with_reducible first | exact HI0.out | apply IsS58.alloc | apply IsS58.drewN | apply IsS58.drew | apply IsS58.set_1 | apply IsS58.set_2) | exact HI0.out), G.bes (IsS58.ge HI0.out), by repeat (first | (with_reducible first | exact HK.out | apply KeepBut.set_ | apply keep_drewN | apply keep_drew | apply keep_alloc) | exact HK.out)⟩
  ·rw [if_neg c5] at H
   exact absurd H (by simp)
 ·rw [if_neg c4] at H
  exact absurd H (by simp)
def spec_l4Has.l0 : Nat → List Int → Int → Int → Option (Bool)
 | 0, _, _, _ => none
 | k + 1, x0, x1, x5 => if x5 < (x0.length : Int) then (if 0 ≤ x5 then (if (rd x0 x5) = x1 then (some true) else (spec_l4Has.l0 k x0 x1 (wrap64 (x5 + 1)))) else (none)) else (some false)
def spec_l4Has.f (k : Nat) (l0 : List Int) (a1 : Int) : Option (Bool) := spec_l4Has.l0 k l0 a1 0
theorem spec_l4Has.calls (k : Nat) (A0 : Option Addr) (c0 : Nat) (l0 : List Int) (a1 : Int) (r : Bool) (w : World) (hr0 : Kd.C (Kd.int .i64) w A0 l0.length l0) (hc0 : l0.length ≤ c0) (h : spec_l4Has.f k l0 a1 = some r) :
  Calls Tryz.prog 90 #[.slice A0 l0.length c0, .int .i64 a1] w fun e w' => e = .returned (.bool r) ∧ Drawn0 w w' := by
 have HR0 := G.a hr0
 have HC0 := G.a hc0
 clear hr0 hc0
 have H : (spec_l4Has.l0 k l0 a1 0) = some r := h
 clear h
 have H' := G.a H
 clear H
 go_enter Tryz.func90, Tryz.ntmps90
 go_wp2
 go_loopg [5] k (fun kq v5 w' => ∃ (x5_1 : Int), v5 = .int .i64 x5_1 ∧ Aside0 (spec_l4Has.l0 kq l0 a1 x5_1 = some r) ∧ Aside0 (kq ≤ k) ∧ Drawn0 w w')
 case atStart => exact ⟨(0), G.tr, H', ⟨Nat.le_refl _⟩, G.dn⟩
 case round =>
  clear H'
  try clear p2
  obtain ⟨x5_1, rfl, HA, HK1, ⟨m1, rfl⟩⟩ := hrel
  cases gk with
  | zero => exact absurd HA.out (by simp [spec_l4Has.l0])
  | succ k1 =>
   have H := HA.out
   clear HA
   simp only [spec_l4Has.l0] at H
   by_cases c3 : x5_1 < (l0.length : Int)
   ·rw [if_pos c3] at H
    have c3b0 : decide (x5_1 < (l0.length : Int)) = true := decide_eq_true c3
    clear c3
    by_cases c4 : 0 ≤ x5_1
    ·rw [if_pos c4] at H
     have c4b0 : decide (0 ≤ x5_1) = true := decide_eq_true c4
     clear c4
     by_cases c5 : (rd l0 x5_1) = a1
     ·rw [if_pos c5] at H
      have c5b0 : ((rd l0 x5_1) == a1) = true := beq_iff_eq.mpr c5
      have c5b1 : ((rd l0 x5_1) != a1) = false := bne_eq_false_iff_eq.mpr c5
      clear c5
      obtain rfl := Option.some.inj H
      have p363 : 0 ≤ (x5_1 : Int) := G.odt
      have q363 : x5_1 < (l0.length : Int) := G.odt
      obtain ⟨ad363, e363, hx363_0⟩ := Kd.at_int HR0.out x5_1 p363 q363
      cases e363
      replace p363 := eq_true p363
      replace q363 := eq_true q363
      go_wp2
      go_ret
      exact ⟨G.tr, G.dn⟩
     ·rw [if_neg c5] at H
      have c5b0 : ((rd l0 x5_1) == a1) = false := beq_eq_false_iff_ne.mpr c5
      have c5b1 : ((rd l0 x5_1) != a1) = true := bne_iff_ne.mpr c5
      have H' := G.a H
      clear H
      have p363 : 0 ≤ (x5_1 : Int) := G.odt
      have q363 : x5_1 < (l0.length : Int) := G.odt
      obtain ⟨ad363, e363, hx363_0⟩ := Kd.at_int HR0.out x5_1 p363 q363
      cases e363
      replace p363 := eq_true p363
      replace q363 := eq_true q363
      go_wp2
      go_roundg k1
      case measure => have := HK1.out; omega
      case rel => exact ⟨(wrap64 (x5_1 + 1)), G.tr, H', ⟨by have := HK1.out; omega⟩, G.dn⟩
    ·rw [if_neg c4] at H
     exact absurd H (by simp)
   ·rw [if_neg c3] at H
    have c3b0 : decide (x5_1 < (l0.length : Int)) = false := decide_eq_false c3
    clear c3
    obtain rfl := Option.some.inj H
    go_wp2
    go_ret
    exact ⟨G.tr, G.dn⟩
def spec_IsWord.l0 : Nat → List Int → Int → Int → Option (Bool)
 | 0, _, _, _ => none
 | k + 1, x0, x1, x5 => if x5 < (x0.length : Int) then (if 0 ≤ x5 then (if (rd x0 x5) < 0 then (some false) else (if (rd x0 x5) ≥ x1 then (some false) else (spec_IsWord.l0 k x0 x1 (wrap64 (x5 + 1))))) else (none)) else ((spec_l1In.f x1 1 16).bind fun t366 => (if t366 = true then (some (decide ((x0.length : Int) ≤ 400))) else (some false)))
def spec_IsWord.f (k : Nat) (l0 : List Int) (a1 : Int) : Option (Bool) := spec_IsWord.l0 k l0 a1 0
theorem spec_IsWord.calls (k : Nat) (A0 : Option Addr) (c0 : Nat) (l0 : List Int) (a1 : Int) (r : Bool) (w : World) (hr0 : Kd.C (Kd.int .i64) w A0 l0.length l0) (hc0 : l0.length ≤ c0) (h : spec_IsWord.f k l0 a1 = some r) :
  Calls Tryz.prog 94 #[.slice A0 l0.length c0, .int .i64 a1] w fun e w' => e = .returned (.bool r) ∧ Drawn0 w w' := by
 have HR0 := G.a hr0
 have HC0 := G.a hc0
 clear hr0 hc0
 have H : (spec_IsWord.l0 k l0 a1 0) = some r := h
 clear h
 have H' := G.a H
 clear H
 go_enter Tryz.func94, Tryz.ntmps94
 go_wp2
 go_loopg [5] k (fun kq v5 w' => ∃ (x5_1 : Int), v5 = .int .i64 x5_1 ∧ Aside0 (spec_IsWord.l0 kq l0 a1 x5_1 = some r) ∧ Aside0 (kq ≤ k) ∧ Drawn0 w w')
 case atStart => exact ⟨(0), G.tr, H', ⟨Nat.le_refl _⟩, G.dn⟩
 case round =>
  clear H'
  try clear p2
  obtain ⟨x5_1, rfl, HA, HK1, ⟨m1, rfl⟩⟩ := hrel
  cases gk with
  | zero => exact absurd HA.out (by simp [spec_IsWord.l0])
  | succ k1 =>
   have H := HA.out
   clear HA
   simp only [spec_IsWord.l0] at H
   by_cases c3 : x5_1 < (l0.length : Int)
   ·rw [if_pos c3] at H
    have c3b0 : decide (x5_1 < (l0.length : Int)) = true := decide_eq_true c3
    clear c3
    by_cases c4 : 0 ≤ x5_1
    ·rw [if_pos c4] at H
     have c4b0 : decide (0 ≤ x5_1) = true := decide_eq_true c4
     clear c4
     by_cases c5 : (rd l0 x5_1) < 0
     ·rw [if_pos c5] at H
      have c5b0 : decide ((rd l0 x5_1) < 0) = true := decide_eq_true c5
      clear c5
      obtain rfl := Option.some.inj H
      have p364 : 0 ≤ (x5_1 : Int) := G.odt
      have q364 : x5_1 < (l0.length : Int) := G.odt
      obtain ⟨ad364, e364, hx364_0⟩ := Kd.at_int HR0.out x5_1 p364 q364
      cases e364
      replace p364 := eq_true p364
      replace q364 := eq_true q364
      go_wp2
      go_ret
      exact ⟨G.tr, G.dn⟩
     ·rw [if_neg c5] at H
      have c5b0 : decide ((rd l0 x5_1) < 0) = false := decide_eq_false c5
      clear c5
      by_cases c6 : (rd l0 x5_1) ≥ a1
      ·rw [if_pos c6] at H
       have c6b0 : decide (a1 ≤ (rd l0 x5_1)) = true := decide_eq_true c6
       clear c6
       obtain rfl := Option.some.inj H
       have p364 : 0 ≤ (x5_1 : Int) := G.odt
       have q364 : x5_1 < (l0.length : Int) := G.odt
       obtain ⟨ad364, e364, hx364_0⟩ := Kd.at_int HR0.out x5_1 p364 q364
       cases e364
       replace p364 := eq_true p364
       replace q364 := eq_true q364
       have p365 : 0 ≤ (x5_1 : Int) := G.odt
       have q365 : x5_1 < (l0.length : Int) := G.odt
       obtain ⟨ad365, e365, hx365_0⟩ := Kd.at_int HR0.out x5_1 p365 q365
       obtain rfl : ad364 = ad365 := (by injection e365)
       replace p365 := eq_true p365
       replace q365 := eq_true q365
       go_wp2
       go_ret
       exact ⟨G.tr, G.dn⟩
      ·rw [if_neg c6] at H
       have c6b0 : decide (a1 ≤ (rd l0 x5_1)) = false := decide_eq_false c6
       clear c6
       have H' := G.a H
       clear H
       have p364 : 0 ≤ (x5_1 : Int) := G.odt
       have q364 : x5_1 < (l0.length : Int) := G.odt
       obtain ⟨ad364, e364, hx364_0⟩ := Kd.at_int HR0.out x5_1 p364 q364
       cases e364
       replace p364 := eq_true p364
       replace q364 := eq_true q364
       have p365 : 0 ≤ (x5_1 : Int) := G.odt
       have q365 : x5_1 < (l0.length : Int) := G.odt
       obtain ⟨ad365, e365, hx365_0⟩ := Kd.at_int HR0.out x5_1 p365 q365
       obtain rfl : ad364 = ad365 := (by injection e365)
       replace p365 := eq_true p365
       replace q365 := eq_true q365
       go_wp2
       go_roundg k1
       case measure => have := HK1.out; omega
       case rel => exact ⟨(wrap64 (x5_1 + 1)), G.tr, H', ⟨by have := HK1.out; omega⟩, G.dn⟩
    ·rw [if_neg c4] at H
     exact absurd H (by simp)
   ·rw [if_neg c3] at H
    have c3b0 : decide (x5_1 < (l0.length : Int)) = false := decide_eq_false c3
    clear c3
    obtain ⟨t366, A7, H⟩ := G.bx H
    by_cases c8 : t366 = true
    ·subst c8
     rw [if_pos rfl] at H
     obtain rfl := Option.some.inj H
     go_wp2_with (first | ((with_reducible refine gate_callee (f := 75) rfl ?_); refine goesL_ (some 26) rfl rfl Tryz.func75 (by kernel_rfl) rfl #[.int .i64 a1, .int .i64 1, .int .i64 16] rfl G.ar ?_; (with_reducible refine (spec_l1In.calls a1 1 16 true _ A7.out).mono ?_); rintro e w' ⟨rfl, ⟨nd, rfl⟩⟩; refine ⟨_, rfl, ?_⟩))
     go_ret
     exact ⟨G.tr, G.dn⟩
    ·replace c8 := Bool.eq_false_iff.mpr c8
     subst c8
     rw [if_neg (show ¬ (false = true) by decide)] at H
     obtain rfl := Option.some.inj H
     go_wp2_with (first | ((with_reducible refine gate_callee (f := 75) rfl ?_); refine goesL_ (some 26) rfl rfl Tryz.func75 (by kernel_rfl) rfl #[.int .i64 a1, .int .i64 1, .int .i64 16] rfl G.ar ?_; (with_reducible refine (spec_l1In.calls a1 1 16 false _ A7.out).mono ?_); rintro e w' ⟨rfl, ⟨nd, rfl⟩⟩; refine ⟨_, rfl, ?_⟩))
     go_ret
     exact ⟨G.tr, G.dn⟩
end Go.Proofs.YtolikggioekalabGreat.PFnRuns
