/- The Go functions that the law FnRuns reaches (part 17): each as a Lean function, and that its code comes to these answers. No condition beyond those written. -/
import Derived.Test.YtolikggioekalabGreatVMFnRunsx16
namespace Go.Proofs.YtolikggioekalabGreat.PFnRuns
open Go.RowKit Go.Proofs.YtolikggioekalabGreatW.PrintWords Go.Proofs.YtolikggioekalabGreatW.PrintLast Go.Proofs.YtolikggioekalabGreatW.PrintMore
attribute [local go_sem] max2_int min2_int max_two min_two max_three min_three max_four min_four
set_option maxHeartbeats 8000000
set_option maxRecDepth 100000
set_option linter.unusedVariables false
set_option linter.unusedSimpArgs false
mutual
def spec_SquaresOf.l0 : Nat → List Int → List (S39) → Int → Option ((List (S39)))
 | 0, _, _, _ => none
 | k + 1, x0, x3, x4 => if x4 < (x0.length : Int) then (spec_SquaresOf.l1 k x0 x3 x4 1) else (some x3)
def spec_SquaresOf.l1 : Nat → List Int → List (S39) → Int → Int → Option ((List (S39)))
 | 0, _, _, _, _ => none
 | k + 1, x0, x3, x4, x5 => if (wrap64 (x4 + (wrap64 (2 * x5)))) ≤ (x0.length : Int) then ((spec_l10Match.f k x0 x4 x5).bind fun t666 => (if t666 ≥ (wrap64 (2 * x5)) then (if x3.length < 5864062014805 then (spec_SquaresOf.l1 k x0 (x3 ++ [(⟨x4, x5, wrap64 (2 * x5)⟩ : S39)]) x4 (wrap64 (x5 + 1))) else (none)) else (spec_SquaresOf.l1 k x0 x3 x4 (wrap64 (x5 + 1))))) else (spec_SquaresOf.l0 k x0 x3 (wrap64 (x4 + 1)))
end
def spec_SquaresOf.f (k : Nat) (l0 : List Int) : Option ((List (S39))) := (some (([] : List (S39)) : List (S39))).bind fun y663 => (if (l0.length : Int) > 64 then (some y663) else (spec_SquaresOf.l0 k l0 y663 0))
theorem spec_SquaresOf.calls (k : Nat) (A0 : Option Addr) (c0 : Nat) (l0 : List Int) (r : List (S39)) (w : World) (hr0 : Kd.C (Kd.int .i64) w A0 l0.length l0) (hc0 : l0.length ≤ c0) (h : spec_SquaresOf.f k l0 = some r) :
  Calls Tryz.prog 15 #[.slice A0 l0.length c0] w fun e w' => ∃ v0_ : Value, e = .returned (v0_) ∧ Kd.R k39 39 w' w.heap.size (fun _ => True) v0_ r ∧ Below w.heap.size w w' := by
 have hu39 := Tryz.underlying39
 have HR0 := G.a hr0
 have HC0 := G.a hc0
 clear hr0 hc0
 have HB := G.a (Below.refl w.heap.size w)
 have H : ((some (([] : List (S39)) : List (S39))).bind fun y663 => (if (l0.length : Int) > 64 then (some y663) else (spec_SquaresOf.l0 k l0 y663 0))) = some r := h
 clear h
 obtain ⟨y663, hy663⟩ : ∃ y_ : List (S39), y_ = (([] : List (S39))) := ⟨_, rfl⟩
 replace H : (if (l0.length : Int) > 64 then (some y663) else (spec_SquaresOf.l0 k l0 y663 0)) = some r := by first | (rw [hy663]; with_reducible exact H) | (have H2_ := (Option.bind_some _ _).symm.trans H; rw [hy663]; with_reducible exact H2_) | (have H2_ := (Option.bind_some _ _).symm.trans H; with_reducible exact H2_) | with_reducible exact H | (rw [hy663]; exact H) | exact H
 have Ny663 := G.a hy663
 clear hy663
 by_cases c2 : (l0.length : Int) > 64
 ·rw [if_pos c2] at H
  have c2b0 : decide (64 < (l0.length : Int)) = true := decide_eq_true c2
  have c2b1 : decide (64 < l0.length) = true := decide_eq_true (by omega)
  clear c2
  obtain rfl := Option.some.inj H
  go_enter Tryz.func15, Tryz.ntmps15
  go_wp2_with (first | ((with_reducible refine gate_dst (N := 6) rfl ?_); refine Kd.R_lit k39 _ 39 ?hg (N := 6) ?hd (xs := ([] : List (S39))) (inner := []) (ok := fun _ => True) (okp := fun _ => True) ?hr ?hp (fun _ hk => hk) trivial (Below.refl _ _) (Nat.le_refl _) (by simp) ?_; (case hd => rfl); (case hg => rfl); (case hr => first | (go_simp; done) | (go_simp; rfl)); (case hp => exact (Reps.none _ _)); intro v664 w3 ho4 hb hg_ hnew_; clear hg_ hnew_; (first | rw [← Ny663.out] at ho4 | (simp only [Int.reduceToNat] at ho4; rw [← Ny663.out] at ho4)); have n0_ := G.a (Kd.R_lower ho4 (below_size G.bel)); have n1_ := G.a (below_step G.bel hb); clear HB; have HO665 := n0_; have HB := n1_; clear n0_ n1_; clear hb ho4))
  go_ret
  exact ⟨_, G.er, G.kR HO665.out, G.bel⟩
 ·rw [if_neg c2] at H
  have c2b0 : decide (64 < (l0.length : Int)) = false := decide_eq_false c2
  have c2b1 : decide (64 < l0.length) = false := decide_eq_false (by omega)
  clear c2
  have H' := G.a H
  clear H
  go_enter Tryz.func15, Tryz.ntmps15
  go_wp2_with (first | ((with_reducible refine gate_dst (N := 6) rfl ?_); refine Kd.R_lit k39 _ 39 ?hg (N := 6) ?hd (xs := ([] : List (S39))) (inner := []) (ok := fun _ => True) (okp := fun _ => True) ?hr ?hp (fun _ hk => hk) trivial (Below.refl _ _) (Nat.le_refl _) (by simp) ?_; (case hd => rfl); (case hg => rfl); (case hr => first | (go_simp; done) | (go_simp; rfl)); (case hp => exact (Reps.none _ _)); intro v664 w5 ho6 hb hg_ hnew_; clear hg_ hnew_; (first | rw [← Ny663.out] at ho6 | (simp only [Int.reduceToNat] at ho6; rw [← Ny663.out] at ho6)); have n0_ := G.a (Kd.R_lower ho6 (below_size G.bel)); have n1_ := G.a (below_step G.bel hb); clear HB; have HO665 := n0_; have HB := n1_; clear n0_ n1_; clear hb ho6))
  go_loopg [3, 4] k (fun kq v3 v4 w' => ∃ (x3_1 : List (S39)) (x4_1 : Int), v4 = .int .i64 x4_1 ∧ Aside0 (spec_SquaresOf.l0 kq l0 x3_1 x4_1 = some r) ∧ Aside0 (kq ≤ k) ∧ Aside0 (Kd.R k39 39 w' w.heap.size (fun _ => True) v3 x3_1) ∧ Aside0 (Below w.heap.size w w'))
  case atStart => exact ⟨(y663), (0), G.tr, H', ⟨Nat.le_refl _⟩, ⟨G.kR HO665.out⟩, ⟨G.bel⟩⟩
  case round =>
   clear H'
   try clear c1; try clear c2; try clear c2b0; try clear c2b1; try clear p2
   obtain ⟨x3_1, x4_1, rfl, HA, HK1, HO_3, HB⟩ := hrel
   cases gk with
   | zero => exact absurd HA.out (by simp [spec_SquaresOf.l0])
   | succ k1 =>
    have H := HA.out
    clear HA
    simp only [spec_SquaresOf.l0] at H
    by_cases c7 : x4_1 < (l0.length : Int)
    ·rw [if_pos c7] at H
     have c7b0 : decide (x4_1 < (l0.length : Int)) = true := decide_eq_true c7
     clear c7
     have H' := G.a H
     clear H
     go_wp2
     go_loopg [3, 5] k1 (fun kq v3 v5 w' => ∃ (x3_2 : List (S39)) (x5_2 : Int), v5 = .int .i64 x5_2 ∧ Aside0 (spec_SquaresOf.l1 kq l0 x3_2 x4_1 x5_2 = some r) ∧ Aside0 (kq ≤ k1) ∧ Aside0 (Kd.R k39 39 w' w.heap.size (fun _ => True) v3 x3_2) ∧ Aside0 (Below w.heap.size w w'))
     case atStart => exact ⟨(x3_1), (1), G.tr, H', ⟨Nat.le_refl _⟩, ⟨G.kR HO_3.out⟩, ⟨G.bel⟩⟩
     case round =>
      clear H'
      try clear c1; try clear c2; try clear c2b0; try clear c2b1; try clear p2; try clear c7; try clear c7b0; try clear p2
      obtain ⟨x3_2, x5_2, rfl, HA, HK2, HO_3, HB⟩ := hrel
      cases gk with
      | zero => exact absurd HA.out (by simp [spec_SquaresOf.l1])
      | succ k2 =>
       have H := HA.out
       clear HA
       simp only [spec_SquaresOf.l1] at H
       by_cases c8 : (wrap64 (x4_1 + (wrap64 (2 * x5_2)))) ≤ (l0.length : Int)
       ·rw [if_pos c8] at H
        have c8b0 : decide ((wrap64 (x4_1 + (wrap64 (2 * x5_2)))) ≤ (l0.length : Int)) = true := decide_eq_true c8
        clear c8
        obtain ⟨t666, A9, H⟩ := G.bx H
        by_cases c10 : t666 ≥ (wrap64 (2 * x5_2))
        ·rw [if_pos c10] at H
         have c10b0 : decide ((wrap64 (2 * x5_2)) ≤ t666) = true := decide_eq_true c10
         clear c10
         by_cases c11 : x3_2.length < 5864062014805
         ·rw [if_pos c11] at H
          have LMc11 := G.a c11
          clear c11
          obtain ⟨y667, hy667⟩ : ∃ y_ : List (S39), y_ = (x3_2 ++ [(⟨x4_1, x5_2, wrap64 (2 * x5_2)⟩ : S39)]) := ⟨_, rfl⟩
          replace H : (spec_SquaresOf.l1 k2 l0 y667 x4_1 (wrap64 (x5_2 + 1))) = some r := by first | (rw [hy667]; with_reducible exact H) | (have H2_ := (Option.bind_some _ _).symm.trans H; rw [hy667]; with_reducible exact H2_) | (have H2_ := (Option.bind_some _ _).symm.trans H; with_reducible exact H2_) | with_reducible exact H | (rw [hy667]; exact H) | exact H
          have Ny667 := G.a hy667
          clear hy667
          have H' := G.a H
          clear H
          go_wp2_with (first | ((with_reducible refine gate_callee (f := 34) rfl ?_); refine goesL_ (some 29) rfl rfl Tryz.func34 (by kernel_rfl) rfl #[.slice A0 l0.length c0, .int .i64 x4_1, .int .i64 x5_2] rfl G.ar ?_; (with_reducible refine (spec_l10Match.calls k2 _ _ l0 x4_1 x5_2 t666 _ ?side1 ?side2 A9.out).mono ?_); (case side1 => exact G.kC (Kd.C_below HR0.out HB.out)); (case side2 => exact HC0.out); rintro e w12 ⟨rfl, hb⟩; refine ⟨_, rfl, ?_⟩; have n0_ := G.a (Kd.R_below (G.kR HO_3.out) hb); have n1_ := G.a (below_step G.bel hb); clear HO_3; clear HB; have HO_3 := n0_; have HB := n1_; clear n0_ n1_; (try clear hb); (try clear hb2); (try clear hk); (try clear hi)) | ((with_reducible refine gate_builtin (b := .append) (xs := #[.tmp 33, .tmp 39]) rfl ?_); at_builtin; refine Kd.R_append k39 (w0 := w) w.heap.size rfl (.tmp 33) (.tmp 39) 36 39 (.agg #[(.int .i64 0), (.int .i64 0), (.int .i64 0)]) 24 rfl Tryz.underlying36 info39 rfl (by decide) (by omega) u3 x3_2 (⟨x4_1, x5_2, wrap64 (2 * x5_2)⟩ : S39) [.int .i64 x4_1, .int .i64 x5_2, .int .i64 (wrap64 (2 * x5_2))] (fun _ => True) (fun _ => False) rfl rfl ?aP (fun _ hk => hk.elim) ?aF ?aO ?aB ?aS ?aL ?_; (case aP => exact k39_mkM _ _ _ (⟨x4_1, x5_2, wrap64 (2 * x5_2)⟩ : S39)); (case aB => exact G.bel); (case aF => exact (fun _ _ => trivial)); (case aO => exact (G.kR HO_3.out)); (case aS => exact (below_size G.bel)); (case aL => have := LMc11.out; omega); intro v668 w13 ho hb hg hat; rw [← Ny667.out] at ho; have n0_ := G.a (hb); have n1_ := G.a (ho); clear HB; clear HO_3; have HB := n0_; have HO669 := n1_; clear n0_ n1_; clear ho hb hg hat))
          go_roundg k2
          case measure => have := HK1.out; have := HK2.out; omega
          case rel => exact ⟨(y667), (wrap64 (x5_2 + 1)), G.tr, H', ⟨by have := HK1.out; have := HK2.out; omega⟩, ⟨G.kR HO669.out⟩, ⟨G.bel⟩⟩
         ·rw [if_neg c11] at H
          exact absurd H (by simp)
        ·rw [if_neg c10] at H
         have c10b0 : decide ((wrap64 (2 * x5_2)) ≤ t666) = false := decide_eq_false c10
         clear c10
         have H' := G.a H
         clear H
         go_wp2_with (first | ((with_reducible refine gate_callee (f := 34) rfl ?_); refine goesL_ (some 29) rfl rfl Tryz.func34 (by kernel_rfl) rfl #[.slice A0 l0.length c0, .int .i64 x4_1, .int .i64 x5_2] rfl G.ar ?_; (with_reducible refine (spec_l10Match.calls k2 _ _ l0 x4_1 x5_2 t666 _ ?side1 ?side2 A9.out).mono ?_); (case side1 => exact G.kC (Kd.C_below HR0.out HB.out)); (case side2 => exact HC0.out); rintro e w14 ⟨rfl, hb⟩; refine ⟨_, rfl, ?_⟩; have n0_ := G.a (Kd.R_below (G.kR HO_3.out) hb); have n1_ := G.a (below_step G.bel hb); clear HO_3; clear HB; have HO_3 := n0_; have HB := n1_; clear n0_ n1_; (try clear hb); (try clear hb2); (try clear hk); (try clear hi)))
         go_roundg k2
         case measure => have := HK1.out; have := HK2.out; omega
         case rel => exact ⟨(x3_2), (wrap64 (x5_2 + 1)), G.tr, H', ⟨by have := HK1.out; have := HK2.out; omega⟩, ⟨G.kR HO_3.out⟩, ⟨G.bel⟩⟩
       ·rw [if_neg c8] at H
        have c8b0 : decide ((wrap64 (x4_1 + (wrap64 (2 * x5_2)))) ≤ (l0.length : Int)) = false := decide_eq_false c8
        clear c8
        have H' := G.a H
        clear H
        go_wp2
        go_roundg k2
        case measure => have := HK1.out; have := HK2.out; omega
        case rel => exact ⟨(x3_2), (wrap64 (x4_1 + 1)), G.tr, H', ⟨by have := HK1.out; have := HK2.out; omega⟩, ⟨G.kR HO_3.out⟩, ⟨G.bel⟩⟩
    ·rw [if_neg c7] at H
     have c7b0 : decide (x4_1 < (l0.length : Int)) = false := decide_eq_false c7
     clear c7
     obtain rfl := Option.some.inj H
     go_wp2
     go_ret
     exact ⟨_, G.er, G.kR HO_3.out, G.bel⟩
section
open Go.Proofs.YtolikggioekalabGreat.G
def RNok : Prop := ∀ u : List Int, u.length ≤ 1001 → ∃ r : List S32, Ev (fun k => spec_RunsOf.f k u) r ∧ r.length ≤ 100000 ∧ ∀ x ∈ r, (-1048576 ≤ x.f0 ∧ x.f0 ≤ 1048576) ∧ (-1048576 ≤ x.f1 ∧ x.f1 ≤ 1048576) ∧ (-1048576 ≤ x.f2 ∧ x.f2 ≤ 1048576)
theorem spec_l8Any.anyW (g : Nat) (l : List Int) (i h : Int) (w0 w : World) (hI : IsS58 w0 w g l i h) (hB : Below w0.heap.size w0 w) (hbd : l.length ≤ 1048576 ∧ 0 ≤ i ∧ i ≤ 1048576) :
  Calls Tryz.prog 23 #[.pointer (some ⟨g, 0, none⟩)] w fun e w' => ∃ (v : Value) (t l' : List Int) (i' h' : Int), (l'.length ≤ 1048576 ∧ 0 ≤ i' ∧ i' ≤ 1048576) ∧ t.length ≤ 1001 ∧ e = .returned v ∧ Kd.R (Kd.int .i64) 3 w' w.heap.size (fun _ => True) v t ∧ IsS58 w0 w' g l' i' h' ∧ Below w0.heap.size w0 w' ∧ KeepBut w w' g none := by
 refine (spec_l8Any.any w0 w g ⟨⟨l, i, h, hI, hbd⟩, hB⟩ hB.size).mono ?_
 rintro e w' ⟨⟨v, he, t, hr, hl⟩, ⟨⟨l', i', h', hI', hbd'⟩, hB'⟩, hk⟩
 exact ⟨v, t, l', i', h', hbd', hl, he, hr, hI', hB', hk⟩
theorem spec_l1New.boxW (A0 : Option Addr) (c0 : Nat) (l0 : List Int) (w0 w : World) (hB : Below w0.heap.size w0 w) (hr0 : Kd.C (Kd.int .u8) w0 A0 l0.length l0) (hc0 : l0.length ≤ c0) (hl : l0.length ≤ 1048576) :
  Calls Tryz.prog 24 #[.slice A0 l0.length c0] w fun e w' => ∃ (g_ : Nat) (l : List Int) (i h : Int), (l.length ≤ 1048576 ∧ 0 ≤ i ∧ i ≤ 1048576) ∧ e = .returned (.pointer (some ⟨g_, 0, none⟩)) ∧ IsS58 w0 w' g_ l i h ∧ Below w0.heap.size w0 w' ∧ Below w.heap.size w w' := by
 refine (spec_l1New.box A0 c0 l0 w (Kd.C_below hr0 hB) hc0 hl).mono ?_
 rintro e w' ⟨g, h, he, hbx, hge, hb⟩
 exact ⟨g, l0, 0, h, ⟨hl, by omega, by omega⟩, he, ⟨A0, c0, hbx, Nat.le_trans hB.size hge, hr0⟩, below_step hB hb, hb⟩
theorem below_anyR {l : List Int} {i h : Int} (n : Int) (hl : l.length ≤ 1048576) (h0 : 0 ≤ i) (h1 : i ≤ 1048576) (hn : n ≤ 100000) : ∃ r j k, spec_l1Below.f l i h n = some (r, j, k) ∧ 0 ≤ r ∧ (1 ≤ n → r < n) ∧ 0 ≤ j ∧ j ≤ 1048576 := by
 by_cases c : n ≤ 256
 ·obtain ⟨r, j, k, e, g1, g2, g3, g4, g5⟩ := below_some (h := h) n hl h0 h1 c
  exact ⟨r, j, k, e, g1, g3, g4, g5⟩
 ·obtain ⟨x, j1, k1, e1, a1, a2, a3, a4⟩ := byte_some (h := h) hl h0 h1
  obtain ⟨y, j2, k2, e2, b1, b2, b3, b4⟩ := byte_some (h := k1) hl a3 a4
  obtain ⟨z, j3, k3, e3, c1, c2, c3, c4⟩ := byte_some (h := k2) hl b3 b4
  obtain ⟨u, j4, k4, e4, d1, d2, d3, d4⟩ := byte_some (h := k3) hl c3 c4
  unfold spec_l1Below.f
  rw [if_neg (by omega), if_neg (by omega)]
  simp only [e1, e2, e3, e4, Option.bind_some]
  rw [if_neg (by omega)]
  have w1 : wrap64 (x * 16777216) = x * 16777216 := by unfold wrap64; omega
  have w2 : wrap64 (y * 65536) = y * 65536 := by unfold wrap64; omega
  have w3 : wrap64 (z * 256) = z * 256 := by unfold wrap64; omega
  rw [w1, w2, w3]
  have w4 : wrap64 (x * 16777216 + y * 65536) = x * 16777216 + y * 65536 := by unfold wrap64; omega
  rw [w4]
  have w5 : wrap64 (x * 16777216 + y * 65536 + z * 256) = x * 16777216 + y * 65536 + z * 256 := by unfold wrap64; omega
  rw [w5]
  have w6 : wrap64 (x * 16777216 + y * 65536 + z * 256 + u) = x * 16777216 + y * 65536 + z * 256 + u := by unfold wrap64; omega
  rw [w6]
  have hv : 0 ≤ x * 16777216 + y * 65536 + z * 256 + u := by omega
  generalize x * 16777216 + y * 65536 + z * 256 + u = v at hv
  refine ⟨_, _, _, rfl, ?_⟩
  rw [Int.tmod_eq_emod_of_nonneg hv]
  have a1 := Int.emod_nonneg v (show n ≠ 0 by omega)
  have a2 := Int.emod_lt_of_pos v (show 0 < n by omega)
  exact ⟨a1, fun _ => a2, d3, d4⟩
def spec_l12Both.j0 : Nat → List Int → List (S32) → Bool → List Int → Int → Int → Option (List Int × Int × Int × Int)
 | 0, _, _, _, _, _, _ => none
 | k + 1, x5, x6, x21, x675000, x675001, x675002 => if x21 = true then ((spec_l1Below.f x675000 x675001 x675002 (x6.length : Int)).bind fun bt686 => (if 0 ≤ bt686.1 then (if bt686.1 < (x6.length : Int) then (some (x5, (rd_T32 x6 bt686.1).f0, (rd_T32 x6 bt686.1).f1, (rd_T32 x6 bt686.1).f2)) else (none)) else (none))) else ((spec_l1Below.f x675000 x675001 x675002 5).bind fun bt690 => ((spec_l1Below.f x675000 bt690.2.1 bt690.2.2 8).bind fun bt693 => ((spec_l1Below.f x675000 bt693.2.1 bt693.2.2 4).bind fun bt696 => (some (x5, wrap64 (bt690.1 - 1), wrap64 ((wrap64 (bt690.1 - 1)) + bt693.1), bt696.1)))))
def spec_l12Both.T5 : Bool × List (List Nat × List Nat) := (true, [([], []), ([], []), ([], []), ([], []), ([3], [3]), ([2, 4], [2, 4]), ([1, 5], [1, 5]), ([6], [6]), ([0, 5, 0], [0]), ([7, 8, 0, 1, 2, 3, 4, 5, 6, 7, 8], [7])])
def spec_l12Both.B5 : List Nat := [0, 0, 0, 0, 8, 28, 62, 126, 61, 511]
theorem spec_l12Both.tab5 : rtab .any (opsOf Tryz.f35 5) = spec_l12Both.T5 := by kernel_rfl
theorem spec_l12Both.bits5 : waitsOk spec_l12Both.T5.2 spec_l12Both.B5 = true := by kernel_rfl
theorem spec_l12Both.tells (hRN : RNok) (t675 : List Int) (ht : t675.length ≤ 1001) (t671 : List Int) (t678 t679 : Int) (hl : t671.length ≤ 1048576) (h0 : 0 ≤ t678) (h1 : t678 ≤ 1048576) : ∃ (k : Nat) (r1 : List Int) (r2 : Int) (r3 : Int) (r4 : Int), ((spec_RunsOf.f k t675).bind fun t680 => (if (t680.length : Int) > 0 then ((spec_l1Once.f t671 t678 t679 4).bind fun bt683 => (spec_l12Both.j0 k t675 t680 (!bt683.1) t671 bt683.2.1 bt683.2.2)) else (spec_l12Both.j0 k t675 t680 false t671 t678 t679))) = some (r1, r2, r3, r4) ∧ r1.length ≤ 1001 ∧ (-1048576 ≤ r2 ∧ r2 ≤ 1048576) ∧ (-1048576 ≤ r3 ∧ r3 ≤ 1048576) ∧ (-1048576 ≤ r4 ∧ r4 ≤ 1048576) := by
 obtain ⟨R, hR, hRl, hRf⟩ := hRN t675 ht
 obtain ⟨K, eK⟩ := hR
 have part : ∀ (b : Bool) (i' h' : Int) (k : Nat), 0 ≤ i' → i' ≤ 1048576 → (b = true → 1 ≤ R.length) → ∃ r2 r3 r4, spec_l12Both.j0 (k + 1) t675 R b t671 i' h' = some (t675, r2, r3, r4) ∧ (-1048576 ≤ r2 ∧ r2 ≤ 1048576) ∧ (-1048576 ≤ r3 ∧ r3 ≤ 1048576) ∧ (-1048576 ≤ r4 ∧ r4 ≤ 1048576) := by
  intro b i' h' k h0 h1 hb
  simp only [spec_l12Both.j0]
  cases b with
  | true =>
   obtain ⟨n, j2, k2, e2, n1, n2, n3, n4⟩ := below_anyR (h := h') (R.length : Int) hl h0 h1 (by omega)
   have hn := n2 (by have := hb rfl; omega)
   rw [if_pos rfl, e2]
   simp only [Option.bind_some]
   rw [if_pos n1, if_pos hn]
   have hx : rd_T32 R n ∈ R := by
    unfold rd_T32
    rw [List.getD_eq_getElem?_getD, List.getElem?_eq_getElem (show n.toNat < R.length by omega)]
    exact List.getElem_mem _
   exact ⟨_, _, _, rfl, hRf _ hx⟩
  | false =>
   obtain ⟨a, j2, k2, e2, a1, a2, a3, a4⟩ := below_anyR (h := h') 5 hl h0 h1 (by omega)
   obtain ⟨b, j3, k3, e3, b1, b2, b3, b4⟩ := below_anyR (h := k2) 8 hl a3 a4 (by omega)
   obtain ⟨c, j4, k4, e4, c1, c2, c3, c4⟩ := below_anyR (h := k3) 4 hl b3 b4 (by omega)
   have ha := a2 (by omega)
   have hb := b2 (by omega)
   have hc := c2 (by omega)
   have w1 : wrap64 (a - 1) = a - 1 := by unfold wrap64; omega
   have w2 : wrap64 (a - 1 + b) = a - 1 + b := by unfold wrap64; omega
   rw [if_neg (by simp)]
   simp only [e2, e3, e4, Option.bind_some, w1, w2]
   exact ⟨_, _, _, rfl, by omega, by omega, by omega⟩
 have e1 : spec_RunsOf.f (K + 1) t675 = some R := eK (K + 1) (by omega)
 refine ⟨K + 1, t675, ?_⟩
 rw [e1]
 simp only [Option.bind_some]
 by_cases c : (R.length : Int) > 0
 ·obtain ⟨n, j1, k1, e3, n1, n2, n3, n4⟩ := below_anyR (h := t679) 4 hl h0 h1 (by omega)
  have e2 : spec_l1Once.f t671 t678 t679 4 = some (n == 0, j1, k1) := by unfold spec_l1Once.f; rw [e3]; rfl
  obtain ⟨r2, r3, r4, e, hr⟩ := part (!(n == 0)) j1 k1 K n3 n4 (fun _ => by omega)
  refine ⟨r2, r3, r4, ?_, ht, hr⟩
  rw [if_pos c, e2]
  exact e
 ·obtain ⟨r2, r3, r4, e, hr⟩ := part false t678 t679 K h0 h1 (fun h_ => absurd h_ (by simp))
  exact ⟨r2, r3, r4, by rw [if_neg c]; exact e, ht, hr⟩
theorem spec_l12Both.any (A0 : Option Addr) (c0 : Nat) (l0 : List Int) (w : World) (hr0 : Kd.C (Kd.int .u8) w A0 l0.length l0) (hc0 : l0.length ≤ c0) (hl0 : l0.length ≤ 1048576) (hRN : RNok) :
  Calls Tryz.prog 35 #[.slice A0 l0.length c0] w fun e w' => ∃ (r1 : List Int) (r2 : Int) (r3 : Int) (r4 : Int) (v0_ : Value), (r1.length ≤ 1001 ∧ (-1048576 ≤ r2 ∧ r2 ≤ 1048576) ∧ (-1048576 ≤ r3 ∧ r3 ≤ 1048576) ∧ (-1048576 ≤ r4 ∧ r4 ≤ 1048576)) ∧ e = .returned (.tuple #[v0_, .agg #[.int .i64 r2, .int .i64 r3, .int .i64 r4]]) ∧ Kd.R (Kd.int .i64) 3 w' w.heap.size (fun _ => True) v0_ r1 ∧ Below w.heap.size w w' := by
 have hu32 := Tryz.underlying32
 have HR0 := G.a hr0
 have HC0 := G.a hc0
 clear hr0 hc0
 have HB := G.a (Below.refl w.heap.size w)
 have HL_ := G.a hl0
 have HRN_ := G.a hRN
 clear hl0 hRN
 go_enter Tryz.func35, Tryz.ntmps35
 go_upto_region 3 with (first | ((with_reducible refine gate_dst (N := 3) rfl ?_); refine box_event ?hg (N := 3) ?hd (cs := #[.int .i64 0, .int .i64 0, .int .i64 0]) (t := 32) ?hr ?_; (case hd => rfl); (case hg => rfl); (case hr => first | (go_simp; done) | (go_simp; rfl)); intro gb670 hg w6 hbox hb; have n0_ := G.a (below_step G.bel hb); have n1_ := G.a (hbox); have n2_ := G.a ((by rw [hg]; exact (below_size G.bel) : w.heap.size ≤ gb670)); have n3_ := G.a ((by rw [hg]; exact (below_size G.bel) : w.heap.size ≤ gb670)); clear HB; have HB := n0_; have BK670 := n1_; have GW670 := n2_; have GE670 := n3_; clear n0_ n1_ n2_ n3_; clear hb hbox hg) | ((with_reducible refine gate_callee (f := 24) rfl ?_); refine goesL_ (some 9) rfl rfl Tryz.func24 (by kernel_rfl) rfl #[.slice A0 l0.length c0] rfl G.ar ?_; (with_reducible refine (spec_l1New.boxW A0 c0 l0 w _ ?side1 ?side2 ?side3 HL_.out).mono ?_); (case side1 => repeat (first | (with_reducible first | exact HB.out | apply below_alloc | apply pw_below_drewN | apply below_drew1 | refine below_set ?_ GE670.out) | exact HB.out)); (case side2 => exact HR0.out); (case side3 => exact HC0.out); rintro e w7 ⟨g674, t671, t672, t673, hbd_, rfl, hi, hb, hb2⟩; refine ⟨_, rfl, ?_⟩; have HBD_ := G.a hbd_; clear hbd_; have n0_ := G.a (blk_below (g := gb670) (o := .cells #[.int .i64 0, .int .i64 0, .int .i64 0] 32 (0, 0)) (G.kB BK670.out) hb2); have n1_ := G.a (hb); have n2_ := G.a (hi); have n3_ := G.a (IsS58.ne_blk hi (blk_below (g := gb670) (o := .cells #[.int .i64 0, .int .i64 0, .int .i64 0] 32 (0, 0)) (G.kB BK670.out) hb2) (by decide)); have n4_ := G.a (Ne.symm (IsS58.ne_blk hi (blk_below (g := gb670) (o := .cells #[.int .i64 0, .int .i64 0, .int .i64 0] 32 (0, 0)) (G.kB BK670.out) hb2) (by decide))); clear BK670; clear HB; have BK670 := n0_; have HB := n1_; have HI674 := n2_; have NB674_670 := n3_; have NB670_674 := n4_; clear n0_ n1_ n2_ n3_ n4_; (try clear hb); (try clear hb2); (try clear hk); (try clear hi)) | ((with_reducible refine gate_callee (f := 23) rfl ?_); refine goesL_ (some 11) rfl rfl Tryz.func23 (by kernel_rfl) rfl #[.pointer (some ⟨g674, 0, none⟩)] rfl G.ar ?_; (with_reducible refine (spec_l8Any.anyW g674 t671 t672 t673 w _ ?side1 ?side2 HBD_.out).mono ?_); (case side1 => repeat (first | (with_reducible first | exact HI674.out | apply IsS58.alloc | apply IsS58.drewN | apply IsS58.drew | apply IsS58.set_1 | apply IsS58.set_2 | refine IsS58.far ?_ NB674_670.out _) | exact HI674.out)); (case side2 => repeat (first | (with_reducible first | exact HB.out | apply below_alloc | apply pw_below_drewN | apply below_drew1 | refine below_set ?_ (IsS58.ge HI674.out) | refine below_set ?_ GE670.out) | exact HB.out)); rintro e w8 ⟨v676, t675, t671, t678, t679, hbd_, hln_, rfl, ho0, hi, hb, hk⟩; refine ⟨_, rfl, ?_⟩; clear HBD_; have HBD_ := G.a hbd_; have HT_ := G.a hln_; clear hbd_ hln_; have n0_ := G.a (KeepBut.blk hk (g' := gb670) (o := .cells #[.int .i64 0, .int .i64 0, .int .i64 0] 32 (0, 0)) (G.kB BK670.out) NB670_674.out (by simp)); have n1_ := G.a (Kd.R_lower ho0 (below_size (by repeat (first | (with_reducible first | exact HB.out | apply below_alloc | apply pw_below_drewN | apply below_drew1 | refine below_set ?_ (IsS58.ge HI674.out) | refine below_set ?_ GE670.out) | exact HB.out)))); have n2_ := G.a (hb); have n3_ := G.a (hi); clear BK670; clear HB; clear HI674; have BK670 := n0_; have HO677 := n1_; have HB := n2_; have HI674 := n3_; clear n0_ n1_ n2_ n3_; (try clear hb); (try clear hb2); (try clear hk); (try clear hi); (try clear ho0); obtain ⟨Ao9, co9, eo9⟩ := Kd.R_slice HO677.out; subst eo9))
 obtain ⟨k, r1, r2, r3, r4, H, hok_⟩ := spec_l12Both.tells HRN_.out t675 HT_.out t671 t678 t679 HBD_.out.1 HBD_.out.2.1 HBD_.out.2.2
 have HOK_ := G.a hok_
 clear hok_
 obtain ⟨t680, A4, H⟩ := G.bx H
 have HC5 := G.a H
 clear H
 go_upto_region 4 with (first | ((with_reducible refine gate_callee (f := 7) rfl ?_); refine goesL_ (some 13) rfl rfl Tryz.func7 (by kernel_rfl) rfl #[.slice Ao9 t675.length co9] rfl G.ar ?_; (with_reducible refine (spec_RunsOf.calls k _ _ t675 t680 _ ?side1 ?side2 A4.out).mono ?_); (case side1 => repeat (first | exact (Kd.R_reads' HO677.out).2.2 | (with_reducible refine Kd.C_alloc ?_ _) | (with_reducible refine Kd.C_drewN ?_ _) | (with_reducible refine Kd.C_drew ?_))); (case side2 => exact (Kd.R_reads' HO677.out).2.1); rintro e w10 ⟨v681, rfl, ho0, hb⟩; refine ⟨_, rfl, ?_⟩; have n0_ := G.a (Kd.R_below (G.kR HO677.out) hb); have n1_ := G.a (Kd.R_lower (Kd.R_newB ho0 (g := gb670) (o := .cells #[.int .i64 0, .int .i64 0, .int .i64 0] 32 (0, 0)) (G.kB BK670.out)) (below_size (by repeat (first | (with_reducible first | exact HB.out | apply below_alloc | apply pw_below_drewN | apply below_drew1 | refine below_set ?_ (IsS58.ge HI674.out) | refine below_set ?_ GE670.out) | exact HB.out)))); have n2_ := G.a (blk_below (g := gb670) (o := .cells #[.int .i64 0, .int .i64 0, .int .i64 0] 32 (0, 0)) (G.kB BK670.out) hb); have n3_ := G.a (IsS58.below (by repeat (first | (with_reducible first | exact HI674.out | apply IsS58.alloc | apply IsS58.drewN | apply IsS58.drew | apply IsS58.set_1 | apply IsS58.set_2 | refine IsS58.far ?_ NB674_670.out _) | exact HI674.out)) hb); have n4_ := G.a (below_step (by repeat (first | (with_reducible first | exact HB.out | apply below_alloc | apply pw_below_drewN | apply below_drew1 | refine below_set ?_ (IsS58.ge HI674.out) | refine below_set ?_ GE670.out) | exact HB.out)) hb); clear HO677; clear BK670; clear HI674; clear HB; have HO677 := n0_; have HO682 := n1_; have BK670 := n2_; have HI674 := n3_; have HB := n4_; clear n0_ n1_ n2_ n3_ n4_; (try clear hb); (try clear hb2); (try clear hk); (try clear hi); (try clear ho0)))
 (try simp only [Act.put, List.setIfInBounds_toArray, List.set_cons_zero, List.set_cons_succ])
 go_cut [21] (fun v21 wc => ∃ (kq : Nat) (x21_4 : Bool) (x675001_4 : Int) (x675002_4 : Int), v21 = .bool x21_4 ∧ Aside0 (spec_l12Both.j0 kq t675 t680 x21_4 t671 x675001_4 x675002_4 = some (r1, r2, r3, r4)) ∧ Aside0 (kq ≤ k) ∧ Aside0 (Kd.R (Kd.int .i64) 3 wc w.heap.size (fun _ => True) (.slice Ao9 t675.length co9) t675) ∧ Aside0 (Kd.R k32 32 wc w.heap.size (fun k_ => k_ ≠ gb670) v681 t680) ∧ Aside0 (wc.heap[gb670]? = some (.cells #[.int .i64 0, .int .i64 0, .int .i64 0] 32 (0, 0))) ∧ Aside0 (IsS58 w wc g674 t671 x675001_4 x675002_4) ∧ Aside0 (Below w.heap.size w wc))
 case first =>
  have H := HC5.out
  clear HC5
  by_cases c11 : (t680.length : Int) > 0
  ·rw [if_pos c11] at H
   have c11b0 : decide (0 < (t680.length : Int)) = true := decide_eq_true c11
   have c11b1 : decide (0 < t680.length) = true := decide_eq_true (by omega)
   clear c11
   (first | rw [c11b0] | (simp only [i64_w, i32_w]; rw [c11b0]) | skip)
   obtain ⟨⟨t683, t684, t685⟩, A12, H⟩ := G.bx H
   replace H : (spec_l12Both.j0 k t675 t680 (!t683) t671 t684 t685) = some (r1, r2, r3, r4) := H
   have H' := G.a H
   clear H
   obtain ⟨Ao13, co13, eo13⟩ := Kd.R_slice HO682.out
   subst eo13
   go_wp2_with (first | (go_at_call 38; (with_reducible refine (spec_l1Once.calls g674 t671 t678 t679 4 t683 t684 t685 w _ ?side1 ?side2 A12.out).mono ?_); (case side1 => repeat (first | (with_reducible first | exact HI674.out | apply IsS58.alloc | apply IsS58.drewN | apply IsS58.drew | apply IsS58.set_1 | apply IsS58.set_2 | refine IsS58.far ?_ NB674_670.out _) | exact HI674.out)); (case side2 => repeat (first | (with_reducible first | exact HB.out | apply below_alloc | apply pw_below_drewN | apply below_drew1 | refine below_set ?_ (IsS58.ge HI674.out) | refine below_set ?_ GE670.out) | exact HB.out)); rintro e w14 ⟨rfl, hi, hb, hk⟩; have n0_ := G.a (KeepBut.blk hk (g' := gb670) (o := .cells #[.int .i64 0, .int .i64 0, .int .i64 0] 32 (0, 0)) (G.kB BK670.out) NB670_674.out (by simp)); have n1_ := G.a (Kd.R_mono (Kd.R_keep (IsS58.apart (show IsS58 w _ g674 t671 t678 t679 from by repeat (first | (with_reducible first | exact HI674.out | apply IsS58.alloc | apply IsS58.drewN | apply IsS58.drew | apply IsS58.set_1 | apply IsS58.set_2 | refine IsS58.far ?_ NB674_670.out _) | exact HI674.out)) (G.kR HO677.out) (by decide)) hk (fun _ h => h.2)) (fun _ h => h.1)); have n2_ := G.a (Kd.R_mono (Kd.R_keep (IsS58.apart (show IsS58 w _ g674 t671 t678 t679 from by repeat (first | (with_reducible first | exact HI674.out | apply IsS58.alloc | apply IsS58.drewN | apply IsS58.drew | apply IsS58.set_1 | apply IsS58.set_2 | refine IsS58.far ?_ NB674_670.out _) | exact HI674.out)) (G.kR HO682.out) (by decide)) hk (fun _ h => h.2)) (fun _ h => h.1)); have n3_ := G.a (hb); have n4_ := G.a (hi); clear BK670; clear HO677; clear HO682; clear HB; clear HI674; have BK670 := n0_; have HO677 := n1_; have HO682 := n2_; have HB := n3_; have HI674 := n4_; clear n0_ n1_ n2_ n3_ n4_; (try clear hb); (try clear hb2); (try clear hk); (try clear hi)))
   go_meet
   case rel => exact ⟨_, (!t683), (t684), (t685), G.tr, H', ⟨by first | omega | exact Nat.le_refl _⟩, ⟨G.kR HO677.out⟩, ⟨by (with_reducible repeat (first | apply Kd.R_alloc | apply Kd.R_drewN | apply Kd.R_drew)); exact Kd.R_mono HO682.out (fun _ hk => hk.2)⟩, ⟨G.kB BK670.out⟩, ⟨by repeat (first | (with_reducible first | exact HI674.out | apply IsS58.alloc | apply IsS58.drewN | apply IsS58.drew | apply IsS58.set_1 | apply IsS58.set_2 | refine IsS58.far ?_ NB674_670.out _) | exact HI674.out)⟩, ⟨by repeat (first | (with_reducible first | exact HB.out | apply below_alloc | apply pw_below_drewN | apply below_drew1 | refine below_set ?_ (IsS58.ge HI674.out) | refine below_set ?_ GE670.out) | exact HB.out)⟩⟩
  ·rw [if_neg c11] at H
   have c11b0 : decide (0 < (t680.length : Int)) = false := decide_eq_false c11
   have c11b1 : decide (0 < t680.length) = false := decide_eq_false (by omega)
   clear c11
   (first | rw [c11b0] | (simp only [i64_w, i32_w]; rw [c11b0]) | skip)
   have H' := G.a H
   clear H
   obtain ⟨Ao15, co15, eo15⟩ := Kd.R_slice HO682.out
   subst eo15
   go_wp2
   go_meet
   case rel => exact ⟨_, (false), (t678), (t679), G.tr, H', ⟨by first | omega | exact Nat.le_refl _⟩, ⟨G.kR HO677.out⟩, ⟨by (with_reducible repeat (first | apply Kd.R_alloc | apply Kd.R_drewN | apply Kd.R_drew)); exact Kd.R_mono HO682.out (fun _ hk => hk.2)⟩, ⟨G.kB BK670.out⟩, ⟨by repeat (first | (with_reducible first | exact HI674.out | apply IsS58.alloc | apply IsS58.drewN | apply IsS58.drew | apply IsS58.set_1 | apply IsS58.set_2 | refine IsS58.far ?_ NB674_670.out _) | exact HI674.out)⟩, ⟨by repeat (first | (with_reducible first | exact HB.out | apply below_alloc | apply pw_below_drewN | apply below_drew1 | refine below_set ?_ (IsS58.ge HI674.out) | refine below_set ?_ GE670.out) | exact HB.out)⟩⟩
 case rest =>
  clear HC5
  try clear c1; try clear c2; try clear p2; try clear c3; try clear c7; try clear c11; try clear c11b0; try clear c11b1
  obtain ⟨kq, x21_4, x675001_4, x675002_4, rfl, HA, HJ4, HO_5, HO_6, BK670, HI674, HB⟩ := hcut
  cases kq with
  | zero => exact absurd HA.out (by simp [spec_l12Both.j0])
  | succ kj4 =>
   have H := HA.out
   clear HA
   simp only [spec_l12Both.j0] at H
   by_cases c16 : x21_4 = true
   ·subst c16
    rw [if_pos rfl] at H
    obtain ⟨⟨t686, t687, t688⟩, A17, H⟩ := G.bx H
    replace H : (if 0 ≤ t686 then (if t686 < (t680.length : Int) then (some (t675, (rd_T32 t680 t686).f0, (rd_T32 t680 t686).f1, (rd_T32 t680 t686).f2)) else (none)) else (none)) = some (r1, r2, r3, r4) := H
    by_cases c18 : 0 ≤ t686
    ·rw [if_pos c18] at H
     have c18b0 : decide (0 ≤ t686) = true := decide_eq_true c18
     clear c18
     by_cases c19 : t686 < (t680.length : Int)
     ·rw [if_pos c19] at H
      have c19b0 : decide (t686 < (t680.length : Int)) = true := decide_eq_true c19
      clear c19
      simp only [Option.some.injEq, Prod.mk.injEq] at H
      obtain ⟨rfl, rfl, rfl, rfl⟩ := H
      try go_wp2
      have n0_ := G.a (Kd.R_drew HO_5.out)
      have n1_ := G.a (Kd.R_drew HO_6.out)
      have n2_ := G.a (blk_drew BK670.out)
      have n3_ := G.a (IsS58.drew HI674.out)
      have n4_ := G.a (below_drew1 HB.out)
      clear HO_5
      clear HO_6
      clear BK670
      clear HI674
      clear HB
      have HO_5 := n0_
      have HO_6 := n1_
      have BK670 := n2_
      have HI674 := n3_
      have HB := n4_
      clear n0_ n1_ n2_ n3_ n4_
      obtain ⟨Ao21, co21, eo21⟩ := Kd.R_slice HO_6.out
      (first | subst eo21 | (injection eo21 with f1_ f2_ f3_; have f4_ := f1_.symm; have f5_ := f3_.symm; clear f1_ f2_ f3_; subst f4_; subst f5_))
      have p689 : 0 ≤ (t686 : Int) := G.odt
      have q689 : t686 < (t680.length : Int) := G.odt
      obtain ⟨ad689, e689, hx689_0, hx689_1, hx689_2⟩ := at_T32 (Kd.R_reads' HO_6.out).2.2 t686 p689 q689
      cases e689
      replace p689 := eq_true p689
      replace q689 := eq_true q689
      refine start_ (n := 10) (S := fun w' => w'.cell? (ad689.add ((t686).toNat * 3)) = some (.int .i64 ((rd_T32 t680 t686).f0)) ∧ w'.cell? ⟨(ad689.add ((t686).toNat * 3)).block, (ad689.add ((t686).toNat * 3)).off + 1, none⟩ = some (.int .i64 ((rd_T32 t680 t686).f1)) ∧ w'.cell? ⟨(ad689.add ((t686).toNat * 3)).block, (ad689.add ((t686).toNat * 3)).off + 2, none⟩ = some (.int .i64 ((rd_T32 t680 t686).f2))) (ds := []) #[false, false, false, false, false, false, false, false, false, false] (by kernel_rfl) rfl rfl ⟨hx689_0, hx689_1, hx689_2⟩ (fun hHeld => ?_); refine with_tabW spec_l12Both.tab5 spec_l12Both.bits5 (fun HT_ HW_ => ?_)
      generalize wc.drew = w20 at HO_5 HO_6 BK670 HI674 HB hx689_0 hx689_1 hx689_2 hHeld ⊢
      refine G.pu 0 22 (G.bs 10 1) ?_
      refine G.pu 1 23 (G.bs 10 3) ?_
      refine G.pu 2 24 (G.bs 10 7) ?_
      refine G.pu 3 25 (G.bs 10 15) ?_
      refine G.pu 4 26 (G.bs 10 31) ?_
      refine one_ (i := 5) (N := some 27) (G.bs 10 63) rfl rfl (one_of HT_.out (by kernel_rfl)) (by decide) (fun K hK => ?_)
      refine goes_ Tryz.func47 (by kernel_rfl) rfl #[.pointer (some ⟨g674, 0, none⟩), .int .i64 (t680.length : Int)] (by rfl) rfl rfl G.ar ?_
      with_reducible refine (spec_l1Below.calls g674 t671 x675001_4 x675002_4 (t680.length : Int) t686 t687 t688 w _ ?side1 ?side2 A17.out).mono ?_
      (case side1 => repeat (first | (with_reducible first | exact HI674.out | apply IsS58.alloc | apply IsS58.drewN | apply IsS58.drew | apply IsS58.set_1 | apply IsS58.set_2 | refine IsS58.far ?_ NB674_670.out _) | exact HI674.out))
      (case side2 => repeat (first | (with_reducible first | exact HB.out | apply below_alloc | apply pw_below_drewN | apply below_drew1 | refine below_set ?_ (IsS58.ge HI674.out) | refine below_set ?_ GE670.out) | exact HB.out))
      rintro e w22 ⟨rfl, hi, hb, hk⟩
      have HS0_ := keep_cell hk (hHeld.1) (by first | (rw [add_block]; exact Kd.own_blk (IsS58.own_ne HI674.out HO_6.out (by decide))) | (show (Addr.add _ _).block ≠ _; rw [add_block]; exact Kd.own_blk (IsS58.own_ne HI674.out HO_6.out (by decide))) | exact Kd.own_blk (IsS58.own_ne HI674.out HO_6.out (by decide)))
      have HS1_ := keep_cell hk (hHeld.2.1) (by first | (rw [add_block]; exact Kd.own_blk (IsS58.own_ne HI674.out HO_6.out (by decide))) | (show (Addr.add _ _).block ≠ _; rw [add_block]; exact Kd.own_blk (IsS58.own_ne HI674.out HO_6.out (by decide))) | exact Kd.own_blk (IsS58.own_ne HI674.out HO_6.out (by decide)))
      have HS2_ := keep_cell hk (hHeld.2.2) (by first | (rw [add_block]; exact Kd.own_blk (IsS58.own_ne HI674.out HO_6.out (by decide))) | (show (Addr.add _ _).block ≠ _; rw [add_block]; exact Kd.own_blk (IsS58.own_ne HI674.out HO_6.out (by decide))) | exact Kd.own_blk (IsS58.own_ne HI674.out HO_6.out (by decide)))
      refine ⟨_, rfl, ?_⟩
      have n0_ := G.a (Kd.R_mono (Kd.R_keep (IsS58.apart (show IsS58 w _ g674 t671 x675001_4 x675002_4 from by repeat (first | (with_reducible first | exact HI674.out | apply IsS58.alloc | apply IsS58.drewN | apply IsS58.drew | apply IsS58.set_1 | apply IsS58.set_2 | refine IsS58.far ?_ NB674_670.out _) | exact HI674.out)) (G.kR HO_5.out) (by decide)) hk (fun _ h => h.2)) (fun _ h => h.1))
      have n1_ := G.a (Kd.R_mono (Kd.R_keep (IsS58.apart (show IsS58 w _ g674 t671 x675001_4 x675002_4 from by repeat (first | (with_reducible first | exact HI674.out | apply IsS58.alloc | apply IsS58.drewN | apply IsS58.drew | apply IsS58.set_1 | apply IsS58.set_2 | refine IsS58.far ?_ NB674_670.out _) | exact HI674.out)) (G.kR HO_6.out) (by decide)) hk (fun _ h => h.2)) (fun _ h => h.1))
      have n2_ := G.a (KeepBut.blk hk (g' := gb670) (o := .cells #[.int .i64 0, .int .i64 0, .int .i64 0] 32 (0, 0)) (G.kB BK670.out) NB670_674.out (by simp))
      have n3_ := G.a (hb)
      have n4_ := G.a (hi)
      clear HO_5
      clear HO_6
      clear BK670
      clear HB
      clear HI674
      have HO_5 := n0_
      have HO_6 := n1_
      have BK670 := n2_
      have HB := n3_
      have HI674 := n4_
      clear n0_ n1_ n2_ n3_ n4_
      (try clear hb)
      (try clear hb2)
      (try clear hk)
      (try clear hi)
      refine hK.out _ _ ⟨HS0_, HS1_, HS2_⟩ (fun hHeld => ?_)
      clear hK K
      refine norm_ (a' := ?_) ?_ ?_
      rotate_left
      ·show Act.put _ (some 27) _ = _
       simp only [Act.put, List.setIfInBounds_toArray, List.set_cons_zero, List.set_cons_succ, i64_w, i32_w]
       rfl
      refine G.pu 6 28 (G.bs 10 127) ?_
      refine G.pu 8 2 (G.bs 10 383) ?_
      refine G.tk 7 29 (G.bs 10 511) rfl (by rintro w' ⟨s0, s1, s2⟩; go_simp; with_reducible rfl) ?_
      refine one_ (i := 9) (N := none) (G.bs 10 1023) rfl rfl (one_of HT_.out (by kernel_rfl)) (by decide) (fun K hK => ?_)
      have hs23 : w22.cell? ⟨gb670, 0, none⟩ = some (.int .i64 0) := (blk_cell BK670.out 0).trans rfl
      have hfs23 := blk_frozen BK670.out 0
      have hs24 : w22.cell? ⟨gb670, 1, none⟩ = some (.int .i64 0) := (blk_cell BK670.out 1).trans rfl
      have hfs24 := blk_frozen BK670.out 1
      have hs25 : w22.cell? ⟨gb670, 2, none⟩ = some (.int .i64 0) := (blk_cell BK670.out 2).trans rfl
      have hfs25 := blk_frozen BK670.out 2
      refine skip_ (w1 := ?_) (by rfl) rfl ?_ ?_
      rotate_left
      ·go_simp
       rfl
      refine hK.out _ _ ⟨((cell_far (p := ⟨gb670, _, none⟩) (by first | exact Kd.own_blk (Kd.R_away HO_6.out (fun _ hk => hk)) | (rw [add_block]; exact Kd.own_blk (Kd.R_away HO_6.out (fun _ hk => hk))) | (show (Addr.add _ _).block ≠ _; rw [add_block]; exact Kd.own_blk (Kd.R_away HO_6.out (fun _ hk => hk))) | (dsimp only; exact Kd.own_blk (Kd.R_away HO_6.out (fun _ hk => hk)))) _).trans (((cell_far (p := ⟨gb670, _, none⟩) (by first | exact Kd.own_blk (Kd.R_away HO_6.out (fun _ hk => hk)) | (rw [add_block]; exact Kd.own_blk (Kd.R_away HO_6.out (fun _ hk => hk))) | (show (Addr.add _ _).block ≠ _; rw [add_block]; exact Kd.own_blk (Kd.R_away HO_6.out (fun _ hk => hk))) | (dsimp only; exact Kd.own_blk (Kd.R_away HO_6.out (fun _ hk => hk)))) _).trans (((cell_far (p := ⟨gb670, _, none⟩) (by first | exact Kd.own_blk (Kd.R_away HO_6.out (fun _ hk => hk)) | (rw [add_block]; exact Kd.own_blk (Kd.R_away HO_6.out (fun _ hk => hk))) | (show (Addr.add _ _).block ≠ _; rw [add_block]; exact Kd.own_blk (Kd.R_away HO_6.out (fun _ hk => hk))) | (dsimp only; exact Kd.own_blk (Kd.R_away HO_6.out (fun _ hk => hk)))) _).trans (hHeld.1)))))), ((cell_far (p := ⟨gb670, _, none⟩) (by first | exact Kd.own_blk (Kd.R_away HO_6.out (fun _ hk => hk)) | (rw [add_block]; exact Kd.own_blk (Kd.R_away HO_6.out (fun _ hk => hk))) | (show (Addr.add _ _).block ≠ _; rw [add_block]; exact Kd.own_blk (Kd.R_away HO_6.out (fun _ hk => hk))) | (dsimp only; exact Kd.own_blk (Kd.R_away HO_6.out (fun _ hk => hk)))) _).trans (((cell_far (p := ⟨gb670, _, none⟩) (by first | exact Kd.own_blk (Kd.R_away HO_6.out (fun _ hk => hk)) | (rw [add_block]; exact Kd.own_blk (Kd.R_away HO_6.out (fun _ hk => hk))) | (show (Addr.add _ _).block ≠ _; rw [add_block]; exact Kd.own_blk (Kd.R_away HO_6.out (fun _ hk => hk))) | (dsimp only; exact Kd.own_blk (Kd.R_away HO_6.out (fun _ hk => hk)))) _).trans (((cell_far (p := ⟨gb670, _, none⟩) (by first | exact Kd.own_blk (Kd.R_away HO_6.out (fun _ hk => hk)) | (rw [add_block]; exact Kd.own_blk (Kd.R_away HO_6.out (fun _ hk => hk))) | (show (Addr.add _ _).block ≠ _; rw [add_block]; exact Kd.own_blk (Kd.R_away HO_6.out (fun _ hk => hk))) | (dsimp only; exact Kd.own_blk (Kd.R_away HO_6.out (fun _ hk => hk)))) _).trans (hHeld.2.1)))))), ((cell_far (p := ⟨gb670, _, none⟩) (by first | exact Kd.own_blk (Kd.R_away HO_6.out (fun _ hk => hk)) | (rw [add_block]; exact Kd.own_blk (Kd.R_away HO_6.out (fun _ hk => hk))) | (show (Addr.add _ _).block ≠ _; rw [add_block]; exact Kd.own_blk (Kd.R_away HO_6.out (fun _ hk => hk))) | (dsimp only; exact Kd.own_blk (Kd.R_away HO_6.out (fun _ hk => hk)))) _).trans (((cell_far (p := ⟨gb670, _, none⟩) (by first | exact Kd.own_blk (Kd.R_away HO_6.out (fun _ hk => hk)) | (rw [add_block]; exact Kd.own_blk (Kd.R_away HO_6.out (fun _ hk => hk))) | (show (Addr.add _ _).block ≠ _; rw [add_block]; exact Kd.own_blk (Kd.R_away HO_6.out (fun _ hk => hk))) | (dsimp only; exact Kd.own_blk (Kd.R_away HO_6.out (fun _ hk => hk)))) _).trans (((cell_far (p := ⟨gb670, _, none⟩) (by first | exact Kd.own_blk (Kd.R_away HO_6.out (fun _ hk => hk)) | (rw [add_block]; exact Kd.own_blk (Kd.R_away HO_6.out (fun _ hk => hk))) | (show (Addr.add _ _).block ≠ _; rw [add_block]; exact Kd.own_blk (Kd.R_away HO_6.out (fun _ hk => hk))) | (dsimp only; exact Kd.own_blk (Kd.R_away HO_6.out (fun _ hk => hk)))) _).trans (hHeld.2.2))))))⟩ (fun hHeld => ?_)
      clear hK K
      refine done_ (done_of HT_.out (by kernel_rfl)) ?_
      try go_wp2
      refine bodyPost_ret (results_tc rfl _ _ gb670 32 #[.int .i64 ((rd_T32 t680 t686).f0), .int .i64 ((rd_T32 t680 t686).f1), .int .i64 ((rd_T32 t680 t686).f2)] (0, 0) _ rfl (by (with_reducible repeat (first | refine blk_drewN ?_ _ | refine blk_drew ?_ | refine blk_alloc ?_ _)); refine blk_put (cs := #[.int .i64 ((rd_T32 t680 t686).f0), .int .i64 ((rd_T32 t680 t686).f1), .int .i64 0]) ?_ 2 _ rfl; (with_reducible repeat (first | refine blk_drewN ?_ _ | refine blk_drew ?_ | refine blk_alloc ?_ _)); refine blk_put (cs := #[.int .i64 ((rd_T32 t680 t686).f0), .int .i64 0, .int .i64 0]) ?_ 1 _ rfl; (with_reducible repeat (first | refine blk_drewN ?_ _ | refine blk_drew ?_ | refine blk_alloc ?_ _)); refine blk_put (cs := #[.int .i64 0, .int .i64 0, .int .i64 0]) ?_ 0 _ rfl; (with_reducible repeat (first | refine blk_drewN ?_ _ | refine blk_drew ?_ | refine blk_alloc ?_ _)); exact BK670.out) Tryz.underlying32 rfl (by kernel_rfl)) rfl ?_
      first | exact ⟨_, _, _, _, _, HOK_.out, G.er, by (with_reducible repeat (first | apply Kd.R_alloc | apply Kd.R_drewN | apply Kd.R_drew)); exact Kd.R_mono (Kd.R_far (p := ⟨gb670, 2, none⟩) (Kd.R_far (p := ⟨gb670, 1, none⟩) (Kd.R_far (p := ⟨gb670, 0, none⟩) (Kd.R_types HO_5.out BK670.out (by decide)) (fun _ hk => hk.2) (.int .i64 ((rd_T32 t680 t686).f0))) (fun _ hk => hk.2) (.int .i64 ((rd_T32 t680 t686).f1))) (fun _ hk => hk.2) (.int .i64 ((rd_T32 t680 t686).f2))) (fun _ hk => trivial), by repeat (first | (with_reducible first | exact HB.out | apply below_alloc | apply pw_below_drewN | apply below_drew1 | refine below_set ?_ (IsS58.ge HI674.out) | refine below_set ?_ GE670.out) | exact HB.out)⟩ | exact ⟨_, _, _, _, HOK_.out, _, G.er, by (with_reducible repeat (first | apply Kd.R_alloc | apply Kd.R_drewN | apply Kd.R_drew)); exact Kd.R_mono (Kd.R_far (p := ⟨gb670, 2, none⟩) (Kd.R_far (p := ⟨gb670, 1, none⟩) (Kd.R_far (p := ⟨gb670, 0, none⟩) (Kd.R_types HO_5.out BK670.out (by decide)) (fun _ hk => hk.2) (.int .i64 ((rd_T32 t680 t686).f0))) (fun _ hk => hk.2) (.int .i64 ((rd_T32 t680 t686).f1))) (fun _ hk => hk.2) (.int .i64 ((rd_T32 t680 t686).f2))) (fun _ hk => trivial), by repeat (first | (with_reducible first | exact HB.out | apply below_alloc | apply pw_below_drewN | apply below_drew1 | refine below_set ?_ (IsS58.ge HI674.out) | refine below_set ?_ GE670.out) | exact HB.out)⟩
     ·rw [if_neg c19] at H
      exact absurd H (by simp)
    ·rw [if_neg c18] at H
     exact absurd H (by simp)
   ·replace c16 := Bool.eq_false_iff.mpr c16
    subst c16
    rw [if_neg (show ¬ (false = true) by decide)] at H
    obtain ⟨⟨t690, t691, t692⟩, A26, H⟩ := G.bx H
    replace H : ((spec_l1Below.f t671 t691 t692 8).bind fun bt693 => ((spec_l1Below.f t671 bt693.2.1 bt693.2.2 4).bind fun bt696 => (some (t675, wrap64 (t690 - 1), wrap64 ((wrap64 (t690 - 1)) + bt693.1), bt696.1)))) = some (r1, r2, r3, r4) := H
    obtain ⟨⟨t693, t694, t695⟩, A27, H⟩ := G.bx H
    replace H : ((spec_l1Below.f t671 t694 t695 4).bind fun bt696 => (some (t675, wrap64 (t690 - 1), wrap64 ((wrap64 (t690 - 1)) + t693), bt696.1))) = some (r1, r2, r3, r4) := H
    obtain ⟨⟨t696, t697, t698⟩, A28, H⟩ := G.bx H
    replace H : (some (t675, wrap64 (t690 - 1), wrap64 ((wrap64 (t690 - 1)) + t693), t696)) = some (r1, r2, r3, r4) := H
    simp only [Option.some.injEq, Prod.mk.injEq] at H
    obtain ⟨rfl, rfl, rfl, rfl⟩ := H
    go_wp2_with (first | ((with_reducible refine gate_callee (f := 47) rfl ?_); refine goesL_ (some 31) rfl rfl Tryz.func47 (by kernel_rfl) rfl #[.pointer (some ⟨g674, 0, none⟩), .int .i64 5] rfl G.ar ?_; (with_reducible refine (spec_l1Below.calls g674 t671 x675001_4 x675002_4 5 t690 t691 t692 w _ ?side1 ?side2 A26.out).mono ?_); (case side1 => repeat (first | (with_reducible first | exact HI674.out | apply IsS58.alloc | apply IsS58.drewN | apply IsS58.drew | apply IsS58.set_1 | apply IsS58.set_2 | refine IsS58.far ?_ NB674_670.out _) | exact HI674.out)); (case side2 => repeat (first | (with_reducible first | exact HB.out | apply below_alloc | apply pw_below_drewN | apply below_drew1 | refine below_set ?_ (IsS58.ge HI674.out) | refine below_set ?_ GE670.out) | exact HB.out)); rintro e w29 ⟨rfl, hi, hb, hk⟩; refine ⟨_, rfl, ?_⟩; have n0_ := G.a (Kd.R_mono (Kd.R_keep (IsS58.apart (show IsS58 w _ g674 t671 x675001_4 x675002_4 from by repeat (first | (with_reducible first | exact HI674.out | apply IsS58.alloc | apply IsS58.drewN | apply IsS58.drew | apply IsS58.set_1 | apply IsS58.set_2 | refine IsS58.far ?_ NB674_670.out _) | exact HI674.out)) (G.kR HO_5.out) (by decide)) hk (fun _ h => h.2)) (fun _ h => h.1)); have n1_ := G.a (Kd.R_mono (Kd.R_keep (IsS58.apart (show IsS58 w _ g674 t671 x675001_4 x675002_4 from by repeat (first | (with_reducible first | exact HI674.out | apply IsS58.alloc | apply IsS58.drewN | apply IsS58.drew | apply IsS58.set_1 | apply IsS58.set_2 | refine IsS58.far ?_ NB674_670.out _) | exact HI674.out)) (G.kR HO_6.out) (by decide)) hk (fun _ h => h.2)) (fun _ h => h.1)); have n2_ := G.a (KeepBut.blk hk (g' := gb670) (o := .cells #[.int .i64 0, .int .i64 0, .int .i64 0] 32 (0, 0)) (G.kB BK670.out) NB670_674.out (by simp)); have n3_ := G.a (hb); have n4_ := G.a (hi); clear HO_5; clear HO_6; clear BK670; clear HB; clear HI674; have HO_5 := n0_; have HO_6 := n1_; have BK670 := n2_; have HB := n3_; have HI674 := n4_; clear n0_ n1_ n2_ n3_ n4_; (try clear hb); (try clear hb2); (try clear hk); (try clear hi)) | ((with_reducible refine gate_callee (f := 47) rfl ?_); refine goesL_ (some 37) rfl rfl Tryz.func47 (by kernel_rfl) rfl #[.pointer (some ⟨g674, 0, none⟩), .int .i64 8] rfl G.ar ?_; (with_reducible refine (spec_l1Below.calls g674 t671 t691 t692 8 t693 t694 t695 w _ ?side1 ?side2 A27.out).mono ?_); (case side1 => repeat (first | (with_reducible first | exact HI674.out | apply IsS58.alloc | apply IsS58.drewN | apply IsS58.drew | apply IsS58.set_1 | apply IsS58.set_2 | refine IsS58.far ?_ NB674_670.out _) | exact HI674.out)); (case side2 => repeat (first | (with_reducible first | exact HB.out | apply below_alloc | apply pw_below_drewN | apply below_drew1 | refine below_set ?_ (IsS58.ge HI674.out) | refine below_set ?_ GE670.out) | exact HB.out)); rintro e w30 ⟨rfl, hi, hb, hk⟩; refine ⟨_, rfl, ?_⟩; have n0_ := G.a (Kd.R_mono (Kd.R_keep (IsS58.apart (show IsS58 w _ g674 t671 t691 t692 from by repeat (first | (with_reducible first | exact HI674.out | apply IsS58.alloc | apply IsS58.drewN | apply IsS58.drew | apply IsS58.set_1 | apply IsS58.set_2 | refine IsS58.far ?_ NB674_670.out _) | exact HI674.out)) (G.kR HO_5.out) (by decide)) hk (fun _ h => h.2)) (fun _ h => h.1)); have n1_ := G.a (Kd.R_mono (Kd.R_keep (IsS58.apart (show IsS58 w _ g674 t671 t691 t692 from by repeat (first | (with_reducible first | exact HI674.out | apply IsS58.alloc | apply IsS58.drewN | apply IsS58.drew | apply IsS58.set_1 | apply IsS58.set_2 | refine IsS58.far ?_ NB674_670.out _) | exact HI674.out)) (G.kR HO_6.out) (by decide)) hk (fun _ h => h.2)) (fun _ h => h.1)); have n2_ := G.a (KeepBut.blk hk (g' := gb670) (o := .cells #[.int .i64 0, .int .i64 0, .int .i64 0] 32 (0, 0)) (G.kB BK670.out) NB670_674.out (by simp)); have n3_ := G.a (hb); have n4_ := G.a (hi); clear HO_5; clear HO_6; clear BK670; clear HB; clear HI674; have HO_5 := n0_; have HO_6 := n1_; have BK670 := n2_; have HB := n3_; have HI674 := n4_; clear n0_ n1_ n2_ n3_ n4_; (try clear hb); (try clear hb2); (try clear hk); (try clear hi)) | ((with_reducible refine gate_callee (f := 47) rfl ?_); refine goesL_ (some 40) rfl rfl Tryz.func47 (by kernel_rfl) rfl #[.pointer (some ⟨g674, 0, none⟩), .int .i64 4] rfl G.ar ?_; (with_reducible refine (spec_l1Below.calls g674 t671 t694 t695 4 t696 t697 t698 w _ ?side1 ?side2 A28.out).mono ?_); (case side1 => repeat (first | (with_reducible first | exact HI674.out | apply IsS58.alloc | apply IsS58.drewN | apply IsS58.drew | apply IsS58.set_1 | apply IsS58.set_2 | refine IsS58.far ?_ NB674_670.out _) | exact HI674.out)); (case side2 => repeat (first | (with_reducible first | exact HB.out | apply below_alloc | apply pw_below_drewN | apply below_drew1 | refine below_set ?_ (IsS58.ge HI674.out) | refine below_set ?_ GE670.out) | exact HB.out)); rintro e w31 ⟨rfl, hi, hb, hk⟩; refine ⟨_, rfl, ?_⟩; have n0_ := G.a (Kd.R_mono (Kd.R_keep (IsS58.apart (show IsS58 w _ g674 t671 t694 t695 from by repeat (first | (with_reducible first | exact HI674.out | apply IsS58.alloc | apply IsS58.drewN | apply IsS58.drew | apply IsS58.set_1 | apply IsS58.set_2 | refine IsS58.far ?_ NB674_670.out _) | exact HI674.out)) (G.kR HO_5.out) (by decide)) hk (fun _ h => h.2)) (fun _ h => h.1)); have n1_ := G.a (Kd.R_mono (Kd.R_keep (IsS58.apart (show IsS58 w _ g674 t671 t694 t695 from by repeat (first | (with_reducible first | exact HI674.out | apply IsS58.alloc | apply IsS58.drewN | apply IsS58.drew | apply IsS58.set_1 | apply IsS58.set_2 | refine IsS58.far ?_ NB674_670.out _) | exact HI674.out)) (G.kR HO_6.out) (by decide)) hk (fun _ h => h.2)) (fun _ h => h.1)); have n2_ := G.a (KeepBut.blk hk (g' := gb670) (o := .cells #[.int .i64 0, .int .i64 0, .int .i64 0] 32 (0, 0)) (G.kB BK670.out) NB670_674.out (by simp)); have n3_ := G.a (hb); have n4_ := G.a (hi); clear HO_5; clear HO_6; clear BK670; clear HB; clear HI674; have HO_5 := n0_; have HO_6 := n1_; have BK670 := n2_; have HB := n3_; have HI674 := n4_; clear n0_ n1_ n2_ n3_ n4_; (try clear hb); (try clear hb2); (try clear hk); (try clear hi); have hnb32 := NB670_674.out; have hnc32 := NB674_670.out; have hcz33_0 : w31.cell? ⟨gb670, 0, none⟩ = some (.int .i64 0) := (blk_cell BK670.out 0).trans rfl; have hcz33_1 : w31.cell? ⟨gb670, 1, none⟩ = some (.int .i64 0) := (blk_cell BK670.out 1).trans rfl; have hcz33_2 : w31.cell? ⟨gb670, 2, none⟩ = some (.int .i64 0) := (blk_cell BK670.out 2).trans rfl; have hfz33_0 := blk_frozen BK670.out 0; have hfz33_1 := blk_frozen BK670.out 1; have hfz33_2 := blk_frozen BK670.out 2))
    refine bodyPost_ret (results_tc rfl _ _ gb670 32 #[.int .i64 (wrap64 (t690 - 1)), .int .i64 (wrap64 ((wrap64 (t690 - 1)) + t693)), .int .i64 t696] (0, 0) _ rfl (by (with_reducible repeat (first | refine blk_drewN ?_ _ | refine blk_drew ?_ | refine blk_alloc ?_ _)); refine blk_put (cs := #[.int .i64 (wrap64 (t690 - 1)), .int .i64 (wrap64 ((wrap64 (t690 - 1)) + t693)), .int .i64 0]) ?_ 2 _ rfl; (with_reducible repeat (first | refine blk_drewN ?_ _ | refine blk_drew ?_ | refine blk_alloc ?_ _)); refine blk_put (cs := #[.int .i64 (wrap64 (t690 - 1)), .int .i64 0, .int .i64 0]) ?_ 1 _ rfl; (with_reducible repeat (first | refine blk_drewN ?_ _ | refine blk_drew ?_ | refine blk_alloc ?_ _)); refine blk_put (cs := #[.int .i64 0, .int .i64 0, .int .i64 0]) ?_ 0 _ rfl; (with_reducible repeat (first | refine blk_drewN ?_ _ | refine blk_drew ?_ | refine blk_alloc ?_ _)); exact BK670.out) Tryz.underlying32 rfl (by kernel_rfl)) rfl ?_
    first | exact ⟨_, _, _, _, _, HOK_.out, G.er, by (with_reducible repeat (first | apply Kd.R_alloc | apply Kd.R_drewN | apply Kd.R_drew)); exact Kd.R_mono (Kd.R_far (p := ⟨gb670, 2, none⟩) (Kd.R_far (p := ⟨gb670, 1, none⟩) (Kd.R_far (p := ⟨gb670, 0, none⟩) (Kd.R_types HO_5.out BK670.out (by decide)) (fun _ hk => hk.2) (.int .i64 (wrap64 (t690 - 1)))) (fun _ hk => hk.2) (.int .i64 (wrap64 ((wrap64 (t690 - 1)) + t693)))) (fun _ hk => hk.2) (.int .i64 t696)) (fun _ hk => trivial), by repeat (first | (with_reducible first | exact HB.out | apply below_alloc | apply pw_below_drewN | apply below_drew1 | refine below_set ?_ (IsS58.ge HI674.out) | refine below_set ?_ GE670.out) | exact HB.out)⟩ | exact ⟨_, _, _, _, HOK_.out, _, G.er, by (with_reducible repeat (first | apply Kd.R_alloc | apply Kd.R_drewN | apply Kd.R_drew)); exact Kd.R_mono (Kd.R_far (p := ⟨gb670, 2, none⟩) (Kd.R_far (p := ⟨gb670, 1, none⟩) (Kd.R_far (p := ⟨gb670, 0, none⟩) (Kd.R_types HO_5.out BK670.out (by decide)) (fun _ hk => hk.2) (.int .i64 (wrap64 (t690 - 1)))) (fun _ hk => hk.2) (.int .i64 (wrap64 ((wrap64 (t690 - 1)) + t693)))) (fun _ hk => hk.2) (.int .i64 t696)) (fun _ hk => trivial), by repeat (first | (with_reducible first | exact HB.out | apply below_alloc | apply pw_below_drewN | apply below_drew1 | refine below_set ?_ (IsS58.ge HI674.out) | refine below_set ?_ GE670.out) | exact HB.out)⟩
end
section
open Go.Proofs.YtolikggioekalabGreat.G
def spec_DrawIsRun.Ok (t : List Int × Int × Int × Int) : Prop := t.1.length ≤ 1001 ∧ (-1048576 ≤ t.2.1 ∧ t.2.1 ≤ 1048576) ∧ (-1048576 ≤ t.2.2.1 ∧ t.2.2.1 ≤ 1048576) ∧ (-1048576 ≤ t.2.2.2 ∧ t.2.2.2 ≤ 1048576)
theorem spec_DrawIsRun.any (A0 : Option Addr) (c0 : Nat) (l0 : List Int) (w : World) (hr0 : Kd.C (Kd.int .u8) w A0 l0.length l0) (hc0 : l0.length ≤ c0) (hl0 : l0.length ≤ 1048576) (hRN : RNok) :
  Calls Tryz.prog 16 #[.slice A0 l0.length c0] w fun e w' => ∃ (r1 : List Int) (r2 : Int) (r3 : Int) (r4 : Int) (v0_ : Value), (r1.length ≤ 1001 ∧ (-1048576 ≤ r2 ∧ r2 ≤ 1048576) ∧ (-1048576 ≤ r3 ∧ r3 ≤ 1048576) ∧ (-1048576 ≤ r4 ∧ r4 ≤ 1048576)) ∧ e = .returned (.tuple #[v0_, .agg #[.int .i64 r2, .int .i64 r3, .int .i64 r4]]) ∧ Kd.R (Kd.int .i64) 3 w' w.heap.size (fun _ => True) v0_ r1 ∧ Below w.heap.size w w' := by
 have hu32 := Tryz.underlying32
 have HR0 := G.a hr0
 have HC0 := G.a hc0
 clear hr0 hc0
 have HB := G.a (Below.refl w.heap.size w)
 have HL_ := G.a hl0
 have HRN_ := G.a hRN
 clear hl0 hRN
 go_enter Tryz.func16, Tryz.ntmps16
 try go_wp2_with (first | ((with_reducible refine gate_dst (N := 3) rfl ?_); refine box_event ?hg (N := 3) ?hd (cs := #[.int .i64 0, .int .i64 0, .int .i64 0]) (t := 32) ?hr ?_; (case hd => rfl); (case hg => rfl); (case hr => first | (go_simp; done) | (go_simp; rfl)); intro gb699 hg w3 hbox hb; have n0_ := G.a (below_step G.bel hb); have n1_ := G.a (hbox); have n2_ := G.a ((by rw [hg]; exact (below_size G.bel) : w.heap.size ≤ gb699)); have n3_ := G.a ((by rw [hg]; exact (below_size G.bel) : w.heap.size ≤ gb699)); clear HB; have HB := n0_; have BK699 := n1_; have GW699 := n2_; have GE699 := n3_; clear n0_ n1_ n2_ n3_; clear hb hbox hg) | ((with_reducible refine gate_callee (f := 35) rfl ?_); refine goesL_ (some 8) rfl rfl Tryz.func35 (by kernel_rfl) rfl #[.slice A0 l0.length c0] rfl G.ar ?_; (with_reducible refine (spec_l12Both.any A0 c0 l0 _ ?side1 ?side2 HL_.out HRN_.out).mono ?_); (case side1 => exact G.kC (Kd.C_below HR0.out HB.out)); (case side2 => exact HC0.out); rintro e w4 ⟨t700, t703, t704, t705, v701, hok_, rfl, ho0, hb⟩; refine ⟨_, rfl, ?_⟩; have HOK_ := G.a hok_; clear hok_; have n0_ := G.a (Kd.R_lower ho0 (below_size (G.bes GE699.out))); have n1_ := G.a (blk_below (g := gb699) (o := .cells #[.int .i64 0, .int .i64 0, .int .i64 0] 32 (0, 0)) (G.kB BK699.out) hb); have n2_ := G.a (below_step (G.bes GE699.out) hb); clear BK699; clear HB; have HO702 := n0_; have BK699 := n1_; have HB := n2_; clear n0_ n1_ n2_; (try clear hb); (try clear hb2); (try clear hk); (try clear hi); (try clear ho0)) | ((with_reducible refine gate_dst (N := 5) rfl ?_); refine box_event ?hg (N := 5) ?hd (cs := #[.int .i64 0, .int .i64 0, .int .i64 0]) (t := 32) ?hr ?_; (case hd => rfl); (case hg => rfl); (case hr => first | (go_simp; done) | (go_simp; rfl)); intro gb706 hg w5 hbox hb; have n0_ := G.a (Kd.R_below (G.kR HO702.out) hb); have n1_ := G.a (blk_below (g := gb699) (o := .cells #[.int .i64 0, .int .i64 0, .int .i64 0] 32 (0, 0)) (G.kB BK699.out) hb); have n2_ := G.a (below_step (G.bes GE699.out) hb); have n3_ := G.a (hbox); have n4_ := G.a ((by rw [hg]; exact (below_size (G.bes GE699.out)) : w.heap.size ≤ gb706)); have n5_ := G.a ((by rw [hg]; exact (below_size (G.bes GE699.out)) : w.heap.size ≤ gb706)); have n6_ := G.a ((by rw [hg]; exact Nat.ne_of_lt (blk_lt (g := gb699) (o := .cells #[.int .i64 0, .int .i64 0, .int .i64 0] 32 (0, 0)) (G.kB BK699.out)) : gb699 ≠ gb706)); have n7_ := G.a ((by rw [hg]; exact Nat.ne_of_gt (blk_lt (g := gb699) (o := .cells #[.int .i64 0, .int .i64 0, .int .i64 0] 32 (0, 0)) (G.kB BK699.out)) : gb706 ≠ gb699)); clear HO702; clear BK699; clear HB; have HO702 := n0_; have BK699 := n1_; have HB := n2_; have BK706 := n3_; have GW706 := n4_; have GE706 := n5_; have NB699_706 := n6_; have NB706_699 := n7_; clear n0_ n1_ n2_ n3_ n4_ n5_ n6_ n7_; clear hb hbox hg; have hnb6 := NB706_699.out; have hnc6 := NB699_706.out; have hcz7_0 : w5.cell? ⟨gb706, 0, none⟩ = some (.int .i64 0) := (blk_cell BK706.out 0).trans rfl; have hcz7_1 : w5.cell? ⟨gb706, 1, none⟩ = some (.int .i64 0) := (blk_cell BK706.out 1).trans rfl; have hcz7_2 : w5.cell? ⟨gb706, 2, none⟩ = some (.int .i64 0) := (blk_cell BK706.out 2).trans rfl; have hfz7_0 := blk_frozen BK706.out 0; have hfz7_1 := blk_frozen BK706.out 1; have hfz7_2 := blk_frozen BK706.out 2))
 have n0_ : Aside0 (Kd.R (Kd.int .i64) 3 (((w5.setCell ⟨gb706, 0, none⟩ (.int .i64 t703)).setCell ⟨gb706, 1, none⟩ (.int .i64 t704)).setCell ⟨gb706, 2, none⟩ (.int .i64 t705)) w.heap.size (fun _ => True) v701 t700) := ⟨by (with_reducible repeat (first | apply Kd.R_alloc | apply Kd.R_drewN | apply Kd.R_drew)); exact Kd.R_mono (Kd.R_far (p := ⟨gb706, 2, none⟩) (Kd.R_far (p := ⟨gb706, 1, none⟩) (Kd.R_far (p := ⟨gb706, 0, none⟩) (Kd.R_types HO702.out BK706.out (by decide)) (fun _ hk => hk.2) (.int .i64 t703)) (fun _ hk => hk.2) (.int .i64 t704)) (fun _ hk => hk.2) (.int .i64 t705)) (fun _ hk => trivial)⟩
 have n1_ : Aside0 ((((w5.setCell ⟨gb706, 0, none⟩ (.int .i64 t703)).setCell ⟨gb706, 1, none⟩ (.int .i64 t704)).setCell ⟨gb706, 2, none⟩ (.int .i64 t705)).heap[gb699]? = some (.cells #[.int .i64 0, .int .i64 0, .int .i64 0] 32 (0, 0))) := ⟨by (with_reducible repeat (first | refine blk_drewN ?_ _ | refine blk_drew ?_ | refine blk_alloc ?_ _)); refine blk_far ?_ NB699_706.out _; (with_reducible repeat (first | refine blk_drewN ?_ _ | refine blk_drew ?_ | refine blk_alloc ?_ _)); refine blk_far ?_ NB699_706.out _; (with_reducible repeat (first | refine blk_drewN ?_ _ | refine blk_drew ?_ | refine blk_alloc ?_ _)); refine blk_far ?_ NB699_706.out _; (with_reducible repeat (first | refine blk_drewN ?_ _ | refine blk_drew ?_ | refine blk_alloc ?_ _)); exact BK699.out⟩
 have n2_ : Aside0 ((((w5.setCell ⟨gb706, 0, none⟩ (.int .i64 t703)).setCell ⟨gb706, 1, none⟩ (.int .i64 t704)).setCell ⟨gb706, 2, none⟩ (.int .i64 t705)).heap[gb706]? = some (.cells #[.int .i64 t703, .int .i64 t704, .int .i64 t705] 32 (0, 0))) := ⟨by (with_reducible repeat (first | refine blk_drewN ?_ _ | refine blk_drew ?_ | refine blk_alloc ?_ _)); refine blk_put (cs := #[.int .i64 t703, .int .i64 t704, .int .i64 0]) ?_ 2 _ rfl; (with_reducible repeat (first | refine blk_drewN ?_ _ | refine blk_drew ?_ | refine blk_alloc ?_ _)); refine blk_put (cs := #[.int .i64 t703, .int .i64 0, .int .i64 0]) ?_ 1 _ rfl; (with_reducible repeat (first | refine blk_drewN ?_ _ | refine blk_drew ?_ | refine blk_alloc ?_ _)); refine blk_put (cs := #[.int .i64 0, .int .i64 0, .int .i64 0]) ?_ 0 _ rfl; (with_reducible repeat (first | refine blk_drewN ?_ _ | refine blk_drew ?_ | refine blk_alloc ?_ _)); exact BK706.out⟩
 have n3_ : Aside0 (Below w.heap.size w (((w5.setCell ⟨gb706, 0, none⟩ (.int .i64 t703)).setCell ⟨gb706, 1, none⟩ (.int .i64 t704)).setCell ⟨gb706, 2, none⟩ (.int .i64 t705))) := ⟨by repeat (first | (with_reducible first | exact HB.out | apply below_alloc | apply pw_below_drewN | apply below_drew1 | refine below_set ?_ GE699.out | refine below_set ?_ GE706.out) | exact HB.out)⟩
 (try clear HO702)
 (try clear BK699)
 (try clear BK706)
 (try clear HB)
 generalize (((w5.setCell ⟨gb706, 0, none⟩ (.int .i64 t703)).setCell ⟨gb706, 1, none⟩ (.int .i64 t704)).setCell ⟨gb706, 2, none⟩ (.int .i64 t705)) = w8 at n0_ n1_ n2_ n3_ ⊢
 have HO702 := n0_
 have BK699 := n1_
 have BK706 := n2_
 have HB := n3_
 clear n0_ n1_ n2_ n3_
 have n0_ := G.a (Kd.R_drew HO702.out)
 have n1_ := G.a (blk_drew BK699.out)
 have n2_ := G.a (blk_drew BK706.out)
 have n3_ := G.a (below_drew1 HB.out)
 clear HO702
 clear BK699
 clear BK706
 clear HB
 have HO702 := n0_
 have BK699 := n1_
 have BK706 := n2_
 have HB := n3_
 clear n0_ n1_ n2_ n3_
 refine start_ (n := 4) (S := fun w' => w'.cell? ⟨gb706, 0, none⟩ = some (.int .i64 t703) ∧ w'.cell? ⟨gb706, 1, none⟩ = some (.int .i64 t704) ∧ w'.cell? ⟨gb706, 2, none⟩ = some (.int .i64 t705)) (ds := []) #[false, false, false, false] (by kernel_rfl) rfl rfl ⟨(blk_cell BK706.out 0).trans rfl, (blk_cell BK706.out 1).trans rfl, (blk_cell BK706.out 2).trans rfl⟩ (fun hHeld => ?_)
 generalize w8.drew = w9 at HO702 BK699 BK706 HB hHeld ⊢
 refine pure_ (i := 0) (N := some 11) (v := ?_) (a' := ?_) #[true, false, false, false] rfl rfl (by kernel_rfl) (fun _ _ _ h => h) (Or.inl ⟨by rfl, ?_⟩) ?_ ?_
 rotate_left; (·intro w'; go_simp; with_reducible rfl); rotate_left; (·simp only [Act.put, List.setIfInBounds_toArray, List.set_cons_zero, List.set_cons_succ, i64_w, i32_w]; rfl)
 refine pure_ (i := 2) (N := some 2) (v := ?_) (a' := ?_) #[true, false, true, false] rfl rfl (by kernel_rfl) (fun _ _ _ h => h) (Or.inl ⟨by rfl, ?_⟩) ?_ ?_
 rotate_left; (·intro w'; go_simp; with_reducible rfl); rotate_left; (·simp only [Act.put, List.setIfInBounds_toArray, List.set_cons_zero, List.set_cons_succ, i64_w, i32_w]; rfl)
 refine take_ (i := 1) (N := some 12) (v := ?_) (a' := ?_) #[true, true, true, false] rfl rfl (by kernel_rfl) (fun _ _ _ h => h) (Or.inl ⟨by rfl, ?_⟩) hHeld ?_ ?_
 rotate_left; (·rintro w' ⟨s0, s1, s2⟩; go_simp; with_reducible rfl); rotate_left; (·simp only [Act.put, List.setIfInBounds_toArray, List.set_cons_zero, List.set_cons_succ, i64_w, i32_w]; rfl)
 refine one_ (i := 3) (N := none) #[true, true, true, true] rfl rfl (by kernel_rfl) (by decide) (fun K hK => ?_)
 have hs10 : w9.cell? ⟨gb699, 0, none⟩ = some (.int .i64 0) := (blk_cell BK699.out 0).trans rfl
 have hfs10 := blk_frozen BK699.out 0
 have hns10_1 := NB706_699.out
 have hms10_1 := NB699_706.out
 have hs11 : w9.cell? ⟨gb699, 1, none⟩ = some (.int .i64 0) := (blk_cell BK699.out 1).trans rfl
 have hfs11 := blk_frozen BK699.out 1
 have hns11_1 := NB706_699.out
 have hms11_1 := NB699_706.out
 have hs12 : w9.cell? ⟨gb699, 2, none⟩ = some (.int .i64 0) := (blk_cell BK699.out 2).trans rfl
 have hfs12 := blk_frozen BK699.out 2
 have hns12_1 := NB706_699.out
 have hms12_1 := NB699_706.out
 refine skip_ (w1 := ?_) (by rfl) rfl ?_ ?_
 rotate_left
 ·go_simp
  rfl
 refine hK.out _ _ ⟨((cell_far (p := ⟨gb699, _, none⟩) NB706_699.out _).trans (((cell_far (p := ⟨gb699, _, none⟩) NB706_699.out _).trans (((cell_far (p := ⟨gb699, _, none⟩) NB706_699.out _).trans (hHeld.1)))))), ((cell_far (p := ⟨gb699, _, none⟩) NB706_699.out _).trans (((cell_far (p := ⟨gb699, _, none⟩) NB706_699.out _).trans (((cell_far (p := ⟨gb699, _, none⟩) NB706_699.out _).trans (hHeld.2.1)))))), ((cell_far (p := ⟨gb699, _, none⟩) NB706_699.out _).trans (((cell_far (p := ⟨gb699, _, none⟩) NB706_699.out _).trans (((cell_far (p := ⟨gb699, _, none⟩) NB706_699.out _).trans (hHeld.2.2))))))⟩ (fun hHeld => ?_)
 clear hK K
 refine done_ (by kernel_rfl) ?_
 try go_wp2
 refine bodyPost_ret (results_tc rfl _ _ gb699 32 #[.int .i64 t703, .int .i64 t704, .int .i64 t705] (0, 0) _ rfl (by (with_reducible repeat (first | refine blk_drewN ?_ _ | refine blk_drew ?_ | refine blk_alloc ?_ _)); refine blk_put (cs := #[.int .i64 t703, .int .i64 t704, .int .i64 0]) ?_ 2 _ rfl; (with_reducible repeat (first | refine blk_drewN ?_ _ | refine blk_drew ?_ | refine blk_alloc ?_ _)); refine blk_put (cs := #[.int .i64 t703, .int .i64 0, .int .i64 0]) ?_ 1 _ rfl; (with_reducible repeat (first | refine blk_drewN ?_ _ | refine blk_drew ?_ | refine blk_alloc ?_ _)); refine blk_put (cs := #[.int .i64 0, .int .i64 0, .int .i64 0]) ?_ 0 _ rfl; (with_reducible repeat (first | refine blk_drewN ?_ _ | refine blk_drew ?_ | refine blk_alloc ?_ _)); exact BK699.out) Tryz.underlying32 rfl (by kernel_rfl)) rfl ?_
 first | exact ⟨_, _, _, _, _, HOK_.out, G.er, by (with_reducible repeat (first | apply Kd.R_alloc | apply Kd.R_drewN | apply Kd.R_drew)); exact Kd.R_mono (Kd.R_far (p := ⟨gb699, 2, none⟩) (Kd.R_far (p := ⟨gb699, 1, none⟩) (Kd.R_far (p := ⟨gb699, 0, none⟩) (Kd.R_types HO702.out BK699.out (by decide)) (fun _ hk => hk.2) (.int .i64 t703)) (fun _ hk => hk.2) (.int .i64 t704)) (fun _ hk => hk.2) (.int .i64 t705)) (fun _ hk => trivial), by repeat (first | (with_reducible first | exact HB.out | apply below_alloc | apply pw_below_drewN | apply below_drew1 | refine below_set ?_ GE699.out | refine below_set ?_ GE706.out) | exact HB.out)⟩ | exact ⟨_, _, _, _, HOK_.out, _, G.er, by (with_reducible repeat (first | apply Kd.R_alloc | apply Kd.R_drewN | apply Kd.R_drew)); exact Kd.R_mono (Kd.R_far (p := ⟨gb699, 2, none⟩) (Kd.R_far (p := ⟨gb699, 1, none⟩) (Kd.R_far (p := ⟨gb699, 0, none⟩) (Kd.R_types HO702.out BK699.out (by decide)) (fun _ hk => hk.2) (.int .i64 t703)) (fun _ hk => hk.2) (.int .i64 t704)) (fun _ hk => hk.2) (.int .i64 t705)) (fun _ hk => trivial), by repeat (first | (with_reducible first | exact HB.out | apply below_alloc | apply pw_below_drewN | apply below_drew1 | refine below_set ?_ GE699.out | refine below_set ?_ GE706.out) | exact HB.out)⟩
end
section
open Go.Proofs.YtolikggioekalabGreat.G
def spec_DrawRootOfRun.Ok (t : List Int × Int × Int × Int) : Prop := t.1.length ≤ 1001 ∧ (-1048576 ≤ t.2.1 ∧ t.2.1 ≤ 1048576) ∧ (-1048576 ≤ t.2.2.1 ∧ t.2.2.1 ≤ 1048576) ∧ (-1048576 ≤ t.2.2.2 ∧ t.2.2.2 ≤ 1048576)
theorem spec_DrawRootOfRun.any (A0 : Option Addr) (c0 : Nat) (l0 : List Int) (w : World) (hr0 : Kd.C (Kd.int .u8) w A0 l0.length l0) (hc0 : l0.length ≤ c0) (hl0 : l0.length ≤ 1048576) (hRN : RNok) :
  Calls Tryz.prog 17 #[.slice A0 l0.length c0] w fun e w' => ∃ (r1 : List Int) (r2 : Int) (r3 : Int) (r4 : Int) (v0_ : Value), (r1.length ≤ 1001 ∧ (-1048576 ≤ r2 ∧ r2 ≤ 1048576) ∧ (-1048576 ≤ r3 ∧ r3 ≤ 1048576) ∧ (-1048576 ≤ r4 ∧ r4 ≤ 1048576)) ∧ e = .returned (.tuple #[v0_, .agg #[.int .i64 r2, .int .i64 r3, .int .i64 r4]]) ∧ Kd.R (Kd.int .i64) 3 w' w.heap.size (fun _ => True) v0_ r1 ∧ Below w.heap.size w w' := by
 have hu32 := Tryz.underlying32
 have HR0 := G.a hr0
 have HC0 := G.a hc0
 clear hr0 hc0
 have HB := G.a (Below.refl w.heap.size w)
 have HL_ := G.a hl0
 have HRN_ := G.a hRN
 clear hl0 hRN
 go_enter Tryz.func17, Tryz.ntmps17
 try go_wp2_with (first | ((with_reducible refine gate_dst (N := 3) rfl ?_); refine box_event ?hg (N := 3) ?hd (cs := #[.int .i64 0, .int .i64 0, .int .i64 0]) (t := 32) ?hr ?_; (case hd => rfl); (case hg => rfl); (case hr => first | (go_simp; done) | (go_simp; rfl)); intro gb707 hg w3 hbox hb; have n0_ := G.a (below_step G.bel hb); have n1_ := G.a (hbox); have n2_ := G.a ((by rw [hg]; exact (below_size G.bel) : w.heap.size ≤ gb707)); have n3_ := G.a ((by rw [hg]; exact (below_size G.bel) : w.heap.size ≤ gb707)); clear HB; have HB := n0_; have BK707 := n1_; have GW707 := n2_; have GE707 := n3_; clear n0_ n1_ n2_ n3_; clear hb hbox hg) | ((with_reducible refine gate_callee (f := 35) rfl ?_); refine goesL_ (some 8) rfl rfl Tryz.func35 (by kernel_rfl) rfl #[.slice A0 l0.length c0] rfl G.ar ?_; (with_reducible refine (spec_l12Both.any A0 c0 l0 _ ?side1 ?side2 HL_.out HRN_.out).mono ?_); (case side1 => exact G.kC (Kd.C_below HR0.out HB.out)); (case side2 => exact HC0.out); rintro e w4 ⟨t708, t711, t712, t713, v709, hok_, rfl, ho0, hb⟩; refine ⟨_, rfl, ?_⟩; have HOK_ := G.a hok_; clear hok_; have n0_ := G.a (Kd.R_lower ho0 (below_size (G.bes GE707.out))); have n1_ := G.a (blk_below (g := gb707) (o := .cells #[.int .i64 0, .int .i64 0, .int .i64 0] 32 (0, 0)) (G.kB BK707.out) hb); have n2_ := G.a (below_step (G.bes GE707.out) hb); clear BK707; clear HB; have HO710 := n0_; have BK707 := n1_; have HB := n2_; clear n0_ n1_ n2_; (try clear hb); (try clear hb2); (try clear hk); (try clear hi); (try clear ho0)) | ((with_reducible refine gate_dst (N := 5) rfl ?_); refine box_event ?hg (N := 5) ?hd (cs := #[.int .i64 0, .int .i64 0, .int .i64 0]) (t := 32) ?hr ?_; (case hd => rfl); (case hg => rfl); (case hr => first | (go_simp; done) | (go_simp; rfl)); intro gb714 hg w5 hbox hb; have n0_ := G.a (Kd.R_below (G.kR HO710.out) hb); have n1_ := G.a (blk_below (g := gb707) (o := .cells #[.int .i64 0, .int .i64 0, .int .i64 0] 32 (0, 0)) (G.kB BK707.out) hb); have n2_ := G.a (below_step (G.bes GE707.out) hb); have n3_ := G.a (hbox); have n4_ := G.a ((by rw [hg]; exact (below_size (G.bes GE707.out)) : w.heap.size ≤ gb714)); have n5_ := G.a ((by rw [hg]; exact (below_size (G.bes GE707.out)) : w.heap.size ≤ gb714)); have n6_ := G.a ((by rw [hg]; exact Nat.ne_of_lt (blk_lt (g := gb707) (o := .cells #[.int .i64 0, .int .i64 0, .int .i64 0] 32 (0, 0)) (G.kB BK707.out)) : gb707 ≠ gb714)); have n7_ := G.a ((by rw [hg]; exact Nat.ne_of_gt (blk_lt (g := gb707) (o := .cells #[.int .i64 0, .int .i64 0, .int .i64 0] 32 (0, 0)) (G.kB BK707.out)) : gb714 ≠ gb707)); clear HO710; clear BK707; clear HB; have HO710 := n0_; have BK707 := n1_; have HB := n2_; have BK714 := n3_; have GW714 := n4_; have GE714 := n5_; have NB707_714 := n6_; have NB714_707 := n7_; clear n0_ n1_ n2_ n3_ n4_ n5_ n6_ n7_; clear hb hbox hg; have hnb6 := NB714_707.out; have hnc6 := NB707_714.out; have hcz7_0 : w5.cell? ⟨gb714, 0, none⟩ = some (.int .i64 0) := (blk_cell BK714.out 0).trans rfl; have hcz7_1 : w5.cell? ⟨gb714, 1, none⟩ = some (.int .i64 0) := (blk_cell BK714.out 1).trans rfl; have hcz7_2 : w5.cell? ⟨gb714, 2, none⟩ = some (.int .i64 0) := (blk_cell BK714.out 2).trans rfl; have hfz7_0 := blk_frozen BK714.out 0; have hfz7_1 := blk_frozen BK714.out 1; have hfz7_2 := blk_frozen BK714.out 2))
 have n0_ : Aside0 (Kd.R (Kd.int .i64) 3 (((w5.setCell ⟨gb714, 0, none⟩ (.int .i64 t711)).setCell ⟨gb714, 1, none⟩ (.int .i64 t712)).setCell ⟨gb714, 2, none⟩ (.int .i64 t713)) w.heap.size (fun _ => True) v709 t708) := ⟨by (with_reducible repeat (first | apply Kd.R_alloc | apply Kd.R_drewN | apply Kd.R_drew)); exact Kd.R_mono (Kd.R_far (p := ⟨gb714, 2, none⟩) (Kd.R_far (p := ⟨gb714, 1, none⟩) (Kd.R_far (p := ⟨gb714, 0, none⟩) (Kd.R_types HO710.out BK714.out (by decide)) (fun _ hk => hk.2) (.int .i64 t711)) (fun _ hk => hk.2) (.int .i64 t712)) (fun _ hk => hk.2) (.int .i64 t713)) (fun _ hk => trivial)⟩
 have n1_ : Aside0 ((((w5.setCell ⟨gb714, 0, none⟩ (.int .i64 t711)).setCell ⟨gb714, 1, none⟩ (.int .i64 t712)).setCell ⟨gb714, 2, none⟩ (.int .i64 t713)).heap[gb707]? = some (.cells #[.int .i64 0, .int .i64 0, .int .i64 0] 32 (0, 0))) := ⟨by (with_reducible repeat (first | refine blk_drewN ?_ _ | refine blk_drew ?_ | refine blk_alloc ?_ _)); refine blk_far ?_ NB707_714.out _; (with_reducible repeat (first | refine blk_drewN ?_ _ | refine blk_drew ?_ | refine blk_alloc ?_ _)); refine blk_far ?_ NB707_714.out _; (with_reducible repeat (first | refine blk_drewN ?_ _ | refine blk_drew ?_ | refine blk_alloc ?_ _)); refine blk_far ?_ NB707_714.out _; (with_reducible repeat (first | refine blk_drewN ?_ _ | refine blk_drew ?_ | refine blk_alloc ?_ _)); exact BK707.out⟩
 have n2_ : Aside0 ((((w5.setCell ⟨gb714, 0, none⟩ (.int .i64 t711)).setCell ⟨gb714, 1, none⟩ (.int .i64 t712)).setCell ⟨gb714, 2, none⟩ (.int .i64 t713)).heap[gb714]? = some (.cells #[.int .i64 t711, .int .i64 t712, .int .i64 t713] 32 (0, 0))) := ⟨by (with_reducible repeat (first | refine blk_drewN ?_ _ | refine blk_drew ?_ | refine blk_alloc ?_ _)); refine blk_put (cs := #[.int .i64 t711, .int .i64 t712, .int .i64 0]) ?_ 2 _ rfl; (with_reducible repeat (first | refine blk_drewN ?_ _ | refine blk_drew ?_ | refine blk_alloc ?_ _)); refine blk_put (cs := #[.int .i64 t711, .int .i64 0, .int .i64 0]) ?_ 1 _ rfl; (with_reducible repeat (first | refine blk_drewN ?_ _ | refine blk_drew ?_ | refine blk_alloc ?_ _)); refine blk_put (cs := #[.int .i64 0, .int .i64 0, .int .i64 0]) ?_ 0 _ rfl; (with_reducible repeat (first | refine blk_drewN ?_ _ | refine blk_drew ?_ | refine blk_alloc ?_ _)); exact BK714.out⟩
 have n3_ : Aside0 (Below w.heap.size w (((w5.setCell ⟨gb714, 0, none⟩ (.int .i64 t711)).setCell ⟨gb714, 1, none⟩ (.int .i64 t712)).setCell ⟨gb714, 2, none⟩ (.int .i64 t713))) := ⟨by repeat (first | (with_reducible first | exact HB.out | apply below_alloc | apply pw_below_drewN | apply below_drew1 | refine below_set ?_ GE707.out | refine below_set ?_ GE714.out) | exact HB.out)⟩
 (try clear HO710)
 (try clear BK707)
 (try clear BK714)
 (try clear HB)
 generalize (((w5.setCell ⟨gb714, 0, none⟩ (.int .i64 t711)).setCell ⟨gb714, 1, none⟩ (.int .i64 t712)).setCell ⟨gb714, 2, none⟩ (.int .i64 t713)) = w8 at n0_ n1_ n2_ n3_ ⊢
 have HO710 := n0_
 have BK707 := n1_
 have BK714 := n2_
 have HB := n3_
 clear n0_ n1_ n2_ n3_
 have n0_ := G.a (Kd.R_drew HO710.out)
 have n1_ := G.a (blk_drew BK707.out)
 have n2_ := G.a (blk_drew BK714.out)
 have n3_ := G.a (below_drew1 HB.out)
 clear HO710
 clear BK707
 clear BK714
 clear HB
 have HO710 := n0_
 have BK707 := n1_
 have BK714 := n2_
 have HB := n3_
 clear n0_ n1_ n2_ n3_
 refine start_ (n := 4) (S := fun w' => w'.cell? ⟨gb714, 0, none⟩ = some (.int .i64 t711) ∧ w'.cell? ⟨gb714, 1, none⟩ = some (.int .i64 t712) ∧ w'.cell? ⟨gb714, 2, none⟩ = some (.int .i64 t713)) (ds := []) #[false, false, false, false] (by kernel_rfl) rfl rfl ⟨(blk_cell BK714.out 0).trans rfl, (blk_cell BK714.out 1).trans rfl, (blk_cell BK714.out 2).trans rfl⟩ (fun hHeld => ?_)
 generalize w8.drew = w9 at HO710 BK707 BK714 HB hHeld ⊢
 refine pure_ (i := 0) (N := some 11) (v := ?_) (a' := ?_) #[true, false, false, false] rfl rfl (by kernel_rfl) (fun _ _ _ h => h) (Or.inl ⟨by rfl, ?_⟩) ?_ ?_
 rotate_left; (·intro w'; go_simp; with_reducible rfl); rotate_left; (·simp only [Act.put, List.setIfInBounds_toArray, List.set_cons_zero, List.set_cons_succ, i64_w, i32_w]; rfl)
 refine pure_ (i := 2) (N := some 2) (v := ?_) (a' := ?_) #[true, false, true, false] rfl rfl (by kernel_rfl) (fun _ _ _ h => h) (Or.inl ⟨by rfl, ?_⟩) ?_ ?_
 rotate_left; (·intro w'; go_simp; with_reducible rfl); rotate_left; (·simp only [Act.put, List.setIfInBounds_toArray, List.set_cons_zero, List.set_cons_succ, i64_w, i32_w]; rfl)
 refine take_ (i := 1) (N := some 12) (v := ?_) (a' := ?_) #[true, true, true, false] rfl rfl (by kernel_rfl) (fun _ _ _ h => h) (Or.inl ⟨by rfl, ?_⟩) hHeld ?_ ?_
 rotate_left; (·rintro w' ⟨s0, s1, s2⟩; go_simp; with_reducible rfl); rotate_left; (·simp only [Act.put, List.setIfInBounds_toArray, List.set_cons_zero, List.set_cons_succ, i64_w, i32_w]; rfl)
 refine one_ (i := 3) (N := none) #[true, true, true, true] rfl rfl (by kernel_rfl) (by decide) (fun K hK => ?_)
 have hs10 : w9.cell? ⟨gb707, 0, none⟩ = some (.int .i64 0) := (blk_cell BK707.out 0).trans rfl
 have hfs10 := blk_frozen BK707.out 0
 have hns10_1 := NB714_707.out
 have hms10_1 := NB707_714.out
 have hs11 : w9.cell? ⟨gb707, 1, none⟩ = some (.int .i64 0) := (blk_cell BK707.out 1).trans rfl
 have hfs11 := blk_frozen BK707.out 1
 have hns11_1 := NB714_707.out
 have hms11_1 := NB707_714.out
 have hs12 : w9.cell? ⟨gb707, 2, none⟩ = some (.int .i64 0) := (blk_cell BK707.out 2).trans rfl
 have hfs12 := blk_frozen BK707.out 2
 have hns12_1 := NB714_707.out
 have hms12_1 := NB707_714.out
 refine skip_ (w1 := ?_) (by rfl) rfl ?_ ?_
 rotate_left
 ·go_simp
  rfl
 refine hK.out _ _ ⟨((cell_far (p := ⟨gb707, _, none⟩) NB714_707.out _).trans (((cell_far (p := ⟨gb707, _, none⟩) NB714_707.out _).trans (((cell_far (p := ⟨gb707, _, none⟩) NB714_707.out _).trans (hHeld.1)))))), ((cell_far (p := ⟨gb707, _, none⟩) NB714_707.out _).trans (((cell_far (p := ⟨gb707, _, none⟩) NB714_707.out _).trans (((cell_far (p := ⟨gb707, _, none⟩) NB714_707.out _).trans (hHeld.2.1)))))), ((cell_far (p := ⟨gb707, _, none⟩) NB714_707.out _).trans (((cell_far (p := ⟨gb707, _, none⟩) NB714_707.out _).trans (((cell_far (p := ⟨gb707, _, none⟩) NB714_707.out _).trans (hHeld.2.2))))))⟩ (fun hHeld => ?_)
 clear hK K
 refine done_ (by kernel_rfl) ?_
 try go_wp2
 refine bodyPost_ret (results_tc rfl _ _ gb707 32 #[.int .i64 t711, .int .i64 t712, .int .i64 t713] (0, 0) _ rfl (by (with_reducible repeat (first | refine blk_drewN ?_ _ | refine blk_drew ?_ | refine blk_alloc ?_ _)); refine blk_put (cs := #[.int .i64 t711, .int .i64 t712, .int .i64 0]) ?_ 2 _ rfl; (with_reducible repeat (first | refine blk_drewN ?_ _ | refine blk_drew ?_ | refine blk_alloc ?_ _)); refine blk_put (cs := #[.int .i64 t711, .int .i64 0, .int .i64 0]) ?_ 1 _ rfl; (with_reducible repeat (first | refine blk_drewN ?_ _ | refine blk_drew ?_ | refine blk_alloc ?_ _)); refine blk_put (cs := #[.int .i64 0, .int .i64 0, .int .i64 0]) ?_ 0 _ rfl; (with_reducible repeat (first | refine blk_drewN ?_ _ | refine blk_drew ?_ | refine blk_alloc ?_ _)); exact BK707.out) Tryz.underlying32 rfl (by kernel_rfl)) rfl ?_
 first | exact ⟨_, _, _, _, _, HOK_.out, G.er, by (with_reducible repeat (first | apply Kd.R_alloc | apply Kd.R_drewN | apply Kd.R_drew)); exact Kd.R_mono (Kd.R_far (p := ⟨gb707, 2, none⟩) (Kd.R_far (p := ⟨gb707, 1, none⟩) (Kd.R_far (p := ⟨gb707, 0, none⟩) (Kd.R_types HO710.out BK707.out (by decide)) (fun _ hk => hk.2) (.int .i64 t711)) (fun _ hk => hk.2) (.int .i64 t712)) (fun _ hk => hk.2) (.int .i64 t713)) (fun _ hk => trivial), by repeat (first | (with_reducible first | exact HB.out | apply below_alloc | apply pw_below_drewN | apply below_drew1 | refine below_set ?_ GE707.out | refine below_set ?_ GE714.out) | exact HB.out)⟩ | exact ⟨_, _, _, _, HOK_.out, _, G.er, by (with_reducible repeat (first | apply Kd.R_alloc | apply Kd.R_drewN | apply Kd.R_drew)); exact Kd.R_mono (Kd.R_far (p := ⟨gb707, 2, none⟩) (Kd.R_far (p := ⟨gb707, 1, none⟩) (Kd.R_far (p := ⟨gb707, 0, none⟩) (Kd.R_types HO710.out BK707.out (by decide)) (fun _ hk => hk.2) (.int .i64 t711)) (fun _ hk => hk.2) (.int .i64 t712)) (fun _ hk => hk.2) (.int .i64 t713)) (fun _ hk => trivial), by repeat (first | (with_reducible first | exact HB.out | apply below_alloc | apply pw_below_drewN | apply below_drew1 | refine below_set ?_ GE707.out | refine below_set ?_ GE714.out) | exact HB.out)⟩
end
end Go.Proofs.YtolikggioekalabGreat.PFnRuns
