/- The law FnExactFactorsOf, walked call by call: where its pure parts answer as told, it answers true. No condition beyond those written. -/
import Derived.Test.YtolikggioekalabMFnExactFactorsOfx0
import Derived.Test.YtolikggioekalabMFnExactFactorsOfx1
import Derived.Test.YtolikggioekalabMFnExactFactorsOfx2
import Derived.Test.YtolikggioekalabMFnExactFactorsOfx3
import Derived.Test.YtolikggioekalabMFnExactFactorsOfx4
import Derived.Test.YtolikggioekalabGLaw
namespace Go.Proofs.Ytolikggioekalab.PFnExactFactorsOf
open Go.RowKit Go.Proofs.YtolikggioekalabW.PrintWords Go.Proofs.YtolikggioekalabW.PrintLast Go.Proofs.YtolikggioekalabW.PrintMore
set_option linter.unusedVariables false

/-! ### laws_markIntSS: marks the cells of rows that lie apart (own walk) -/
def laws_markIntSS.l0 : Nat → List (List Int) → Int → Int → Option (Int × List (List Int))
  | 0, _, _, _ => none
  | k + 1, x0, x1, x5 => if x5 < (x0.length : Int) then (if 0 ≤ x5 then ((laws_markIntS.f k (rd_L1 x0 x5) x1).bind fun bt => (laws_markIntSS.l0 k (x0.set (x5 : Int).toNat bt.2) bt.1 (wrap64 (x5 + 1)))) else (none)) else (some (x1, x0))
def laws_markIntSS.f (k : Nat) (l0 : List (List Int)) (a1 : Int) : Option (Int × List (List Int)) := laws_markIntSS.l0 k l0 a1 0
theorem laws_markIntSS.len_l : ∀ k x0 x1 x5 r, laws_markIntSS.l0 k x0 x1 x5 = some r → r.2.length = x0.length
  | 0, _, _, _, _, h => by simp [laws_markIntSS.l0] at h
  | k + 1, x0, x1, x5, r, h => by
    simp only [laws_markIntSS.l0] at h
    split at h
    · split at h
      · obtain ⟨bt, _, h⟩ := Option.bind_eq_some_iff.mp h
        have := laws_markIntSS.len_l k _ _ _ _ h
        rw [this, List.length_set]
      · cases h
    · cases h; rfl
theorem laws_markIntSS.len {k : Nat} {l : List (List Int)} {a : Int} {r : Int × List (List Int)} (h : laws_markIntSS.f k l a = some r) : r.2.length = l.length := laws_markIntSS.len_l k _ _ _ _ h
theorem laws_markIntSS.mono_l : ∀ k, (∀ y0 y1 y2, LeO (laws_markIntSS.l0 k y0 y1 y2) (laws_markIntSS.l0 (k + 1) y0 y1 y2))
  | 0 => fun _ _ _ r h => by simp [laws_markIntSS.l0] at h
  | k + 1 => by
    have ih0 := laws_markIntSS.mono_l k
    · intro y0 y1 y2
      unfold laws_markIntSS.l0
      repeat' first
      | (with_reducible exact ih0 _ _ _)
      | (with_reducible exact laws_markIntS.mono _ _ _)
      | (with_reducible exact LeO.refl _)
      | (with_reducible exact LeO.none _)
      | (with_reducible refine LeO.ite ?_ ?_)
      | (with_reducible refine LeO.bind ?_ (fun _ => ?_))
      | exact ih0 _ _ _
      | exact laws_markIntS.mono _ _ _
      | exact LeO.none _
      | refine LeO.ite ?_ ?_
      | refine LeO.bind ?_ (fun _ => ?_)
theorem laws_markIntSS.mono : ∀ a0 a1 k, LeO (laws_markIntSS.f k a0 a1) (laws_markIntSS.f (k + 1) a0 a1) := by
  intro a0 a1 k
  exact laws_markIntSS.mono_l k _ _ _
set_option maxHeartbeats 8000000 in
set_option maxRecDepth 100000 in
theorem laws_markIntSS.calls (k : Nat) (P0_ : Nat → Prop) (u9000_ : Value) (l0 : List (List Int)) (a1 : Int) (r1 : Int) (r2 : List (List Int)) (w0 w : World) (hB : Below w0.heap.size w0 w) (ho0 : Kd.S (Kd.slice 3 (Kd.int .i64)) 22 w w0.heap.size P0_ u9000_ l0) (h : laws_markIntSS.f k l0 a1 = some (r1, r2)) :
    Calls Try.prog 20 #[u9000_, .int .i64 a1] w fun e w' => e = .returned (.int .i64 r1) ∧ Kd.S (Kd.slice 3 (Kd.int .i64)) 22 w' w0.heap.size P0_ u9000_ r2 ∧ Below w0.heap.size w0 w' ∧ Kept w w' (fun k_ => P0_ k_) := by
  have HO0 := Aside0.mk ho0
  have HK := Aside0.mk (Kept.refl w (fun k_ => P0_ k_))
  have HW0 := Aside0.mk hB.size
  have HB := Aside0.mk hB
  clear hB ho0
  have H : (laws_markIntSS.l0 k l0 a1 0) = some (r1, r2) := h
  clear h
  have H' := Aside0.mk H
  clear H
  go_enter Try.func20, Try.ntmps20
  go_wp2
  go_loopg [1, 5] k (fun kq v1 v5 w' => ∃ (x0_1 : List (List Int)) (x1_1 : Int) (x5_1 : Int), v1 = .int .i64 x1_1 ∧ v5 = .int .i64 x5_1 ∧ Aside0 (laws_markIntSS.l0 kq x0_1 x1_1 x5_1 = some (r1, r2)) ∧ Aside0 (kq ≤ k) ∧ Aside0 (Kd.S (Kd.slice 3 (Kd.int .i64)) 22 w' w0.heap.size P0_ u9000_ x0_1) ∧ Aside0 (Kept w w' (fun k_ => P0_ k_)) ∧ Aside0 (Below w0.heap.size w0 w'))
  case atStart => exact ⟨(l0), (a1), (0), (by first | rfl | (simp; done) | (simp [*]; done)), (by first | rfl | (simp; done) | (simp [*]; done)), H', ⟨Nat.le_refl _⟩, ⟨by (with_reducible repeat (first | apply Kd.S_alloc | apply Kd.S_drewN | apply Kd.S_drew)); exact HO0.out⟩, ⟨by repeat (first | (with_reducible first | exact HK.out | apply Kept.alloc | apply Kept.drewN | apply Kept.drew) | exact HK.out)⟩, ⟨by repeat (first | (with_reducible first | exact HB.out | apply below_alloc | apply pw_below_drewN | apply below_drew1) | exact HB.out)⟩⟩
  case round =>
    clear H'
    try clear c1
    try clear p2
    obtain ⟨x0_1, x1_1, x5_1, rfl, rfl, HA, HK1, HO_0, HK, HB⟩ := hrel
    cases gk with
    | zero => exact absurd HA.out (by simp [laws_markIntSS.l0])
    | succ k1 =>
      have H := HA.out
      clear HA
      simp only [laws_markIntSS.l0] at H
      by_cases c3 : x5_1 < (x0_1.length : Int)
      · rw [if_pos c3] at H
        have c3b0 : decide (x5_1 < (x0_1.length : Int)) = true := decide_eq_true c3
        clear c3
        by_cases c4 : 0 ≤ x5_1
        · rw [if_pos c4] at H
          have c4b0 : decide (0 ≤ x5_1) = true := decide_eq_true c4
          clear c4
          replace H := Option.bind_eq_some_iff.mp H
          obtain ⟨⟨t5, t6⟩, A50, H⟩ := H
          replace H : (laws_markIntSS.l0 k1 (x0_1.set (x5_1 : Int).toNat t6) t5 (wrap64 (x5_1 + 1))) = some (r1, r2) := H
          have A5 := Aside0.mk A50
          clear A50
          have H' := Aside0.mk H
          clear H
          obtain ⟨Ao6, co6, eo6⟩ := Kd.S_slice HO_0.out
          subst eo6
          have p5 : 0 ≤ (x5_1 : Int) := of_decide_eq_true (by first | (with_reducible assumption) | assumption)
          have q5 : (x5_1 : Int) < ((x0_1.length : Int) : Int) := of_decide_eq_true (by first | (with_reducible assumption) | assumption)
          obtain ⟨go5, co5, eo5, gb5, gl5, cl5, HG5⟩ := Kd.S_form HO_0.out (by omega)
          (first | cases eo5 | (injection eo5 with ea_ en_ ec_; (first | subst ea_ | (injection ea_ with ea_; subst ea_)); subst ec_; clear en_))
          have GB5 := Aside0.mk gb5
          have GG5 := Aside0.mk HG5
          clear gb5 gl5 HG5
          obtain ⟨oki, ce5, hcl5, hM5, hcc5, hfr5, hoki, hH⟩ := Kd.S_elem HO_0.out [] (x5_1 : Int) p5 q5
          obtain ⟨ve5, rfl, ge5⟩ := hM5
          have hx5_0 := hcc5 0 _ rfl
          (try simp only [show ((Kd.slice 3 (Kd.int .i64))).sz = 1 from rfl, Nat.mul_one, Nat.add_zero] at hx5_0)
          clear hcl5 hcc5 hfr5
          have GE := Aside0.mk ge5
          have GH := Aside0.mk hH
          have GO := Aside0.mk hoki
          clear ge5 hH hoki
          replace p5 := eq_true p5
          replace q5 := eq_true q5
          go_wp2_with (first | (go_at_call 19; (with_reducible refine (laws_markIntS.calls k1 oki ve5 (rd_L1 x0_1 x5_1) x1_1 t5 t6 w0 _ ?side1 ?side2 A5.out).mono ?_); (case side1 => repeat (first | (with_reducible first | exact HB.out | apply below_alloc | apply pw_below_drewN | apply below_drew1) | exact HB.out)); (case side2 => (with_reducible repeat (first | apply Kd.R_alloc | apply Kd.R_drewN | apply Kd.R_drew)); exact GE.out); rintro e w24 ⟨rfl, hy0, hb, hkp⟩; have n0_ := Aside0.mk (Kd.H_back (Kd.H_step (by (with_reducible repeat (first | apply Kd.H_alloc | apply Kd.H_drewN | apply Kd.H_drew)); exact GH.out) (fun k_ _ hn_ hlt_ => hkp.2 k_ hlt_ hn_)) (x' := t6) (show (Kd.slice 3 (Kd.int .i64)).M w24 w0.heap.size oki t6 [ve5] from ⟨ve5, rfl, Kd.R_reok rfl hy0 (fun k_ e_ => GE.out.1 k_ e_)⟩) (fun _ hk_ => hk_)); have n1_ := Aside0.mk hb; have n2_ := Aside0.mk (HK.out.then_ (S2 := oki) (by exact hkp) (fun k_ hk_ => .inl (GO.out k_ hk_).1)); clear HO_0; clear HB; clear HK; have HO_0 := n0_; have HB := n1_; have HK := n2_; clear n0_ n1_ n2_; clear hy0 hb hkp))
          go_roundg k1
          case measure => have := HK1.out; omega
          case rel => exact ⟨(x0_1.set (x5_1 : Int).toNat t6), t5, (wrap64 (x5_1 + 1)), (by first | rfl | (simp; done) | (simp [*]; done)), (by first | rfl | (simp; done) | (simp [*]; done)), H', ⟨by have := HK1.out; omega⟩, ⟨by (with_reducible repeat (first | apply Kd.S_alloc | apply Kd.S_drewN | apply Kd.S_drew)); exact HO_0.out⟩, ⟨by repeat (first | (with_reducible first | exact HK.out | apply Kept.alloc | apply Kept.drewN | apply Kept.drew) | exact HK.out)⟩, ⟨by repeat (first | (with_reducible first | exact HB.out | apply below_alloc | apply pw_below_drewN | apply below_drew1) | exact HB.out)⟩⟩
        · rw [if_neg c4] at H
          exact absurd H (by simp)
      · rw [if_neg c3] at H
        have c3b0 : decide (x5_1 < (x0_1.length : Int)) = false := decide_eq_false c3
        clear c3
        obtain ⟨rfl, rfl⟩ := Prod.mk.inj (Option.some.inj H)
        obtain ⟨Ao6, co6, eo6⟩ := Kd.S_slice HO_0.out
        subst eo6
        go_wp2
        go_ret
        exact ⟨by first | rfl | (simp; done) | (simp [*]; done), by (with_reducible repeat (first | apply Kd.S_alloc | apply Kd.S_drewN | apply Kd.S_drew)); exact HO_0.out, by repeat (first | (with_reducible first | exact HB.out | apply below_alloc | apply pw_below_drewN | apply below_drew1) | exact HB.out), by repeat (first | (with_reducible first | exact HK.out | apply Kept.alloc | apply Kept.drewN | apply Kept.drew) | exact HK.out)⟩

/-- The check of marks, by whatever name the length goes. -/
theorem G_held (k : Nat) (A0 : Option Addr) (c0 : Nat) (n : Nat) (l0 : List (List Int)) (a1 : Int) (r : Int) (w : World) (hr0 : Kd.C (Kd.slice 3 (Kd.int .i64)) w A0 l0.length l0) (hn : n = l0.length) (hc0 : n ≤ c0) (h : laws_heldIntSS.f k l0 a1 = some r) :
    Calls Try.prog 21 #[.slice A0 n c0, .int .i64 a1] w fun e w' => e = .returned (.int .i64 r) ∧ Drawn0 w w' := by
  subst hn
  exact laws_heldIntSS.calls k A0 c0 l0 a1 r w hr0 hc0 h

set_option maxHeartbeats 4000000 in
set_option maxRecDepth 100000 in
theorem laws_FnExactFactorsOf.long0 (A0 : Option Addr) (c0 : Nat) (l0 : List Int) (a1 : Int) (w : World)  (h : 1048576 < l0.length) :
    Calls Try.prog 6 #[.slice A0 l0.length c0, .int .i64 a1] w fun e w' => e = .returned (.bool true) ∧ Below w.heap.size w w' := by
  have h' : decide ((l0.length : Int) > 1048576) = true := by simp; omega
  go_enter Try.func6, Try.ntmps6
  go_wp2
  go_ret
  exact ⟨rfl, Below.refl _ _⟩

set_option maxHeartbeats 16000000 in
set_option maxRecDepth 100000 in
theorem laws_FnExactFactorsOf.calls (k : Nat) (A0 : Option Addr) (c0 : Nat) (l0 : List Int) (a1 : Int) (R R' : List (List Int)) (b : Bool) (mg : Int) (m0 : Int) (x0 : List Int) (w : World) (hr0 : Kd.C (Kd.int .i64) w A0 l0.length l0) (hc0 : l0.length ≤ c0) (hl0 : l0.length ≤ 1048576)
    (hS : spec_FactorsOf.f k l0 a1 = some (R, b)) (hI : impl_FactorsOf.f k l0 a1 = some (R, b)) (hE : laws_eqIntSS.f k R R = some true) (hMR : laws_markIntSS.f k R 1 = some (mg, R')) (hmg : 0 ≤ mg) (hH : laws_heldIntSS.f k R' 1 = some mg) (hT0 : laws_toIntS.f k l0 = some l0) (hQ0 : laws_eqIntS.f k l0 l0 = some true) (hM0 : laws_markIntS.f k l0 1 = some (m0, x0)) (hm : 0 ≤ m0) :
    Calls Try.prog 6 #[.slice A0 l0.length c0, .int .i64 a1] w fun e w' => e = .returned (.bool true) ∧ Below w.heap.size w w' := by
  have HA0 := Aside0.mk hr0; have HC0 := Aside0.mk hc0; have FT0 := Aside0.mk hT0; have FQ0 := Aside0.mk hQ0; have FM0 := Aside0.mk hM0
  have FS := Aside0.mk hS; have FI := Aside0.mk hI; have FE := Aside0.mk hE; have FMR := Aside0.mk hMR; have FH := Aside0.mk hH
  have HB := Aside0.mk (Below.refl w.heap.size w); have HP := Aside0.mk (Nat.le_refl w.heap.size)
  have hg0 : decide ((l0.length : Int) > 1048576) = false := by simp; omega
  have hq1 : decide (m0 < 0) = false := by simp; omega
  have hq2 : decide (mg < 0) = false := by simp; omega
  clear hS hI hE hMR hH hmg hm hr0 hc0 hl0 hT0 hQ0 hM0
  go_enter Try.func6, Try.ntmps6
  go_wp2_with fail
  refine (laws_toIntS.calls k _ _ l0 l0 _ (Kd.C_below HA0.out HB.out) HC0.out FT0.out).mono ?_
  rintro e w1_ ⟨vT0, rfl, ho, hb⟩
  obtain ⟨AT0, cT0, rfl⟩ := Kd.R_slice ho
  obtain ⟨loT0, hiT0, hp_, hl_, hs_, hf_⟩ := G.R_made (p := w.heap.size) ho HB.out hb HP.out
  have nb_ := Aside0.mk (below_step HB.out hb); have np_ := Aside0.mk (Nat.le_trans HP.out hb.size); clear HB HP; have HB := nb_; have HP := np_; clear nb_ np_
  have HOT0 := Aside0.mk hp_; have HLT0 := Aside0.mk hl_; clear HP; have HP := Aside0.mk hs_; have HT0 := Aside0.mk hf_; clear ho hb hp_ hl_ hs_ hf_
  go_wp2_with fail
  refine (spec_FactorsOf.calls k _ _ l0 a1 R b _ (Kd.R_reads' HT0.out).2.2 (Kd.R_reads' HT0.out).2.1 FS.out).mono ?_
  rintro e w2_ ⟨vW, rfl, ho, hb⟩
  obtain ⟨AW, cW, rfl⟩ := Kd.N_slice ho
  obtain ⟨loW, hiW, hp_, hl_, hs_, hf_⟩ := G.N_made (p := hiT0) ho HB.out hb HP.out
  have n0_ := Aside0.mk (Kd.R_below HT0.out hb)
  clear HT0; have HT0 := n0_; clear n0_
  have nb_ := Aside0.mk (below_step HB.out hb); have np_ := Aside0.mk (Nat.le_trans HP.out hb.size); clear HB HP; have HB := nb_; have HP := np_; clear nb_ np_
  have HOW := Aside0.mk hp_; have HLW := Aside0.mk hl_; clear HP; have HP := Aside0.mk hs_; have HW := Aside0.mk hf_; clear ho hb hp_ hl_ hs_ hf_
  clear HT0
  go_wp2_with fail
  refine (laws_toIntS.calls k _ _ l0 l0 _ (Kd.C_below HA0.out HB.out) HC0.out FT0.out).mono ?_
  rintro e w3_ ⟨vX0, rfl, ho, hb⟩
  obtain ⟨AX0, cX0, rfl⟩ := Kd.R_slice ho
  obtain ⟨loX0, hiX0, hp_, hl_, hs_, hf_⟩ := G.R_made (p := hiW) ho HB.out hb HP.out
  have n0_ := Aside0.mk (Kd.N_below HW.out hb)
  clear HW; have HW := n0_; clear n0_
  have nb_ := Aside0.mk (below_step HB.out hb); have np_ := Aside0.mk (Nat.le_trans HP.out hb.size); clear HB HP; have HB := nb_; have HP := np_; clear nb_ np_
  have HOX0 := Aside0.mk hp_; have HLX0 := Aside0.mk hl_; clear HP; have HP := Aside0.mk hs_; have HX0 := Aside0.mk hf_; clear ho hb hp_ hl_ hs_ hf_
  go_wp2_with fail
  refine (impl_FactorsOf.calls k _ _ l0 a1 R b _ (Kd.R_reads' HX0.out).2.2 (Kd.R_reads' HX0.out).2.1 FI.out).mono ?_
  rintro e w4_ ⟨vG, rfl, ho, hb⟩
  obtain ⟨AG, cG, rfl⟩ := Kd.S_slice ho
  obtain ⟨loG, hiG, hp_, hl_, hs_, hf_⟩ := G.S_made (p := hiX0) ho HB.out hb HP.out
  have n0_ := Aside0.mk (Kd.N_below HW.out hb)
  have n1_ := Aside0.mk (Kd.R_below HX0.out hb)
  clear HW; have HW := n0_; clear n0_
  clear HX0; have HX0 := n1_; clear n1_
  have nb_ := Aside0.mk (below_step HB.out hb); have np_ := Aside0.mk (Nat.le_trans HP.out hb.size); clear HB HP; have HB := nb_; have HP := np_; clear nb_ np_
  have HOG := Aside0.mk hp_; have HLG := Aside0.mk hl_; clear HP; have HP := Aside0.mk hs_; have HG := Aside0.mk hf_; clear ho hb hp_ hl_ hs_ hf_
  go_wp2_with fail
  refine (laws_eqIntSS.calls k _ _ R _ _ R true _ (Kd.S_reads' HG.out).2.2 (Kd.S_reads' HG.out).2.1 (Kd.N_reads' HW.out).2.2 (Kd.N_reads' HW.out).2.1 FE.out).mono ?_
  rintro e w5_ ⟨rfl, hd⟩
  have hb := G.drawn_below hd
  have n0_ := Aside0.mk (Kd.N_below HW.out hb)
  have n1_ := Aside0.mk (Kd.R_below HX0.out hb)
  have n2_ := Aside0.mk (Kd.S_below HG.out hb)
  clear HW; have HW := n0_; clear n0_
  clear HX0; have HX0 := n1_; clear n1_
  clear HG; have HG := n2_; clear n2_
  have nb_ := Aside0.mk (below_step HB.out hb); have np_ := Aside0.mk (Nat.le_trans HP.out hb.size); clear HB HP; have HB := nb_; have HP := np_; clear nb_ np_
  clear hd hb
  go_wp2_with fail
  refine (laws_toIntS.calls k _ _ l0 l0 _ (Kd.C_below HA0.out HB.out) HC0.out FT0.out).mono ?_
  rintro e w6_ ⟨vY0, rfl, ho, hb⟩
  obtain ⟨AY0, cY0, rfl⟩ := Kd.R_slice ho
  obtain ⟨loY0, hiY0, hp_, hl_, hs_, hf_⟩ := G.R_made (p := hiG) ho HB.out hb HP.out
  have n0_ := Aside0.mk (Kd.N_below HW.out hb)
  have n1_ := Aside0.mk (Kd.R_below HX0.out hb)
  have n2_ := Aside0.mk (Kd.S_below HG.out hb)
  clear HW; have HW := n0_; clear n0_
  clear HX0; have HX0 := n1_; clear n1_
  clear HG; have HG := n2_; clear n2_
  have nb_ := Aside0.mk (below_step HB.out hb); have np_ := Aside0.mk (Nat.le_trans HP.out hb.size); clear HB HP; have HB := nb_; have HP := np_; clear nb_ np_
  have HOY0 := Aside0.mk hp_; have HLY0 := Aside0.mk hl_; clear HP; have HP := Aside0.mk hs_; have HY0 := Aside0.mk hf_; clear ho hb hp_ hl_ hs_ hf_
  go_wp2_with fail
  refine (laws_eqIntS.calls k _ _ l0 _ _ l0 true _ (Kd.R_reads' HX0.out).2.2 (Kd.R_reads' HX0.out).2.1 (Kd.R_reads' HY0.out).2.2 (Kd.R_reads' HY0.out).2.1 FQ0.out).mono ?_
  rintro e w7_ ⟨rfl, hd⟩
  have hb := G.drawn_below hd
  have n0_ := Aside0.mk (Kd.N_below HW.out hb)
  have n1_ := Aside0.mk (Kd.R_below HX0.out hb)
  have n2_ := Aside0.mk (Kd.S_below HG.out hb)
  have n3_ := Aside0.mk (Kd.R_below HY0.out hb)
  clear HW; have HW := n0_; clear n0_
  clear HX0; have HX0 := n1_; clear n1_
  clear HG; have HG := n2_; clear n2_
  clear HY0; have HY0 := n3_; clear n3_
  have nb_ := Aside0.mk (below_step HB.out hb); have np_ := Aside0.mk (Nat.le_trans HP.out hb.size); clear HB HP; have HB := nb_; have HP := np_; clear nb_ np_
  clear hd hb
  clear HY0
  go_wp2_with fail
  refine (laws_markIntS.calls k (G.Span loX0 hiX0) _ l0 1 m0 x0 w _ HB.out HX0.out FM0.out).mono ?_
  rintro e w8_ ⟨rfl, hy, hb, hkp⟩
  have ha_W : hiW ≤ loX0 := by
    have h0_ := HOX0.out
    omega
  have ha_G : hiX0 ≤ loG := by
    have h0_ := HOG.out
    omega
  have n0_ := Aside0.mk (G.N_marked HW.out hkp (.inl ha_W))
  have n1_ := Aside0.mk (G.S_marked HG.out hkp (.inr ha_G))
  have n2_ := Aside0.mk (G.R_marked' rfl HX0.out hy)
  have np_ := Aside0.mk (Nat.le_trans HP.out hkp.1); have nb_ := Aside0.mk hb
  clear HW; have HW := n0_; clear n0_
  clear HG; have HG := n1_; clear n1_
  clear HX0; have HX0 := n2_; clear n2_
  clear HP HB; have HP := np_; have HB := nb_; clear np_ nb_ hy hb hkp ha_W ha_G
  clear HX0
  go_wp2_with fail
  refine (laws_eqIntSS.calls k _ _ R _ _ R true _ (Kd.S_reads' HG.out).2.2 (Kd.S_reads' HG.out).2.1 (Kd.N_reads' HW.out).2.2 (Kd.N_reads' HW.out).2.1 FE.out).mono ?_
  rintro e w9_ ⟨rfl, hd⟩
  have hb := G.drawn_below hd
  have n0_ := Aside0.mk (Kd.N_below HW.out hb)
  have n1_ := Aside0.mk (Kd.S_below HG.out hb)
  clear HW; have HW := n0_; clear n0_
  clear HG; have HG := n1_; clear n1_
  have nb_ := Aside0.mk (below_step HB.out hb); have np_ := Aside0.mk (Nat.le_trans HP.out hb.size); clear HB HP; have HB := nb_; have HP := np_; clear nb_ np_
  clear hd hb
  go_wp2_with fail
  refine (laws_markIntSS.calls k (G.Span loG hiG) _ R 1 mg R' w _ HB.out HG.out FMR.out).mono ?_
  rintro e w10_ ⟨rfl, hy, hb, hkp⟩
  have ha_W : hiW ≤ loG := by
    have h0_ := HOX0.out
    have h1_ := HOG.out
    have s0_ := HLX0.out
    omega
  have n0_ := Aside0.mk (G.N_marked HW.out hkp (.inl ha_W))
  have n1_ := Aside0.mk (hy)
  have np_ := Aside0.mk (Nat.le_trans HP.out hkp.1); have nb_ := Aside0.mk hb
  clear HW; have HW := n0_; clear n0_
  clear HG; have HG := n1_; clear n1_
  clear HP HB; have HP := np_; have HB := nb_; clear np_ nb_ hy hb hkp ha_W
  go_wp2_with fail
  refine (G_held k _ _ R.length R' 1 mg _ (Kd.S_reads' HG.out).2.2 (Kd.S_reads' HG.out).1 (Kd.S_reads' HG.out).2.1 FH.out).mono ?_
  rintro e w11_ ⟨rfl, hd⟩
  have hb := G.drawn_below hd
  have n0_ := Aside0.mk (Kd.N_below HW.out hb)
  have n1_ := Aside0.mk (Kd.S_below HG.out hb)
  clear HW; have HW := n0_; clear n0_
  clear HG; have HG := n1_; clear n1_
  have nb_ := Aside0.mk (below_step HB.out hb); have np_ := Aside0.mk (Nat.le_trans HP.out hb.size); clear HB HP; have HB := nb_; have HP := np_; clear nb_ np_
  clear hd hb
  go_wp2_with fail
  refine (laws_toIntS.calls k _ _ l0 l0 _ (Kd.C_below HA0.out HB.out) HC0.out FT0.out).mono ?_
  rintro e w12_ ⟨vU0, rfl, ho, hb⟩
  obtain ⟨AU0, cU0, rfl⟩ := Kd.R_slice ho
  obtain ⟨loU0, hiU0, hp_, hl_, hs_, hf_⟩ := G.R_made (p := hiY0) ho HB.out hb HP.out
  have n0_ := Aside0.mk (Kd.N_below HW.out hb)
  have n1_ := Aside0.mk (Kd.S_below HG.out hb)
  clear HW; have HW := n0_; clear n0_
  clear HG; have HG := n1_; clear n1_
  have nb_ := Aside0.mk (below_step HB.out hb); have np_ := Aside0.mk (Nat.le_trans HP.out hb.size); clear HB HP; have HB := nb_; have HP := np_; clear nb_ np_
  have HOU0 := Aside0.mk hp_; have HLU0 := Aside0.mk hl_; clear HP; have HP := Aside0.mk hs_; have HU0 := Aside0.mk hf_; clear ho hb hp_ hl_ hs_ hf_
  go_wp2_with fail
  refine (impl_FactorsOf.calls k _ _ l0 a1 R b _ (Kd.R_reads' HU0.out).2.2 (Kd.R_reads' HU0.out).2.1 FI.out).mono ?_
  rintro e w13_ ⟨vH, rfl, ho, hb⟩
  obtain ⟨AH, cH, rfl⟩ := Kd.S_slice ho
  obtain ⟨loH, hiH, hp_, hl_, hs_, hf_⟩ := G.S_made (p := hiU0) ho HB.out hb HP.out
  have n0_ := Aside0.mk (Kd.N_below HW.out hb)
  have n1_ := Aside0.mk (Kd.S_below HG.out hb)
  have n2_ := Aside0.mk (Kd.R_below HU0.out hb)
  clear HW; have HW := n0_; clear n0_
  clear HG; have HG := n1_; clear n1_
  clear HU0; have HU0 := n2_; clear n2_
  have nb_ := Aside0.mk (below_step HB.out hb); have np_ := Aside0.mk (Nat.le_trans HP.out hb.size); clear HB HP; have HB := nb_; have HP := np_; clear nb_ np_
  have HOH := Aside0.mk hp_; have HLH := Aside0.mk hl_; clear HP; have HP := Aside0.mk hs_; have HH := Aside0.mk hf_; clear ho hb hp_ hl_ hs_ hf_
  clear HU0
  go_wp2_with fail
  refine (laws_eqIntSS.calls k _ _ R _ _ R true _ (Kd.S_reads' HH.out).2.2 (Kd.S_reads' HH.out).2.1 (Kd.N_reads' HW.out).2.2 (Kd.N_reads' HW.out).2.1 FE.out).mono ?_
  rintro e w14_ ⟨rfl, hd⟩
  have hb := G.drawn_below hd
  have n0_ := Aside0.mk (Kd.N_below HW.out hb)
  have n1_ := Aside0.mk (Kd.S_below HG.out hb)
  have n2_ := Aside0.mk (Kd.S_below HH.out hb)
  clear HW; have HW := n0_; clear n0_
  clear HG; have HG := n1_; clear n1_
  clear HH; have HH := n2_; clear n2_
  have nb_ := Aside0.mk (below_step HB.out hb); have np_ := Aside0.mk (Nat.le_trans HP.out hb.size); clear HB HP; have HB := nb_; have HP := np_; clear nb_ np_
  clear hd hb
  go_wp2_with fail
  refine (G_held k _ _ R.length R' 1 mg _ (Kd.S_reads' HG.out).2.2 (Kd.S_reads' HG.out).1 (Kd.S_reads' HG.out).2.1 FH.out).mono ?_
  rintro e w15_ ⟨rfl, hd⟩
  have hb := G.drawn_below hd
  have n0_ := Aside0.mk (Kd.N_below HW.out hb)
  have n1_ := Aside0.mk (Kd.S_below HG.out hb)
  have n2_ := Aside0.mk (Kd.S_below HH.out hb)
  clear HW; have HW := n0_; clear n0_
  clear HG; have HG := n1_; clear n1_
  clear HH; have HH := n2_; clear n2_
  have nb_ := Aside0.mk (below_step HB.out hb); have np_ := Aside0.mk (Nat.le_trans HP.out hb.size); clear HB HP; have HB := nb_; have HP := np_; clear nb_ np_
  clear hd hb
  go_wp2
  go_ret
  exact ⟨rfl, HB.out⟩

end Go.Proofs.Ytolikggioekalab.PFnExactFactorsOf
