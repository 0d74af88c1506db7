/- The law FnExactPalindromesOf, walked call by call: where its pure parts answer as told, it answers true. No condition beyond those written. -/
import Derived.Test.YtolikggioekalabMFnExactPalindromesOfx0
import Derived.Test.YtolikggioekalabMFnExactPalindromesOfx1
import Derived.Test.YtolikggioekalabMFnExactPalindromesOfx2
import Derived.Test.YtolikggioekalabMFnExactPalindromesOfx3
import Derived.Test.YtolikggioekalabMFnExactPalindromesOfx4
import Derived.Test.YtolikggioekalabMFnExactPalindromesOfx5
import Derived.Test.YtolikggioekalabMFnExactPalindromesOfx6
import Derived.Test.YtolikggioekalabGLaw
namespace Go.Proofs.Ytolikggioekalab.PFnExactPalindromesOf
open Go.RowKit Go.Proofs.YtolikggioekalabW.PrintWords Go.Proofs.YtolikggioekalabW.PrintLast Go.Proofs.YtolikggioekalabW.PrintMore
set_option linter.unusedVariables false

/-- The check of marks, by whatever name the length goes. -/
theorem G_held (k : Nat) (A0 : Option Addr) (c0 : Nat) (n : Nat) (l0 : List (List Int)) (a1 : Int) (r : Int) (w : World) (hr0 : Kd.C (Kd.slice 3 (Kd.int .i64)) w A0 l0.length l0) (hn : n = l0.length) (hc0 : n ≤ c0) (h : laws_heldIntSS.f k l0 a1 = some r) :
    Calls Try.prog 21 #[.slice A0 n c0, .int .i64 a1] w fun e w' => e = .returned (.int .i64 r) ∧ Drawn0 w w' := by
  subst hn
  exact laws_heldIntSS.calls k A0 c0 l0 a1 r w hr0 hc0 h

set_option maxHeartbeats 4000000 in
set_option maxRecDepth 100000 in
theorem laws_FnExactPalindromesOf.long0 (A0 : Option Addr) (c0 : Nat) (l0 : List Int) (w : World)  (h : 1048576 < l0.length) :
    Calls Try.prog 8 #[.slice A0 l0.length c0] w fun e w' => e = .returned (.bool true) ∧ Below w.heap.size w w' := by
  have h' : decide ((l0.length : Int) > 1048576) = true := by simp; omega
  go_enter Try.func8, Try.ntmps8
  go_wp2
  go_ret
  exact ⟨rfl, Below.refl _ _⟩

set_option maxHeartbeats 16000000 in
set_option maxRecDepth 100000 in
theorem laws_FnExactPalindromesOf.calls (k : Nat) (A0 : Option Addr) (c0 : Nat) (l0 : List Int) (R R' : List (List Int)) (mg : Int) (m0 : Int) (x0 : List Int) (w : World) (hr0 : Kd.C (Kd.int .i64) w A0 l0.length l0) (hc0 : l0.length ≤ c0) (hl0 : l0.length ≤ 1048576)
    (hS : spec_PalindromesOf.f k l0 = some R) (hI : impl_PalindromesOf.f k l0 = some R) (hE : laws_eqIntSS.f k R R = some true) (hMR : laws_markIntSS.f k R 1 = some (mg, R')) (hmg : 0 ≤ mg) (hH : laws_heldIntSS.f k R' 1 = some mg) (hT0 : laws_toIntS.f k l0 = some l0) (hQ0 : laws_eqIntS.f k l0 l0 = some true) (hM0 : laws_markIntS.f k l0 1 = some (m0, x0)) (hm : 0 ≤ m0) :
    Calls Try.prog 8 #[.slice A0 l0.length c0] w fun e w' => e = .returned (.bool true) ∧ Below w.heap.size w w' := by
  have HA0 := Aside0.mk hr0; have HC0 := Aside0.mk hc0; have FT0 := Aside0.mk hT0; have FQ0 := Aside0.mk hQ0; have FM0 := Aside0.mk hM0
  have FS := Aside0.mk hS; have FI := Aside0.mk hI; have FE := Aside0.mk hE; have FMR := Aside0.mk hMR; have FH := Aside0.mk hH
  have HB := Aside0.mk (Below.refl w.heap.size w); have HP := Aside0.mk (Nat.le_refl w.heap.size)
  have hg0 : decide ((l0.length : Int) > 1048576) = false := by simp; omega
  have hq1 : decide (m0 < 0) = false := by simp; omega
  have hq2 : decide (mg < 0) = false := by simp; omega
  clear hS hI hE hMR hH hmg hm hr0 hc0 hl0 hT0 hQ0 hM0
  go_enter Try.func8, Try.ntmps8
  go_wp2_with fail
  refine (laws_toIntS.calls k _ _ l0 l0 _ (Kd.C_below HA0.out HB.out) HC0.out FT0.out).mono ?_
  rintro e w1_ ⟨vT0, rfl, ho, hb⟩
  obtain ⟨AT0, cT0, rfl⟩ := Kd.R_slice ho
  obtain ⟨loT0, hiT0, hp_, hl_, hs_, hf_⟩ := G.R_made (p := w.heap.size) ho HB.out hb HP.out
  have nb_ := Aside0.mk (below_step HB.out hb); have np_ := Aside0.mk (Nat.le_trans HP.out hb.size); clear HB HP; have HB := nb_; have HP := np_; clear nb_ np_
  have HOT0 := Aside0.mk hp_; have HLT0 := Aside0.mk hl_; clear HP; have HP := Aside0.mk hs_; have HT0 := Aside0.mk hf_; clear ho hb hp_ hl_ hs_ hf_
  go_wp2_with fail
  refine (spec_PalindromesOf.calls k _ _ l0 R _ (Kd.R_reads' HT0.out).2.2 (Kd.R_reads' HT0.out).2.1 FS.out).mono ?_
  rintro e w2_ ⟨vW, rfl, ho, hb⟩
  obtain ⟨AW, cW, rfl⟩ := Kd.N_slice ho
  obtain ⟨loW, hiW, hp_, hl_, hs_, hf_⟩ := G.N_made (p := hiT0) ho HB.out hb HP.out
  have n0_ := Aside0.mk (Kd.R_below HT0.out hb)
  clear HT0; have HT0 := n0_; clear n0_
  have nb_ := Aside0.mk (below_step HB.out hb); have np_ := Aside0.mk (Nat.le_trans HP.out hb.size); clear HB HP; have HB := nb_; have HP := np_; clear nb_ np_
  have HOW := Aside0.mk hp_; have HLW := Aside0.mk hl_; clear HP; have HP := Aside0.mk hs_; have HW := Aside0.mk hf_; clear ho hb hp_ hl_ hs_ hf_
  clear HT0
  go_wp2_with fail
  refine (laws_toIntS.calls k _ _ l0 l0 _ (Kd.C_below HA0.out HB.out) HC0.out FT0.out).mono ?_
  rintro e w3_ ⟨vX0, rfl, ho, hb⟩
  obtain ⟨AX0, cX0, rfl⟩ := Kd.R_slice ho
  obtain ⟨loX0, hiX0, hp_, hl_, hs_, hf_⟩ := G.R_made (p := hiW) ho HB.out hb HP.out
  have n0_ := Aside0.mk (Kd.N_below HW.out hb)
  clear HW; have HW := n0_; clear n0_
  have nb_ := Aside0.mk (below_step HB.out hb); have np_ := Aside0.mk (Nat.le_trans HP.out hb.size); clear HB HP; have HB := nb_; have HP := np_; clear nb_ np_
  have HOX0 := Aside0.mk hp_; have HLX0 := Aside0.mk hl_; clear HP; have HP := Aside0.mk hs_; have HX0 := Aside0.mk hf_; clear ho hb hp_ hl_ hs_ hf_
  go_wp2_with fail
  refine (impl_PalindromesOf.calls k _ _ l0 R _ (Kd.R_reads' HX0.out).2.2 (Kd.R_reads' HX0.out).2.1 FI.out).mono ?_
  rintro e w4_ ⟨vG, rfl, ho, hb⟩
  obtain ⟨AG, cG, rfl⟩ := Kd.S_slice ho
  obtain ⟨loG, hiG, hp_, hl_, hs_, hf_⟩ := G.S_made (p := hiX0) ho HB.out hb HP.out
  have n0_ := Aside0.mk (Kd.N_below HW.out hb)
  have n1_ := Aside0.mk (Kd.R_below HX0.out hb)
  clear HW; have HW := n0_; clear n0_
  clear HX0; have HX0 := n1_; clear n1_
  have nb_ := Aside0.mk (below_step HB.out hb); have np_ := Aside0.mk (Nat.le_trans HP.out hb.size); clear HB HP; have HB := nb_; have HP := np_; clear nb_ np_
  have HOG := Aside0.mk hp_; have HLG := Aside0.mk hl_; clear HP; have HP := Aside0.mk hs_; have HG := Aside0.mk hf_; clear ho hb hp_ hl_ hs_ hf_
  go_wp2_with fail
  refine (laws_eqIntSS.calls k _ _ R _ _ R true _ (Kd.S_reads' HG.out).2.2 (Kd.S_reads' HG.out).2.1 (Kd.N_reads' HW.out).2.2 (Kd.N_reads' HW.out).2.1 FE.out).mono ?_
  rintro e w5_ ⟨rfl, hd⟩
  have hb := G.drawn_below hd
  have n0_ := Aside0.mk (Kd.N_below HW.out hb)
  have n1_ := Aside0.mk (Kd.R_below HX0.out hb)
  have n2_ := Aside0.mk (Kd.S_below HG.out hb)
  clear HW; have HW := n0_; clear n0_
  clear HX0; have HX0 := n1_; clear n1_
  clear HG; have HG := n2_; clear n2_
  have nb_ := Aside0.mk (below_step HB.out hb); have np_ := Aside0.mk (Nat.le_trans HP.out hb.size); clear HB HP; have HB := nb_; have HP := np_; clear nb_ np_
  clear hd hb
  go_wp2_with fail
  refine (laws_toIntS.calls k _ _ l0 l0 _ (Kd.C_below HA0.out HB.out) HC0.out FT0.out).mono ?_
  rintro e w6_ ⟨vY0, rfl, ho, hb⟩
  obtain ⟨AY0, cY0, rfl⟩ := Kd.R_slice ho
  obtain ⟨loY0, hiY0, hp_, hl_, hs_, hf_⟩ := G.R_made (p := hiG) ho HB.out hb HP.out
  have n0_ := Aside0.mk (Kd.N_below HW.out hb)
  have n1_ := Aside0.mk (Kd.R_below HX0.out hb)
  have n2_ := Aside0.mk (Kd.S_below HG.out hb)
  clear HW; have HW := n0_; clear n0_
  clear HX0; have HX0 := n1_; clear n1_
  clear HG; have HG := n2_; clear n2_
  have nb_ := Aside0.mk (below_step HB.out hb); have np_ := Aside0.mk (Nat.le_trans HP.out hb.size); clear HB HP; have HB := nb_; have HP := np_; clear nb_ np_
  have HOY0 := Aside0.mk hp_; have HLY0 := Aside0.mk hl_; clear HP; have HP := Aside0.mk hs_; have HY0 := Aside0.mk hf_; clear ho hb hp_ hl_ hs_ hf_
  go_wp2_with fail
  refine (laws_eqIntS.calls k _ _ l0 _ _ l0 true _ (Kd.R_reads' HX0.out).2.2 (Kd.R_reads' HX0.out).2.1 (Kd.R_reads' HY0.out).2.2 (Kd.R_reads' HY0.out).2.1 FQ0.out).mono ?_
  rintro e w7_ ⟨rfl, hd⟩
  have hb := G.drawn_below hd
  have n0_ := Aside0.mk (Kd.N_below HW.out hb)
  have n1_ := Aside0.mk (Kd.R_below HX0.out hb)
  have n2_ := Aside0.mk (Kd.S_below HG.out hb)
  have n3_ := Aside0.mk (Kd.R_below HY0.out hb)
  clear HW; have HW := n0_; clear n0_
  clear HX0; have HX0 := n1_; clear n1_
  clear HG; have HG := n2_; clear n2_
  clear HY0; have HY0 := n3_; clear n3_
  have nb_ := Aside0.mk (below_step HB.out hb); have np_ := Aside0.mk (Nat.le_trans HP.out hb.size); clear HB HP; have HB := nb_; have HP := np_; clear nb_ np_
  clear hd hb
  clear HY0
  go_wp2_with fail
  refine (laws_markIntS.calls k (G.Span loX0 hiX0) _ l0 1 m0 x0 w _ HB.out HX0.out FM0.out).mono ?_
  rintro e w8_ ⟨rfl, hy, hb, hkp⟩
  have ha_W : hiW ≤ loX0 := by
    have h0_ := HOX0.out
    omega
  have ha_G : hiX0 ≤ loG := by
    have h0_ := HOG.out
    omega
  have n0_ := Aside0.mk (G.N_marked HW.out hkp (.inl ha_W))
  have n1_ := Aside0.mk (G.S_marked HG.out hkp (.inr ha_G))
  have n2_ := Aside0.mk (G.R_marked' rfl HX0.out hy)
  have np_ := Aside0.mk (Nat.le_trans HP.out hkp.1); have nb_ := Aside0.mk hb
  clear HW; have HW := n0_; clear n0_
  clear HG; have HG := n1_; clear n1_
  clear HX0; have HX0 := n2_; clear n2_
  clear HP HB; have HP := np_; have HB := nb_; clear np_ nb_ hy hb hkp ha_W ha_G
  clear HX0
  go_wp2_with fail
  refine (laws_eqIntSS.calls k _ _ R _ _ R true _ (Kd.S_reads' HG.out).2.2 (Kd.S_reads' HG.out).2.1 (Kd.N_reads' HW.out).2.2 (Kd.N_reads' HW.out).2.1 FE.out).mono ?_
  rintro e w9_ ⟨rfl, hd⟩
  have hb := G.drawn_below hd
  have n0_ := Aside0.mk (Kd.N_below HW.out hb)
  have n1_ := Aside0.mk (Kd.S_below HG.out hb)
  clear HW; have HW := n0_; clear n0_
  clear HG; have HG := n1_; clear n1_
  have nb_ := Aside0.mk (below_step HB.out hb); have np_ := Aside0.mk (Nat.le_trans HP.out hb.size); clear HB HP; have HB := nb_; have HP := np_; clear nb_ np_
  clear hd hb
  go_wp2_with fail
  refine (laws_markIntSS.calls k (G.Span loG hiG) _ R 1 mg R' w _ HB.out HG.out FMR.out).mono ?_
  rintro e w10_ ⟨rfl, hy, hb, hkp⟩
  have ha_W : hiW ≤ loG := by
    have h0_ := HOX0.out
    have h1_ := HOG.out
    have s0_ := HLX0.out
    omega
  have n0_ := Aside0.mk (G.N_marked HW.out hkp (.inl ha_W))
  have n1_ := Aside0.mk (hy)
  have np_ := Aside0.mk (Nat.le_trans HP.out hkp.1); have nb_ := Aside0.mk hb
  clear HW; have HW := n0_; clear n0_
  clear HG; have HG := n1_; clear n1_
  clear HP HB; have HP := np_; have HB := nb_; clear np_ nb_ hy hb hkp ha_W
  go_wp2_with fail
  refine (G_held k _ _ R.length R' 1 mg _ (Kd.S_reads' HG.out).2.2 (Kd.S_reads' HG.out).1 (Kd.S_reads' HG.out).2.1 FH.out).mono ?_
  rintro e w11_ ⟨rfl, hd⟩
  have hb := G.drawn_below hd
  have n0_ := Aside0.mk (Kd.N_below HW.out hb)
  have n1_ := Aside0.mk (Kd.S_below HG.out hb)
  clear HW; have HW := n0_; clear n0_
  clear HG; have HG := n1_; clear n1_
  have nb_ := Aside0.mk (below_step HB.out hb); have np_ := Aside0.mk (Nat.le_trans HP.out hb.size); clear HB HP; have HB := nb_; have HP := np_; clear nb_ np_
  clear hd hb
  go_wp2_with fail
  refine (laws_toIntS.calls k _ _ l0 l0 _ (Kd.C_below HA0.out HB.out) HC0.out FT0.out).mono ?_
  rintro e w12_ ⟨vU0, rfl, ho, hb⟩
  obtain ⟨AU0, cU0, rfl⟩ := Kd.R_slice ho
  obtain ⟨loU0, hiU0, hp_, hl_, hs_, hf_⟩ := G.R_made (p := hiY0) ho HB.out hb HP.out
  have n0_ := Aside0.mk (Kd.N_below HW.out hb)
  have n1_ := Aside0.mk (Kd.S_below HG.out hb)
  clear HW; have HW := n0_; clear n0_
  clear HG; have HG := n1_; clear n1_
  have nb_ := Aside0.mk (below_step HB.out hb); have np_ := Aside0.mk (Nat.le_trans HP.out hb.size); clear HB HP; have HB := nb_; have HP := np_; clear nb_ np_
  have HOU0 := Aside0.mk hp_; have HLU0 := Aside0.mk hl_; clear HP; have HP := Aside0.mk hs_; have HU0 := Aside0.mk hf_; clear ho hb hp_ hl_ hs_ hf_
  go_wp2_with fail
  refine (impl_PalindromesOf.calls k _ _ l0 R _ (Kd.R_reads' HU0.out).2.2 (Kd.R_reads' HU0.out).2.1 FI.out).mono ?_
  rintro e w13_ ⟨vH, rfl, ho, hb⟩
  obtain ⟨AH, cH, rfl⟩ := Kd.S_slice ho
  obtain ⟨loH, hiH, hp_, hl_, hs_, hf_⟩ := G.S_made (p := hiU0) ho HB.out hb HP.out
  have n0_ := Aside0.mk (Kd.N_below HW.out hb)
  have n1_ := Aside0.mk (Kd.S_below HG.out hb)
  have n2_ := Aside0.mk (Kd.R_below HU0.out hb)
  clear HW; have HW := n0_; clear n0_
  clear HG; have HG := n1_; clear n1_
  clear HU0; have HU0 := n2_; clear n2_
  have nb_ := Aside0.mk (below_step HB.out hb); have np_ := Aside0.mk (Nat.le_trans HP.out hb.size); clear HB HP; have HB := nb_; have HP := np_; clear nb_ np_
  have HOH := Aside0.mk hp_; have HLH := Aside0.mk hl_; clear HP; have HP := Aside0.mk hs_; have HH := Aside0.mk hf_; clear ho hb hp_ hl_ hs_ hf_
  clear HU0
  go_wp2_with fail
  refine (laws_eqIntSS.calls k _ _ R _ _ R true _ (Kd.S_reads' HH.out).2.2 (Kd.S_reads' HH.out).2.1 (Kd.N_reads' HW.out).2.2 (Kd.N_reads' HW.out).2.1 FE.out).mono ?_
  rintro e w14_ ⟨rfl, hd⟩
  have hb := G.drawn_below hd
  have n0_ := Aside0.mk (Kd.N_below HW.out hb)
  have n1_ := Aside0.mk (Kd.S_below HG.out hb)
  have n2_ := Aside0.mk (Kd.S_below HH.out hb)
  clear HW; have HW := n0_; clear n0_
  clear HG; have HG := n1_; clear n1_
  clear HH; have HH := n2_; clear n2_
  have nb_ := Aside0.mk (below_step HB.out hb); have np_ := Aside0.mk (Nat.le_trans HP.out hb.size); clear HB HP; have HB := nb_; have HP := np_; clear nb_ np_
  clear hd hb
  go_wp2_with fail
  refine (G_held k _ _ R.length R' 1 mg _ (Kd.S_reads' HG.out).2.2 (Kd.S_reads' HG.out).1 (Kd.S_reads' HG.out).2.1 FH.out).mono ?_
  rintro e w15_ ⟨rfl, hd⟩
  have hb := G.drawn_below hd
  have n0_ := Aside0.mk (Kd.N_below HW.out hb)
  have n1_ := Aside0.mk (Kd.S_below HG.out hb)
  have n2_ := Aside0.mk (Kd.S_below HH.out hb)
  clear HW; have HW := n0_; clear n0_
  clear HG; have HG := n1_; clear n1_
  clear HH; have HH := n2_; clear n2_
  have nb_ := Aside0.mk (below_step HB.out hb); have np_ := Aside0.mk (Nat.le_trans HP.out hb.size); clear HB HP; have HB := nb_; have HP := np_; clear nb_ np_
  clear hd hb
  go_wp2
  go_ret
  exact ⟨rfl, HB.out⟩

end Go.Proofs.Ytolikggioekalab.PFnExactPalindromesOf
