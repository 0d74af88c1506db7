/- The law FnExactLyndonWords, walked call by call: where its pure parts answer as told, it answers true. No condition beyond those written. -/
import Derived.Test.YtaolbdkehlobiaaMFnExactLyndonWordsx0
import Derived.Test.YtaolbdkehlobiaaMFnExactLyndonWordsx1
import Derived.Test.YtaolbdkehlobiaaMFnExactLyndonWordsx2
import Derived.Test.YtaolbdkehlobiaaMFnExactLyndonWordsx3
import Derived.Test.YtaolbdkehlobiaaMFnExactLyndonWordsx4
import Derived.Test.YtaolbdkehlobiaaMFnExactLyndonWordsx5
import Derived.Test.YtaolbdkehlobiaaGLaw
namespace Go.Proofs.Ytaolbdkehlobiaa.PFnExactLyndonWords
open Go.RowKit Go.Proofs.YtaolbdkehlobiaaW.PrintWords Go.Proofs.YtaolbdkehlobiaaW.PrintLast Go.Proofs.YtaolbdkehlobiaaW.PrintMore
set_option linter.unusedVariables false

/-- The check of marks, by whatever name the length goes. -/
theorem G_held (k : Nat) (A0 : Option Addr) (c0 : Nat) (n : Nat) (l0 : List (List Int)) (a1 : Int) (r : Int) (w : World) (hr0 : Kd.C (Kd.slice 3 (Kd.int .i64)) w A0 l0.length l0) (hn : n = l0.length) (hc0 : n ≤ c0) (h : laws_heldIntSS.f k l0 a1 = some r) :
    Calls Try.prog 10 #[.slice A0 n c0, .int .i64 a1] w fun e w' => e = .returned (.int .i64 r) ∧ Drawn0 w w' := by
  subst hn
  exact laws_heldIntSS.calls k A0 c0 l0 a1 r w hr0 hc0 h

set_option maxHeartbeats 16000000 in
set_option maxRecDepth 100000 in
theorem laws_FnExactLyndonWords.calls (k : Nat) (a0 : Int) (a1 : Int) (R R' : List (List Int)) (b : Bool) (mg : Int)  (w : World) 
    (hS : spec_LyndonWords.f k a0 a1 = some (R, b)) (hI : impl_LyndonWords.f k a0 a1 = some (R, b)) (hE : laws_eqIntSS.f k R R = some true) (hMR : laws_markIntSS.f k R 1 = some (mg, R')) (hmg : 0 ≤ mg) (hH : laws_heldIntSS.f k R' 1 = some mg) :
    Calls Try.prog 3 #[.int .i64 a0, .int .i64 a1] w fun e w' => e = .returned (.bool true) ∧ Below w.heap.size w w' := by
  have FS := Aside0.mk hS; have FI := Aside0.mk hI; have FE := Aside0.mk hE; have FMR := Aside0.mk hMR; have FH := Aside0.mk hH
  have HB := Aside0.mk (Below.refl w.heap.size w); have HP := Aside0.mk (Nat.le_refl w.heap.size)
  have hq2 : decide (mg < 0) = false := by simp; omega
  clear hS hI hE hMR hH hmg
  go_enter Try.func3, Try.ntmps3
  go_wp2_with fail
  refine (spec_LyndonWords.calls k a0 a1 R b _  FS.out).mono ?_
  rintro e w1_ ⟨vW, rfl, ho, hb⟩
  obtain ⟨AW, cW, rfl⟩ := Kd.S_slice ho
  obtain ⟨loW, hiW, hp_, hl_, hs_, hf_⟩ := G.S_made (p := w.heap.size) ho HB.out hb HP.out
  have nb_ := Aside0.mk (below_step HB.out hb); have np_ := Aside0.mk (Nat.le_trans HP.out hb.size); clear HB HP; have HB := nb_; have HP := np_; clear nb_ np_
  have HOW := Aside0.mk hp_; have HLW := Aside0.mk hl_; clear HP; have HP := Aside0.mk hs_; have HW := Aside0.mk hf_; clear ho hb hp_ hl_ hs_ hf_
  go_wp2_with fail
  refine (impl_LyndonWords.calls k a0 a1 R b _  FI.out).mono ?_
  rintro e w2_ ⟨vG, rfl, ho, hb⟩
  obtain ⟨AG, cG, rfl⟩ := Kd.S_slice ho
  obtain ⟨loG, hiG, hp_, hl_, hs_, hf_⟩ := G.S_made (p := hiW) ho HB.out hb HP.out
  have n0_ := Aside0.mk (Kd.S_below HW.out hb)
  clear HW; have HW := n0_; clear n0_
  have nb_ := Aside0.mk (below_step HB.out hb); have np_ := Aside0.mk (Nat.le_trans HP.out hb.size); clear HB HP; have HB := nb_; have HP := np_; clear nb_ np_
  have HOG := Aside0.mk hp_; have HLG := Aside0.mk hl_; clear HP; have HP := Aside0.mk hs_; have HG := Aside0.mk hf_; clear ho hb hp_ hl_ hs_ hf_
  go_wp2_with fail
  refine (laws_eqIntSS.calls k _ _ R _ _ R true _ (Kd.S_reads' HG.out).2.2 (Kd.S_reads' HG.out).2.1 (Kd.S_reads' HW.out).2.2 (Kd.S_reads' HW.out).2.1 FE.out).mono ?_
  rintro e w3_ ⟨rfl, hd⟩
  have hb := G.drawn_below hd
  have n0_ := Aside0.mk (Kd.S_below HW.out hb)
  have n1_ := Aside0.mk (Kd.S_below HG.out hb)
  clear HW; have HW := n0_; clear n0_
  clear HG; have HG := n1_; clear n1_
  have nb_ := Aside0.mk (below_step HB.out hb); have np_ := Aside0.mk (Nat.le_trans HP.out hb.size); clear HB HP; have HB := nb_; have HP := np_; clear nb_ np_
  clear hd hb
  go_wp2_with fail
  refine (laws_markIntSS.calls k (G.Span loG hiG) _ R 1 mg R' w _ HB.out HG.out FMR.out).mono ?_
  rintro e w4_ ⟨rfl, hy, hb, hkp⟩
  have ha_W : hiW ≤ loG := by
    have h0_ := HOG.out
    omega
  have n0_ := Aside0.mk (G.S_marked HW.out hkp (.inl ha_W))
  have n1_ := Aside0.mk (hy)
  have np_ := Aside0.mk (Nat.le_trans HP.out hkp.1); have nb_ := Aside0.mk hb
  clear HW; have HW := n0_; clear n0_
  clear HG; have HG := n1_; clear n1_
  clear HP HB; have HP := np_; have HB := nb_; clear np_ nb_ hy hb hkp ha_W
  go_wp2_with fail
  refine (G_held k _ _ R.length R' 1 mg _ (Kd.S_reads' HG.out).2.2 (Kd.S_reads' HG.out).1 (Kd.S_reads' HG.out).2.1 FH.out).mono ?_
  rintro e w5_ ⟨rfl, hd⟩
  have hb := G.drawn_below hd
  have n0_ := Aside0.mk (Kd.S_below HW.out hb)
  have n1_ := Aside0.mk (Kd.S_below HG.out hb)
  clear HW; have HW := n0_; clear n0_
  clear HG; have HG := n1_; clear n1_
  have nb_ := Aside0.mk (below_step HB.out hb); have np_ := Aside0.mk (Nat.le_trans HP.out hb.size); clear HB HP; have HB := nb_; have HP := np_; clear nb_ np_
  clear hd hb
  go_wp2_with fail
  refine (impl_LyndonWords.calls k a0 a1 R b _  FI.out).mono ?_
  rintro e w6_ ⟨vH, rfl, ho, hb⟩
  obtain ⟨AH, cH, rfl⟩ := Kd.S_slice ho
  obtain ⟨loH, hiH, hp_, hl_, hs_, hf_⟩ := G.S_made (p := hiG) ho HB.out hb HP.out
  have n0_ := Aside0.mk (Kd.S_below HW.out hb)
  have n1_ := Aside0.mk (Kd.S_below HG.out hb)
  clear HW; have HW := n0_; clear n0_
  clear HG; have HG := n1_; clear n1_
  have nb_ := Aside0.mk (below_step HB.out hb); have np_ := Aside0.mk (Nat.le_trans HP.out hb.size); clear HB HP; have HB := nb_; have HP := np_; clear nb_ np_
  have HOH := Aside0.mk hp_; have HLH := Aside0.mk hl_; clear HP; have HP := Aside0.mk hs_; have HH := Aside0.mk hf_; clear ho hb hp_ hl_ hs_ hf_
  go_wp2_with fail
  refine (laws_eqIntSS.calls k _ _ R _ _ R true _ (Kd.S_reads' HH.out).2.2 (Kd.S_reads' HH.out).2.1 (Kd.S_reads' HW.out).2.2 (Kd.S_reads' HW.out).2.1 FE.out).mono ?_
  rintro e w7_ ⟨rfl, hd⟩
  have hb := G.drawn_below hd
  have n0_ := Aside0.mk (Kd.S_below HW.out hb)
  have n1_ := Aside0.mk (Kd.S_below HG.out hb)
  have n2_ := Aside0.mk (Kd.S_below HH.out hb)
  clear HW; have HW := n0_; clear n0_
  clear HG; have HG := n1_; clear n1_
  clear HH; have HH := n2_; clear n2_
  have nb_ := Aside0.mk (below_step HB.out hb); have np_ := Aside0.mk (Nat.le_trans HP.out hb.size); clear HB HP; have HB := nb_; have HP := np_; clear nb_ np_
  clear hd hb
  go_wp2_with fail
  refine (G_held k _ _ R.length R' 1 mg _ (Kd.S_reads' HG.out).2.2 (Kd.S_reads' HG.out).1 (Kd.S_reads' HG.out).2.1 FH.out).mono ?_
  rintro e w8_ ⟨rfl, hd⟩
  have hb := G.drawn_below hd
  have n0_ := Aside0.mk (Kd.S_below HW.out hb)
  have n1_ := Aside0.mk (Kd.S_below HG.out hb)
  have n2_ := Aside0.mk (Kd.S_below HH.out hb)
  clear HW; have HW := n0_; clear n0_
  clear HG; have HG := n1_; clear n1_
  clear HH; have HH := n2_; clear n2_
  have nb_ := Aside0.mk (below_step HB.out hb); have np_ := Aside0.mk (Nat.le_trans HP.out hb.size); clear HB HP; have HB := nb_; have HP := np_; clear nb_ np_
  clear hd hb
  go_wp2
  go_ret
  exact ⟨rfl, HB.out⟩

end Go.Proofs.Ytaolbdkehlobiaa.PFnExactLyndonWords
