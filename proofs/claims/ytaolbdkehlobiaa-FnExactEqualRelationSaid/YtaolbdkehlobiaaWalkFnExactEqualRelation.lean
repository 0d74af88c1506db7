/- The law FnExactEqualRelation, walked call by call: where its pure parts answer as told, it answers true. No condition beyond those written. -/
import Derived.Test.YtaolbdkehlobiaaMFnExactEqualRelationx0
import Derived.Test.YtaolbdkehlobiaaMFnExactEqualRelationx1
import Derived.Test.YtaolbdkehlobiaaMFnExactEqualRelationx2
import Derived.Test.YtaolbdkehlobiaaMFnExactEqualRelationx3
import Derived.Test.YtaolbdkehlobiaaMFnExactEqualRelationx4
import Derived.Test.YtaolbdkehlobiaaGLaw
import Derived.Test.YtaolbdkehlobiaaGLaw2
namespace Go.Proofs.Ytaolbdkehlobiaa.PFnExactEqualRelation
open Go.RowKit Go.Proofs.YtaolbdkehlobiaaW.PrintWords Go.Proofs.YtaolbdkehlobiaaW.PrintLast Go.Proofs.YtaolbdkehlobiaaW.PrintMore
set_option linter.unusedVariables false
set_option linter.unusedSimpArgs false

/-- The check of marks, by whatever name the lengths go. -/
theorem G_held (k : Nat) (b t : Int) (A1 : Option Addr) (c1 n1 : Nat) (l1 : List (List Int)) (A2 : Option Addr) (c2 n2 : Nat) (l2 : List Bool) (a1 r : Int) (w : World) (hr1 : Kd.C (Kd.slice 3 (Kd.int .i64)) w A1 l1.length l1) (hn1 : n1 = l1.length) (hc1 : n1 ≤ c1) (hr2 : Kd.C Kd.bool w A2 l2.length l2) (hn2 : n2 = l2.length) (hc2 : n2 ≤ c2) (h : laws_heldRelation.f k b t l1 l2 a1 = some r) :
    Calls Try.prog 19 #[.agg #[.int .i64 b, .int .i64 t, .slice A1 n1 c1, .slice A2 n2 c2], .int .i64 a1] w fun e w' => e = .returned (.int .i64 r) ∧ Below w.heap.size w w' := by
  subst hn1 hn2
  exact laws_heldRelation.calls k b t A1 c1 l1 A2 c2 l2 a1 r w hr1 hc1 hr2 hc2 h

set_option maxHeartbeats 16000000 in
set_option maxRecDepth 100000 in
theorem laws_EqualRelation.calls (k : Nat) (a rb rt : Int) (R1 R1' : List (List Int)) (R2 R2' : List Bool) (b : Bool) (mh mg : Int) (w : World) (hmg : 0 ≤ mg) (hFS : spec_EqualRelation.f k a = some (rb, rt, R1, R2, b)) (hFI : impl_EqualRelation.f k a = some (rb, rt, R1, R2, b)) (hFE : laws_eqRelation.f k rb rt R1 R2 rb rt R1 R2 = some true) (hFMR1 : laws_markIntSS.f k R1 1 = some (mh, R1')) (hFMR2 : laws_markBoolS.f k R2 mh = some (mg, R2')) (hFH : laws_heldRelation.f k rb rt R1' R2' 1 = some mg) :
    Calls Try.prog 5 #[.int .i64 a] w fun e w' => e = .returned (.bool true) ∧ Below w.heap.size w w' := by
  have FS := Aside0.mk hFS; have FI := Aside0.mk hFI; have FE := Aside0.mk hFE; have FMR1 := Aside0.mk hFMR1; have FMR2 := Aside0.mk hFMR2; have FH := Aside0.mk hFH
  clear hFS hFI hFE hFMR1 hFMR2 hFH
  have HB := Aside0.mk (Below.refl w.heap.size w); have HP := Aside0.mk (Nat.le_refl w.heap.size)
  have hq2 : decide (mg < 0) = false := by simp; omega
  clear hmg
  have hu1 := Try.underlying33
  go_enter Try.func5, Try.ntmps5
  go_wp2_with fail
  refine (spec_EqualRelation.calls k a rb rt R1 R2 b _ FS.out).mono ?_
  rintro e w1_ ⟨v1_, v2_, rfl, hoW1, hoW2, hb⟩
  obtain ⟨loW, hiW, hlo_, hhi_, hp_, hl_, hs_⟩ := G.span_of hb HP.out
  have hW1 := G.N_inQ hoW1 HB.out hlo_ hhi_
  have hW2 := G.R_in hoW2 HB.out hlo_ hhi_
  have nb_ := Aside0.mk (below_step HB.out hb); have np_ := Aside0.mk (Nat.le_trans HP.out hb.size); clear HB HP; have HB := nb_; have HP := np_; clear nb_ np_
  clear hoW1 hoW2 hb hlo_ hhi_
  have HOW := Aside0.mk hp_; have HLW := Aside0.mk hl_; clear HP; have HP := Aside0.mk hs_; clear hp_ hl_ hs_
  obtain ⟨AW1, cW1, eW1⟩ := Kd.N_slice hW1; subst eW1
  have HW1 := Aside0.mk hW1; clear hW1
  obtain ⟨AW2, cW2, eW2⟩ := Kd.R_slice hW2; subst eW2
  have HW2 := Aside0.mk hW2; clear hW2
  go_wp2_with (first | (
    (with_reducible refine gate_dst (N := 3) rfl ?_); refine box_event ?hg (N := 3) ?hd (cs := #[.int .i64 0, .int .i64 0, .slice none 0 0, .slice none 0 0]) (t := 33) ?hr ?_; (case hd => rfl); (case hg => rfl); (case hr => first | (go_simp; done) | (go_simp; rfl))
    intro lobw hg w2_ hbox hb
    obtain ⟨hibw, hh_⟩ : ∃ h, h = lobw + 1 := ⟨_, rfl⟩
    have hp_ : hiW ≤ lobw := by rw [hg]; exact HP.out
    have hl_ : lobw ≤ hibw := by omega
    have hs_ : hibw ≤ w2_.heap.size := by rw [hh_]; exact blk_lt hbox
    have HGbw := Aside0.mk (show w.heap.size ≤ lobw from by rw [hg]; exact HB.out.size)
    have n0_ := Aside0.mk (Kd.N_below HW1.out hb)
    have n1_ := Aside0.mk (Kd.R_below HW2.out hb)
    clear HW1; have HW1 := n0_; clear n0_
    clear HW2; have HW2 := n1_; clear n1_
    have nb_ := Aside0.mk (below_step HB.out hb); have np_ := Aside0.mk (Nat.le_trans HP.out hb.size); clear HB HP; have HB := nb_; have HP := np_; clear nb_ np_
    have HHbw := Aside0.mk hh_
    have HObw := Aside0.mk hp_; have HLbw := Aside0.mk hl_; clear HP; have HP := Aside0.mk hs_; clear hp_ hl_ hs_
    have HBbw := Aside0.mk hbox; clear hbox hb hg hh_
    have hcz_bw_0 : w2_.cell? ⟨lobw, 0, none⟩ = some (.int .i64 0) := (blk_cell HBbw.out 0).trans rfl; have hfz_bw_0 := blk_frozen HBbw.out 0
    have hcz_bw_1 : w2_.cell? ⟨lobw, 1, none⟩ = some (.int .i64 0) := (blk_cell HBbw.out 1).trans rfl; have hfz_bw_1 := blk_frozen HBbw.out 1
    have hcz_bw_2 : w2_.cell? ⟨lobw, 2, none⟩ = some (.slice none 0 0) := (blk_cell HBbw.out 2).trans rfl; have hfz_bw_2 := blk_frozen HBbw.out 2
    have hcz_bw_3 : w2_.cell? ⟨lobw, 3, none⟩ = some (.slice none 0 0) := (blk_cell HBbw.out 3).trans rfl; have hfz_bw_3 := blk_frozen HBbw.out 3))
  refine G.genC (F := fun w1 => Kept w2_ w1 (G.Span lobw hibw) ∧ Below w.heap.size w w1 ∧ w1.heap[lobw]? = some (.cells #[.int .i64 rb, .int .i64 rt, .slice AW1 R1.length cW1, .slice AW2 R2.length cW2] 33 (0, 0))) ⟨?k0, ?k1, ?k2⟩ ?_
  case k0 => exact (by have hh_ := HHbw.out; repeat (first | exact Kept.refl _ _ | refine Kept.setCell ?_ (.inl ⟨Nat.le_refl _, by show lobw < hibw; omega⟩) _ | refine Kept.drewN ?_ _ | refine Kept.drew ?_))
  case k1 => exact (by repeat (first | (with_reducible first | exact HB.out | apply below_drew1 | apply pw_below_drewN | refine below_set ?_ HGbw.out) | exact HB.out))
  case k2 => exact (by (with_reducible repeat (first | refine blk_drewN ?_ _ | refine blk_drew ?_)); refine blk_put (cs := #[.int .i64 rb, .int .i64 rt, .slice AW1 R1.length cW1, .slice none 0 0]) ?_ 3 _ rfl; (with_reducible repeat (first | refine blk_drewN ?_ _ | refine blk_drew ?_)); refine blk_put (cs := #[.int .i64 rb, .int .i64 rt, .slice none 0 0, .slice none 0 0]) ?_ 2 _ rfl; (with_reducible repeat (first | refine blk_drewN ?_ _ | refine blk_drew ?_)); refine blk_put (cs := #[.int .i64 rb, .int .i64 0, .slice none 0 0, .slice none 0 0]) ?_ 1 _ rfl; (with_reducible repeat (first | refine blk_drewN ?_ _ | refine blk_drew ?_)); refine blk_put (cs := #[.int .i64 0, .int .i64 0, .slice none 0 0, .slice none 0 0]) ?_ 0 _ rfl; (with_reducible repeat (first | refine blk_drewN ?_ _ | refine blk_drew ?_)); exact HBbw.out)
  rintro w3_ ⟨hkp, hb1_, hbk_⟩
  clear HBbw
  have ha_W : hiW ≤ lobw := by
    have h0_ := HObw.out
    omega
  have n0_ := Aside0.mk (G.N_marked HW1.out hkp (.inl ha_W))
  have n1_ := Aside0.mk (G.R_marked HW2.out hkp (.inl ha_W))
  clear HW1; have HW1 := n0_; clear n0_
  clear HW2; have HW2 := n1_; clear n1_
  have np_ := Aside0.mk (Nat.le_trans HP.out hkp.1); have nb_ := Aside0.mk hb1_; clear HP HB hb1_; have HP := np_; have HB := nb_; clear np_ nb_ ha_W
  have HBbw := Aside0.mk hbk_; clear hbk_ hkp
  clear hcz_bw_0
  clear hfz_bw_0
  clear hcz_bw_1
  clear hfz_bw_1
  clear hcz_bw_2
  clear hfz_bw_2
  clear hcz_bw_3
  clear hfz_bw_3
  have hcz_bw_0 : w3_.cell? ⟨lobw, 0, none⟩ = some (.int .i64 rb) := (blk_cell HBbw.out 0).trans rfl; have hfz_bw_0 := blk_frozen HBbw.out 0
  have hcz_bw_1 : w3_.cell? ⟨lobw, 1, none⟩ = some (.int .i64 rt) := (blk_cell HBbw.out 1).trans rfl; have hfz_bw_1 := blk_frozen HBbw.out 1
  have hcz_bw_2 : w3_.cell? ⟨lobw, 2, none⟩ = some (.slice AW1 R1.length cW1) := (blk_cell HBbw.out 2).trans rfl; have hfz_bw_2 := blk_frozen HBbw.out 2
  have hcz_bw_3 : w3_.cell? ⟨lobw, 3, none⟩ = some (.slice AW2 R2.length cW2) := (blk_cell HBbw.out 3).trans rfl; have hfz_bw_3 := blk_frozen HBbw.out 3
  refine (impl_EqualRelation.calls k a rb rt R1 R2 b _ FI.out).mono ?_
  rintro e w4_ ⟨v1_, v2_, rfl, hoG1, hoG2, hb⟩
  obtain ⟨loG, hiG, hlo_, hhi_, hp_, hl_, hs_⟩ := G.span_of hb HP.out
  have hG1 := G.S_in2 hoG1 HB.out hlo_ hhi_
  have hG2 := G.R_in hoG2 HB.out hlo_ hhi_
  have n0_ := Aside0.mk (Kd.N_below HW1.out hb)
  have n1_ := Aside0.mk (Kd.R_below HW2.out hb)
  have n2_ := Aside0.mk (blk_below HBbw.out hb)
  clear HW1; have HW1 := n0_; clear n0_
  clear HW2; have HW2 := n1_; clear n1_
  clear HBbw; have HBbw := n2_; clear n2_
  have nb_ := Aside0.mk (below_step HB.out hb); have np_ := Aside0.mk (Nat.le_trans HP.out hb.size); clear HB HP; have HB := nb_; have HP := np_; clear nb_ np_
  clear hoG1 hoG2 hb hlo_ hhi_
  have HOG := Aside0.mk hp_; have HLG := Aside0.mk hl_; clear HP; have HP := Aside0.mk hs_; clear hp_ hl_ hs_
  obtain ⟨AG1, cG1, eG1⟩ := Kd.S_slice hG1; subst eG1
  have HG1 := Aside0.mk hG1; clear hG1
  obtain ⟨AG2, cG2, eG2⟩ := Kd.R_slice hG2; subst eG2
  have HG2 := Aside0.mk hG2; clear hG2
  clear hcz_bw_0
  clear hfz_bw_0
  clear hcz_bw_1
  clear hfz_bw_1
  clear hcz_bw_2
  clear hfz_bw_2
  clear hcz_bw_3
  clear hfz_bw_3
  have hcz_bw_0 : w4_.cell? ⟨lobw, 0, none⟩ = some (.int .i64 rb) := (blk_cell HBbw.out 0).trans rfl; have hfz_bw_0 := blk_frozen HBbw.out 0
  have hcz_bw_1 : w4_.cell? ⟨lobw, 1, none⟩ = some (.int .i64 rt) := (blk_cell HBbw.out 1).trans rfl; have hfz_bw_1 := blk_frozen HBbw.out 1
  have hcz_bw_2 : w4_.cell? ⟨lobw, 2, none⟩ = some (.slice AW1 R1.length cW1) := (blk_cell HBbw.out 2).trans rfl; have hfz_bw_2 := blk_frozen HBbw.out 2
  have hcz_bw_3 : w4_.cell? ⟨lobw, 3, none⟩ = some (.slice AW2 R2.length cW2) := (blk_cell HBbw.out 3).trans rfl; have hfz_bw_3 := blk_frozen HBbw.out 3
  go_wp2_with (first | (
    (with_reducible refine gate_dst (N := 5) rfl ?_); refine box_event ?hg (N := 5) ?hd (cs := #[.int .i64 0, .int .i64 0, .slice none 0 0, .slice none 0 0]) (t := 33) ?hr ?_; (case hd => rfl); (case hg => rfl); (case hr => first | (go_simp; done) | (go_simp; rfl))
    intro lobg hg w5_ hbox hb
    obtain ⟨hibg, hh_⟩ : ∃ h, h = lobg + 1 := ⟨_, rfl⟩
    have hp_ : hiG ≤ lobg := by rw [hg]; exact HP.out
    have hl_ : lobg ≤ hibg := by omega
    have hs_ : hibg ≤ w5_.heap.size := by rw [hh_]; exact blk_lt hbox
    have HGbg := Aside0.mk (show w.heap.size ≤ lobg from by rw [hg]; exact HB.out.size)
    have n0_ := Aside0.mk (Kd.N_below HW1.out hb)
    have n1_ := Aside0.mk (Kd.R_below HW2.out hb)
    have n2_ := Aside0.mk (blk_below HBbw.out hb)
    have n3_ := Aside0.mk (Kd.S_below HG1.out hb)
    have n4_ := Aside0.mk (Kd.R_below HG2.out hb)
    clear HW1; have HW1 := n0_; clear n0_
    clear HW2; have HW2 := n1_; clear n1_
    clear HBbw; have HBbw := n2_; clear n2_
    clear HG1; have HG1 := n3_; clear n3_
    clear HG2; have HG2 := n4_; clear n4_
    have nb_ := Aside0.mk (below_step HB.out hb); have np_ := Aside0.mk (Nat.le_trans HP.out hb.size); clear HB HP; have HB := nb_; have HP := np_; clear nb_ np_
    have HHbg := Aside0.mk hh_
    have HObg := Aside0.mk hp_; have HLbg := Aside0.mk hl_; clear HP; have HP := Aside0.mk hs_; clear hp_ hl_ hs_
    have HBbg := Aside0.mk hbox; clear hbox hb hg hh_
    clear hcz_bw_0
    clear hfz_bw_0
    clear hcz_bw_1
    clear hfz_bw_1
    clear hcz_bw_2
    clear hfz_bw_2
    clear hcz_bw_3
    clear hfz_bw_3
    have hcz_bw_0 : w5_.cell? ⟨lobw, 0, none⟩ = some (.int .i64 rb) := (blk_cell HBbw.out 0).trans rfl; have hfz_bw_0 := blk_frozen HBbw.out 0
    have hcz_bw_1 : w5_.cell? ⟨lobw, 1, none⟩ = some (.int .i64 rt) := (blk_cell HBbw.out 1).trans rfl; have hfz_bw_1 := blk_frozen HBbw.out 1
    have hcz_bw_2 : w5_.cell? ⟨lobw, 2, none⟩ = some (.slice AW1 R1.length cW1) := (blk_cell HBbw.out 2).trans rfl; have hfz_bw_2 := blk_frozen HBbw.out 2
    have hcz_bw_3 : w5_.cell? ⟨lobw, 3, none⟩ = some (.slice AW2 R2.length cW2) := (blk_cell HBbw.out 3).trans rfl; have hfz_bw_3 := blk_frozen HBbw.out 3
    have hcz_bg_0 : w5_.cell? ⟨lobg, 0, none⟩ = some (.int .i64 0) := (blk_cell HBbg.out 0).trans rfl; have hfz_bg_0 := blk_frozen HBbg.out 0
    have hcz_bg_1 : w5_.cell? ⟨lobg, 1, none⟩ = some (.int .i64 0) := (blk_cell HBbg.out 1).trans rfl; have hfz_bg_1 := blk_frozen HBbg.out 1
    have hcz_bg_2 : w5_.cell? ⟨lobg, 2, none⟩ = some (.slice none 0 0) := (blk_cell HBbg.out 2).trans rfl; have hfz_bg_2 := blk_frozen HBbg.out 2
    have hcz_bg_3 : w5_.cell? ⟨lobg, 3, none⟩ = some (.slice none 0 0) := (blk_cell HBbg.out 3).trans rfl; have hfz_bg_3 := blk_frozen HBbg.out 3
    have ha_ : hibw ≤ lobg := by
      have h0_ := HOG.out
      have h1_ := HObg.out
      have s0_ := HLG.out
      omega
    have hnb_bw_bg : lobw ≠ lobg := by have h0_ := HHbw.out; have h1_ := HHbg.out; omega
    clear ha_
    have ha_ : hibw ≤ lobg := by
      have h0_ := HOG.out
      have h1_ := HObg.out
      have s0_ := HLG.out
      omega
    have hnb_bg_bw : lobg ≠ lobw := by have h0_ := HHbg.out; have h1_ := HHbw.out; omega
    clear ha_))
  refine G.genC (F := fun w1 => Kept w5_ w1 (G.Span lobg hibg) ∧ Below w.heap.size w w1 ∧ w1.heap[lobg]? = some (.cells #[.int .i64 rb, .int .i64 rt, .slice AG1 R1.length cG1, .slice AG2 R2.length cG2] 33 (0, 0))) ⟨?k0, ?k1, ?k2⟩ ?_
  case k0 => exact (by have hh_ := HHbg.out; repeat (first | exact Kept.refl _ _ | refine Kept.setCell ?_ (.inl ⟨Nat.le_refl _, by show lobg < hibg; omega⟩) _ | refine Kept.drewN ?_ _ | refine Kept.drew ?_))
  case k1 => exact (by repeat (first | (with_reducible first | exact HB.out | apply below_drew1 | apply pw_below_drewN | refine below_set ?_ HGbg.out) | exact HB.out))
  case k2 => exact (by (with_reducible repeat (first | refine blk_drewN ?_ _ | refine blk_drew ?_)); refine blk_put (cs := #[.int .i64 rb, .int .i64 rt, .slice AG1 R1.length cG1, .slice none 0 0]) ?_ 3 _ rfl; (with_reducible repeat (first | refine blk_drewN ?_ _ | refine blk_drew ?_)); refine blk_put (cs := #[.int .i64 rb, .int .i64 rt, .slice none 0 0, .slice none 0 0]) ?_ 2 _ rfl; (with_reducible repeat (first | refine blk_drewN ?_ _ | refine blk_drew ?_)); refine blk_put (cs := #[.int .i64 rb, .int .i64 0, .slice none 0 0, .slice none 0 0]) ?_ 1 _ rfl; (with_reducible repeat (first | refine blk_drewN ?_ _ | refine blk_drew ?_)); refine blk_put (cs := #[.int .i64 0, .int .i64 0, .slice none 0 0, .slice none 0 0]) ?_ 0 _ rfl; (with_reducible repeat (first | refine blk_drewN ?_ _ | refine blk_drew ?_)); exact HBbg.out)
  rintro w6_ ⟨hkp, hb1_, hbk_⟩
  clear HBbg
  have ha_W : hiW ≤ lobg := by
    have h0_ := HObw.out
    have h1_ := HOG.out
    have h2_ := HObg.out
    have s0_ := HLbw.out
    have s1_ := HLG.out
    omega
  have ha_bw : hibw ≤ lobg := by
    have h0_ := HOG.out
    have h1_ := HObg.out
    have s0_ := HLG.out
    omega
  have ha_G : hiG ≤ lobg := by
    have h0_ := HObg.out
    omega
  have n0_ := Aside0.mk (G.N_marked HW1.out hkp (.inl ha_W))
  have n1_ := Aside0.mk (G.R_marked HW2.out hkp (.inl ha_W))
  have n2_ := Aside0.mk (blk_kept HBbw.out hkp (by have h0_ := HHbw.out; have h1_ := ha_bw; unfold G.Span; omega))
  have n3_ := Aside0.mk (G.S_marked2 HG1.out hkp (.inl ha_G))
  have n4_ := Aside0.mk (G.R_marked HG2.out hkp (.inl ha_G))
  clear HW1; have HW1 := n0_; clear n0_
  clear HW2; have HW2 := n1_; clear n1_
  clear HBbw; have HBbw := n2_; clear n2_
  clear HG1; have HG1 := n3_; clear n3_
  clear HG2; have HG2 := n4_; clear n4_
  have np_ := Aside0.mk (Nat.le_trans HP.out hkp.1); have nb_ := Aside0.mk hb1_; clear HP HB hb1_; have HP := np_; have HB := nb_; clear np_ nb_ ha_W ha_bw ha_G
  have HBbg := Aside0.mk hbk_; clear hbk_ hkp
  clear hcz_bw_0
  clear hfz_bw_0
  clear hcz_bw_1
  clear hfz_bw_1
  clear hcz_bw_2
  clear hfz_bw_2
  clear hcz_bw_3
  clear hfz_bw_3
  clear hcz_bg_0
  clear hfz_bg_0
  clear hcz_bg_1
  clear hfz_bg_1
  clear hcz_bg_2
  clear hfz_bg_2
  clear hcz_bg_3
  clear hfz_bg_3
  clear hnb_bw_bg
  clear hnb_bg_bw
  have hcz_bw_0 : w6_.cell? ⟨lobw, 0, none⟩ = some (.int .i64 rb) := (blk_cell HBbw.out 0).trans rfl; have hfz_bw_0 := blk_frozen HBbw.out 0
  have hcz_bw_1 : w6_.cell? ⟨lobw, 1, none⟩ = some (.int .i64 rt) := (blk_cell HBbw.out 1).trans rfl; have hfz_bw_1 := blk_frozen HBbw.out 1
  have hcz_bw_2 : w6_.cell? ⟨lobw, 2, none⟩ = some (.slice AW1 R1.length cW1) := (blk_cell HBbw.out 2).trans rfl; have hfz_bw_2 := blk_frozen HBbw.out 2
  have hcz_bw_3 : w6_.cell? ⟨lobw, 3, none⟩ = some (.slice AW2 R2.length cW2) := (blk_cell HBbw.out 3).trans rfl; have hfz_bw_3 := blk_frozen HBbw.out 3
  have hcz_bg_0 : w6_.cell? ⟨lobg, 0, none⟩ = some (.int .i64 rb) := (blk_cell HBbg.out 0).trans rfl; have hfz_bg_0 := blk_frozen HBbg.out 0
  have hcz_bg_1 : w6_.cell? ⟨lobg, 1, none⟩ = some (.int .i64 rt) := (blk_cell HBbg.out 1).trans rfl; have hfz_bg_1 := blk_frozen HBbg.out 1
  have hcz_bg_2 : w6_.cell? ⟨lobg, 2, none⟩ = some (.slice AG1 R1.length cG1) := (blk_cell HBbg.out 2).trans rfl; have hfz_bg_2 := blk_frozen HBbg.out 2
  have hcz_bg_3 : w6_.cell? ⟨lobg, 3, none⟩ = some (.slice AG2 R2.length cG2) := (blk_cell HBbg.out 3).trans rfl; have hfz_bg_3 := blk_frozen HBbg.out 3
  have ha_ : hibw ≤ lobg := by
    have h0_ := HOG.out
    have h1_ := HObg.out
    have s0_ := HLG.out
    omega
  have hnb_bw_bg : lobw ≠ lobg := by have h0_ := HHbw.out; have h1_ := HHbg.out; omega
  clear ha_
  have ha_ : hibw ≤ lobg := by
    have h0_ := HOG.out
    have h1_ := HObg.out
    have s0_ := HLG.out
    omega
  have hnb_bg_bw : lobg ≠ lobw := by have h0_ := HHbg.out; have h1_ := HHbw.out; omega
  clear ha_
  refine (laws_eqRelation.calls k rb rt _ _ R1 _ _ R2 rb rt _ _ R1 _ _ R2 true _ (Kd.S_reads' HG1.out).2.2 (Kd.S_reads' HG1.out).2.1 (Kd.R_reads' HG2.out).2.2 (Kd.R_reads' HG2.out).2.1 (Kd.N_reads' HW1.out).2.2 (Kd.N_reads' HW1.out).2.1 (Kd.R_reads' HW2.out).2.2 (Kd.R_reads' HW2.out).2.1 FE.out).mono ?_
  rintro e w7_ ⟨rfl, hb⟩
  have n0_ := Aside0.mk (Kd.N_below HW1.out hb)
  have n1_ := Aside0.mk (Kd.R_below HW2.out hb)
  have n2_ := Aside0.mk (blk_below HBbw.out hb)
  have n3_ := Aside0.mk (Kd.S_below HG1.out hb)
  have n4_ := Aside0.mk (Kd.R_below HG2.out hb)
  have n5_ := Aside0.mk (blk_below HBbg.out hb)
  clear HW1; have HW1 := n0_; clear n0_
  clear HW2; have HW2 := n1_; clear n1_
  clear HBbw; have HBbw := n2_; clear n2_
  clear HG1; have HG1 := n3_; clear n3_
  clear HG2; have HG2 := n4_; clear n4_
  clear HBbg; have HBbg := n5_; clear n5_
  have nb_ := Aside0.mk (below_step HB.out hb); have np_ := Aside0.mk (Nat.le_trans HP.out hb.size); clear HB HP; have HB := nb_; have HP := np_; clear nb_ np_
  clear hb
  clear hcz_bw_0
  clear hfz_bw_0
  clear hcz_bw_1
  clear hfz_bw_1
  clear hcz_bw_2
  clear hfz_bw_2
  clear hcz_bw_3
  clear hfz_bw_3
  clear hcz_bg_0
  clear hfz_bg_0
  clear hcz_bg_1
  clear hfz_bg_1
  clear hcz_bg_2
  clear hfz_bg_2
  clear hcz_bg_3
  clear hfz_bg_3
  clear hnb_bw_bg
  clear hnb_bg_bw
  have hcz_bw_0 : w7_.cell? ⟨lobw, 0, none⟩ = some (.int .i64 rb) := (blk_cell HBbw.out 0).trans rfl; have hfz_bw_0 := blk_frozen HBbw.out 0
  have hcz_bw_1 : w7_.cell? ⟨lobw, 1, none⟩ = some (.int .i64 rt) := (blk_cell HBbw.out 1).trans rfl; have hfz_bw_1 := blk_frozen HBbw.out 1
  have hcz_bw_2 : w7_.cell? ⟨lobw, 2, none⟩ = some (.slice AW1 R1.length cW1) := (blk_cell HBbw.out 2).trans rfl; have hfz_bw_2 := blk_frozen HBbw.out 2
  have hcz_bw_3 : w7_.cell? ⟨lobw, 3, none⟩ = some (.slice AW2 R2.length cW2) := (blk_cell HBbw.out 3).trans rfl; have hfz_bw_3 := blk_frozen HBbw.out 3
  have hcz_bg_0 : w7_.cell? ⟨lobg, 0, none⟩ = some (.int .i64 rb) := (blk_cell HBbg.out 0).trans rfl; have hfz_bg_0 := blk_frozen HBbg.out 0
  have hcz_bg_1 : w7_.cell? ⟨lobg, 1, none⟩ = some (.int .i64 rt) := (blk_cell HBbg.out 1).trans rfl; have hfz_bg_1 := blk_frozen HBbg.out 1
  have hcz_bg_2 : w7_.cell? ⟨lobg, 2, none⟩ = some (.slice AG1 R1.length cG1) := (blk_cell HBbg.out 2).trans rfl; have hfz_bg_2 := blk_frozen HBbg.out 2
  have hcz_bg_3 : w7_.cell? ⟨lobg, 3, none⟩ = some (.slice AG2 R2.length cG2) := (blk_cell HBbg.out 3).trans rfl; have hfz_bg_3 := blk_frozen HBbg.out 3
  have ha_ : hibw ≤ lobg := by
    have h0_ := HOG.out
    have h1_ := HObg.out
    have s0_ := HLG.out
    omega
  have hnb_bw_bg : lobw ≠ lobg := by have h0_ := HHbw.out; have h1_ := HHbg.out; omega
  clear ha_
  have ha_ : hibw ≤ lobg := by
    have h0_ := HOG.out
    have h1_ := HObg.out
    have s0_ := HLG.out
    omega
  have hnb_bg_bw : lobg ≠ lobw := by have h0_ := HHbg.out; have h1_ := HHbw.out; omega
  clear ha_
  go_wp2_with fail
  refine (laws_markRelation.callsS k rb rt (fun k_ => G.Span loG hiG k_ ∧ some k_ ≠ (.slice AG2 R2.length cG2 : Value).ownBlock) (fun k_ => some k_ = (.slice AG2 R2.length cG2 : Value).ownBlock) _ _ R1 R2 1 mh R1' mg R2' w _ HB.out (fun _ h1_ h2_ => h1_.2 h2_) HG1.out (Kd.R_tight rfl HG2.out) FMR1.out FMR2.out).mono ?_
  rintro e w8_ ⟨rfl, hy1_, hy2_, hb1_, hkp0_⟩
  have hkp := Kept.mono hkp0_ (fun k_ hk_ => hk_.elim (fun h1_ => h1_.1) (fun h2_ => HG2.out.1 k_ h2_.symm)); clear hkp0_
  have m0_ := Aside0.mk (hy1_)
  have m1_ := Aside0.mk (Kd.R_mono hy2_ (fun k_ h_ => HG2.out.1 k_ h_.symm))
  clear HG1
  clear HG2
  have ha_W : hiW ≤ loG := by
    have h0_ := HObw.out
    have h1_ := HOG.out
    have s0_ := HLbw.out
    omega
  have ha_bw : hibw ≤ loG := by
    have h0_ := HOG.out
    omega
  have ha_bg : hiG ≤ lobg := by
    have h0_ := HObg.out
    omega
  have n0_ := Aside0.mk (G.N_marked HW1.out hkp (.inl ha_W))
  have n1_ := Aside0.mk (G.R_marked HW2.out hkp (.inl ha_W))
  have n2_ := Aside0.mk (blk_kept HBbw.out hkp (by have h0_ := HHbw.out; have h1_ := ha_bw; unfold G.Span; omega))
  have n3_ := Aside0.mk (blk_kept HBbg.out hkp (by have h0_ := HHbg.out; have h1_ := ha_bg; unfold G.Span; omega))
  clear HW1; have HW1 := n0_; clear n0_
  clear HW2; have HW2 := n1_; clear n1_
  clear HBbw; have HBbw := n2_; clear n2_
  clear HBbg; have HBbg := n3_; clear n3_
  have np_ := Aside0.mk (Nat.le_trans HP.out hkp.1); have nb_ := Aside0.mk hb1_; clear HP HB hb1_; have HP := np_; have HB := nb_; clear np_ nb_ ha_W ha_bw ha_bg
  clear hkp hy1_ hy2_
  have HG1 := m0_; clear m0_
  have HG2 := m1_; clear m1_
  clear hcz_bw_0
  clear hfz_bw_0
  clear hcz_bw_1
  clear hfz_bw_1
  clear hcz_bw_2
  clear hfz_bw_2
  clear hcz_bw_3
  clear hfz_bw_3
  clear hcz_bg_0
  clear hfz_bg_0
  clear hcz_bg_1
  clear hfz_bg_1
  clear hcz_bg_2
  clear hfz_bg_2
  clear hcz_bg_3
  clear hfz_bg_3
  clear hnb_bw_bg
  clear hnb_bg_bw
  have hcz_bw_0 : w8_.cell? ⟨lobw, 0, none⟩ = some (.int .i64 rb) := (blk_cell HBbw.out 0).trans rfl; have hfz_bw_0 := blk_frozen HBbw.out 0
  have hcz_bw_1 : w8_.cell? ⟨lobw, 1, none⟩ = some (.int .i64 rt) := (blk_cell HBbw.out 1).trans rfl; have hfz_bw_1 := blk_frozen HBbw.out 1
  have hcz_bw_2 : w8_.cell? ⟨lobw, 2, none⟩ = some (.slice AW1 R1.length cW1) := (blk_cell HBbw.out 2).trans rfl; have hfz_bw_2 := blk_frozen HBbw.out 2
  have hcz_bw_3 : w8_.cell? ⟨lobw, 3, none⟩ = some (.slice AW2 R2.length cW2) := (blk_cell HBbw.out 3).trans rfl; have hfz_bw_3 := blk_frozen HBbw.out 3
  have hcz_bg_0 : w8_.cell? ⟨lobg, 0, none⟩ = some (.int .i64 rb) := (blk_cell HBbg.out 0).trans rfl; have hfz_bg_0 := blk_frozen HBbg.out 0
  have hcz_bg_1 : w8_.cell? ⟨lobg, 1, none⟩ = some (.int .i64 rt) := (blk_cell HBbg.out 1).trans rfl; have hfz_bg_1 := blk_frozen HBbg.out 1
  have hcz_bg_2 : w8_.cell? ⟨lobg, 2, none⟩ = some (.slice AG1 R1.length cG1) := (blk_cell HBbg.out 2).trans rfl; have hfz_bg_2 := blk_frozen HBbg.out 2
  have hcz_bg_3 : w8_.cell? ⟨lobg, 3, none⟩ = some (.slice AG2 R2.length cG2) := (blk_cell HBbg.out 3).trans rfl; have hfz_bg_3 := blk_frozen HBbg.out 3
  have ha_ : hibw ≤ lobg := by
    have h0_ := HOG.out
    have h1_ := HObg.out
    have s0_ := HLG.out
    omega
  have hnb_bw_bg : lobw ≠ lobg := by have h0_ := HHbw.out; have h1_ := HHbg.out; omega
  clear ha_
  have ha_ : hibw ≤ lobg := by
    have h0_ := HOG.out
    have h1_ := HObg.out
    have s0_ := HLG.out
    omega
  have hnb_bg_bw : lobg ≠ lobw := by have h0_ := HHbg.out; have h1_ := HHbw.out; omega
  clear ha_
  go_wp2_with fail
  refine (G_held k rb rt _ _ R1.length R1' _ _ R2.length R2' 1 mg _ (Kd.S_reads' HG1.out).2.2 (Kd.S_reads' HG1.out).1 (Kd.S_reads' HG1.out).2.1 (Kd.R_reads' HG2.out).2.2 (Kd.R_reads' HG2.out).1 (Kd.R_reads' HG2.out).2.1 FH.out).mono ?_
  rintro e w9_ ⟨rfl, hb⟩
  have n0_ := Aside0.mk (Kd.N_below HW1.out hb)
  have n1_ := Aside0.mk (Kd.R_below HW2.out hb)
  have n2_ := Aside0.mk (blk_below HBbw.out hb)
  have n3_ := Aside0.mk (blk_below HBbg.out hb)
  have n4_ := Aside0.mk (Kd.S_below HG1.out hb)
  have n5_ := Aside0.mk (Kd.R_below HG2.out hb)
  clear HW1; have HW1 := n0_; clear n0_
  clear HW2; have HW2 := n1_; clear n1_
  clear HBbw; have HBbw := n2_; clear n2_
  clear HBbg; have HBbg := n3_; clear n3_
  clear HG1; have HG1 := n4_; clear n4_
  clear HG2; have HG2 := n5_; clear n5_
  have nb_ := Aside0.mk (below_step HB.out hb); have np_ := Aside0.mk (Nat.le_trans HP.out hb.size); clear HB HP; have HB := nb_; have HP := np_; clear nb_ np_
  clear hb
  clear hcz_bw_0
  clear hfz_bw_0
  clear hcz_bw_1
  clear hfz_bw_1
  clear hcz_bw_2
  clear hfz_bw_2
  clear hcz_bw_3
  clear hfz_bw_3
  clear hcz_bg_0
  clear hfz_bg_0
  clear hcz_bg_1
  clear hfz_bg_1
  clear hcz_bg_2
  clear hfz_bg_2
  clear hcz_bg_3
  clear hfz_bg_3
  clear hnb_bw_bg
  clear hnb_bg_bw
  have hcz_bw_0 : w9_.cell? ⟨lobw, 0, none⟩ = some (.int .i64 rb) := (blk_cell HBbw.out 0).trans rfl; have hfz_bw_0 := blk_frozen HBbw.out 0
  have hcz_bw_1 : w9_.cell? ⟨lobw, 1, none⟩ = some (.int .i64 rt) := (blk_cell HBbw.out 1).trans rfl; have hfz_bw_1 := blk_frozen HBbw.out 1
  have hcz_bw_2 : w9_.cell? ⟨lobw, 2, none⟩ = some (.slice AW1 R1.length cW1) := (blk_cell HBbw.out 2).trans rfl; have hfz_bw_2 := blk_frozen HBbw.out 2
  have hcz_bw_3 : w9_.cell? ⟨lobw, 3, none⟩ = some (.slice AW2 R2.length cW2) := (blk_cell HBbw.out 3).trans rfl; have hfz_bw_3 := blk_frozen HBbw.out 3
  have hcz_bg_0 : w9_.cell? ⟨lobg, 0, none⟩ = some (.int .i64 rb) := (blk_cell HBbg.out 0).trans rfl; have hfz_bg_0 := blk_frozen HBbg.out 0
  have hcz_bg_1 : w9_.cell? ⟨lobg, 1, none⟩ = some (.int .i64 rt) := (blk_cell HBbg.out 1).trans rfl; have hfz_bg_1 := blk_frozen HBbg.out 1
  have hcz_bg_2 : w9_.cell? ⟨lobg, 2, none⟩ = some (.slice AG1 R1.length cG1) := (blk_cell HBbg.out 2).trans rfl; have hfz_bg_2 := blk_frozen HBbg.out 2
  have hcz_bg_3 : w9_.cell? ⟨lobg, 3, none⟩ = some (.slice AG2 R2.length cG2) := (blk_cell HBbg.out 3).trans rfl; have hfz_bg_3 := blk_frozen HBbg.out 3
  have ha_ : hibw ≤ lobg := by
    have h0_ := HOG.out
    have h1_ := HObg.out
    have s0_ := HLG.out
    omega
  have hnb_bw_bg : lobw ≠ lobg := by have h0_ := HHbw.out; have h1_ := HHbg.out; omega
  clear ha_
  have ha_ : hibw ≤ lobg := by
    have h0_ := HOG.out
    have h1_ := HObg.out
    have s0_ := HLG.out
    omega
  have hnb_bg_bw : lobg ≠ lobw := by have h0_ := HHbg.out; have h1_ := HHbw.out; omega
  clear ha_
  go_wp2_with fail
  refine (impl_EqualRelation.calls k a rb rt R1 R2 b _ FI.out).mono ?_
  rintro e w10_ ⟨v1_, v2_, rfl, hoH1, hoH2, hb⟩
  obtain ⟨loH, hiH, hlo_, hhi_, hp_, hl_, hs_⟩ := G.span_of hb HP.out
  have hH1 := G.S_in2 hoH1 HB.out hlo_ hhi_
  have hH2 := G.R_in hoH2 HB.out hlo_ hhi_
  have n0_ := Aside0.mk (Kd.N_below HW1.out hb)
  have n1_ := Aside0.mk (Kd.R_below HW2.out hb)
  have n2_ := Aside0.mk (blk_below HBbw.out hb)
  have n3_ := Aside0.mk (blk_below HBbg.out hb)
  have n4_ := Aside0.mk (Kd.S_below HG1.out hb)
  have n5_ := Aside0.mk (Kd.R_below HG2.out hb)
  clear HW1; have HW1 := n0_; clear n0_
  clear HW2; have HW2 := n1_; clear n1_
  clear HBbw; have HBbw := n2_; clear n2_
  clear HBbg; have HBbg := n3_; clear n3_
  clear HG1; have HG1 := n4_; clear n4_
  clear HG2; have HG2 := n5_; clear n5_
  have nb_ := Aside0.mk (below_step HB.out hb); have np_ := Aside0.mk (Nat.le_trans HP.out hb.size); clear HB HP; have HB := nb_; have HP := np_; clear nb_ np_
  clear hoH1 hoH2 hb hlo_ hhi_
  have HOH := Aside0.mk hp_; have HLH := Aside0.mk hl_; clear HP; have HP := Aside0.mk hs_; clear hp_ hl_ hs_
  obtain ⟨AH1, cH1, eH1⟩ := Kd.S_slice hH1; subst eH1
  have HH1 := Aside0.mk hH1; clear hH1
  obtain ⟨AH2, cH2, eH2⟩ := Kd.R_slice hH2; subst eH2
  have HH2 := Aside0.mk hH2; clear hH2
  clear hcz_bw_0
  clear hfz_bw_0
  clear hcz_bw_1
  clear hfz_bw_1
  clear hcz_bw_2
  clear hfz_bw_2
  clear hcz_bw_3
  clear hfz_bw_3
  clear hcz_bg_0
  clear hfz_bg_0
  clear hcz_bg_1
  clear hfz_bg_1
  clear hcz_bg_2
  clear hfz_bg_2
  clear hcz_bg_3
  clear hfz_bg_3
  clear hnb_bw_bg
  clear hnb_bg_bw
  have hcz_bw_0 : w10_.cell? ⟨lobw, 0, none⟩ = some (.int .i64 rb) := (blk_cell HBbw.out 0).trans rfl; have hfz_bw_0 := blk_frozen HBbw.out 0
  have hcz_bw_1 : w10_.cell? ⟨lobw, 1, none⟩ = some (.int .i64 rt) := (blk_cell HBbw.out 1).trans rfl; have hfz_bw_1 := blk_frozen HBbw.out 1
  have hcz_bw_2 : w10_.cell? ⟨lobw, 2, none⟩ = some (.slice AW1 R1.length cW1) := (blk_cell HBbw.out 2).trans rfl; have hfz_bw_2 := blk_frozen HBbw.out 2
  have hcz_bw_3 : w10_.cell? ⟨lobw, 3, none⟩ = some (.slice AW2 R2.length cW2) := (blk_cell HBbw.out 3).trans rfl; have hfz_bw_3 := blk_frozen HBbw.out 3
  have hcz_bg_0 : w10_.cell? ⟨lobg, 0, none⟩ = some (.int .i64 rb) := (blk_cell HBbg.out 0).trans rfl; have hfz_bg_0 := blk_frozen HBbg.out 0
  have hcz_bg_1 : w10_.cell? ⟨lobg, 1, none⟩ = some (.int .i64 rt) := (blk_cell HBbg.out 1).trans rfl; have hfz_bg_1 := blk_frozen HBbg.out 1
  have hcz_bg_2 : w10_.cell? ⟨lobg, 2, none⟩ = some (.slice AG1 R1.length cG1) := (blk_cell HBbg.out 2).trans rfl; have hfz_bg_2 := blk_frozen HBbg.out 2
  have hcz_bg_3 : w10_.cell? ⟨lobg, 3, none⟩ = some (.slice AG2 R2.length cG2) := (blk_cell HBbg.out 3).trans rfl; have hfz_bg_3 := blk_frozen HBbg.out 3
  have ha_ : hibw ≤ lobg := by
    have h0_ := HOG.out
    have h1_ := HObg.out
    have s0_ := HLG.out
    omega
  have hnb_bw_bg : lobw ≠ lobg := by have h0_ := HHbw.out; have h1_ := HHbg.out; omega
  clear ha_
  have ha_ : hibw ≤ lobg := by
    have h0_ := HOG.out
    have h1_ := HObg.out
    have s0_ := HLG.out
    omega
  have hnb_bg_bw : lobg ≠ lobw := by have h0_ := HHbg.out; have h1_ := HHbw.out; omega
  clear ha_
  go_wp2_with (first | (
    (with_reducible refine gate_dst (N := 9) rfl ?_); refine box_event ?hg (N := 9) ?hd (cs := #[.int .i64 0, .int .i64 0, .slice none 0 0, .slice none 0 0]) (t := 33) ?hr ?_; (case hd => rfl); (case hg => rfl); (case hr => first | (go_simp; done) | (go_simp; rfl))
    intro lobh hg w11_ hbox hb
    obtain ⟨hibh, hh_⟩ : ∃ h, h = lobh + 1 := ⟨_, rfl⟩
    have hp_ : hiH ≤ lobh := by rw [hg]; exact HP.out
    have hl_ : lobh ≤ hibh := by omega
    have hs_ : hibh ≤ w11_.heap.size := by rw [hh_]; exact blk_lt hbox
    have HGbh := Aside0.mk (show w.heap.size ≤ lobh from by rw [hg]; exact HB.out.size)
    have n0_ := Aside0.mk (Kd.N_below HW1.out hb)
    have n1_ := Aside0.mk (Kd.R_below HW2.out hb)
    have n2_ := Aside0.mk (blk_below HBbw.out hb)
    have n3_ := Aside0.mk (blk_below HBbg.out hb)
    have n4_ := Aside0.mk (Kd.S_below HG1.out hb)
    have n5_ := Aside0.mk (Kd.R_below HG2.out hb)
    have n6_ := Aside0.mk (Kd.S_below HH1.out hb)
    have n7_ := Aside0.mk (Kd.R_below HH2.out hb)
    clear HW1; have HW1 := n0_; clear n0_
    clear HW2; have HW2 := n1_; clear n1_
    clear HBbw; have HBbw := n2_; clear n2_
    clear HBbg; have HBbg := n3_; clear n3_
    clear HG1; have HG1 := n4_; clear n4_
    clear HG2; have HG2 := n5_; clear n5_
    clear HH1; have HH1 := n6_; clear n6_
    clear HH2; have HH2 := n7_; clear n7_
    have nb_ := Aside0.mk (below_step HB.out hb); have np_ := Aside0.mk (Nat.le_trans HP.out hb.size); clear HB HP; have HB := nb_; have HP := np_; clear nb_ np_
    have HHbh := Aside0.mk hh_
    have HObh := Aside0.mk hp_; have HLbh := Aside0.mk hl_; clear HP; have HP := Aside0.mk hs_; clear hp_ hl_ hs_
    have HBbh := Aside0.mk hbox; clear hbox hb hg hh_
    clear hcz_bw_0
    clear hfz_bw_0
    clear hcz_bw_1
    clear hfz_bw_1
    clear hcz_bw_2
    clear hfz_bw_2
    clear hcz_bw_3
    clear hfz_bw_3
    clear hcz_bg_0
    clear hfz_bg_0
    clear hcz_bg_1
    clear hfz_bg_1
    clear hcz_bg_2
    clear hfz_bg_2
    clear hcz_bg_3
    clear hfz_bg_3
    clear hnb_bw_bg
    clear hnb_bg_bw
    have hcz_bw_0 : w11_.cell? ⟨lobw, 0, none⟩ = some (.int .i64 rb) := (blk_cell HBbw.out 0).trans rfl; have hfz_bw_0 := blk_frozen HBbw.out 0
    have hcz_bw_1 : w11_.cell? ⟨lobw, 1, none⟩ = some (.int .i64 rt) := (blk_cell HBbw.out 1).trans rfl; have hfz_bw_1 := blk_frozen HBbw.out 1
    have hcz_bw_2 : w11_.cell? ⟨lobw, 2, none⟩ = some (.slice AW1 R1.length cW1) := (blk_cell HBbw.out 2).trans rfl; have hfz_bw_2 := blk_frozen HBbw.out 2
    have hcz_bw_3 : w11_.cell? ⟨lobw, 3, none⟩ = some (.slice AW2 R2.length cW2) := (blk_cell HBbw.out 3).trans rfl; have hfz_bw_3 := blk_frozen HBbw.out 3
    have hcz_bg_0 : w11_.cell? ⟨lobg, 0, none⟩ = some (.int .i64 rb) := (blk_cell HBbg.out 0).trans rfl; have hfz_bg_0 := blk_frozen HBbg.out 0
    have hcz_bg_1 : w11_.cell? ⟨lobg, 1, none⟩ = some (.int .i64 rt) := (blk_cell HBbg.out 1).trans rfl; have hfz_bg_1 := blk_frozen HBbg.out 1
    have hcz_bg_2 : w11_.cell? ⟨lobg, 2, none⟩ = some (.slice AG1 R1.length cG1) := (blk_cell HBbg.out 2).trans rfl; have hfz_bg_2 := blk_frozen HBbg.out 2
    have hcz_bg_3 : w11_.cell? ⟨lobg, 3, none⟩ = some (.slice AG2 R2.length cG2) := (blk_cell HBbg.out 3).trans rfl; have hfz_bg_3 := blk_frozen HBbg.out 3
    have hcz_bh_0 : w11_.cell? ⟨lobh, 0, none⟩ = some (.int .i64 0) := (blk_cell HBbh.out 0).trans rfl; have hfz_bh_0 := blk_frozen HBbh.out 0
    have hcz_bh_1 : w11_.cell? ⟨lobh, 1, none⟩ = some (.int .i64 0) := (blk_cell HBbh.out 1).trans rfl; have hfz_bh_1 := blk_frozen HBbh.out 1
    have hcz_bh_2 : w11_.cell? ⟨lobh, 2, none⟩ = some (.slice none 0 0) := (blk_cell HBbh.out 2).trans rfl; have hfz_bh_2 := blk_frozen HBbh.out 2
    have hcz_bh_3 : w11_.cell? ⟨lobh, 3, none⟩ = some (.slice none 0 0) := (blk_cell HBbh.out 3).trans rfl; have hfz_bh_3 := blk_frozen HBbh.out 3
    have ha_ : hibw ≤ lobg := by
      have h0_ := HOG.out
      have h1_ := HObg.out
      have s0_ := HLG.out
      omega
    have hnb_bw_bg : lobw ≠ lobg := by have h0_ := HHbw.out; have h1_ := HHbg.out; omega
    clear ha_
    have ha_ : hibw ≤ lobh := by
      have h0_ := HOG.out
      have h1_ := HObg.out
      have h2_ := HOH.out
      have h3_ := HObh.out
      have s0_ := HLG.out
      have s1_ := HLbg.out
      have s2_ := HLH.out
      omega
    have hnb_bw_bh : lobw ≠ lobh := by have h0_ := HHbw.out; have h1_ := HHbh.out; omega
    clear ha_
    have ha_ : hibw ≤ lobg := by
      have h0_ := HOG.out
      have h1_ := HObg.out
      have s0_ := HLG.out
      omega
    have hnb_bg_bw : lobg ≠ lobw := by have h0_ := HHbg.out; have h1_ := HHbw.out; omega
    clear ha_
    have ha_ : hibg ≤ lobh := by
      have h0_ := HOH.out
      have h1_ := HObh.out
      have s0_ := HLH.out
      omega
    have hnb_bg_bh : lobg ≠ lobh := by have h0_ := HHbg.out; have h1_ := HHbh.out; omega
    clear ha_
    have ha_ : hibw ≤ lobh := by
      have h0_ := HOG.out
      have h1_ := HObg.out
      have h2_ := HOH.out
      have h3_ := HObh.out
      have s0_ := HLG.out
      have s1_ := HLbg.out
      have s2_ := HLH.out
      omega
    have hnb_bh_bw : lobh ≠ lobw := by have h0_ := HHbh.out; have h1_ := HHbw.out; omega
    clear ha_
    have ha_ : hibg ≤ lobh := by
      have h0_ := HOH.out
      have h1_ := HObh.out
      have s0_ := HLH.out
      omega
    have hnb_bh_bg : lobh ≠ lobg := by have h0_ := HHbh.out; have h1_ := HHbg.out; omega
    clear ha_))
  refine G.genC (F := fun w1 => Kept w11_ w1 (G.Span lobh hibh) ∧ Below w.heap.size w w1 ∧ w1.heap[lobh]? = some (.cells #[.int .i64 rb, .int .i64 rt, .slice AH1 R1.length cH1, .slice AH2 R2.length cH2] 33 (0, 0))) ⟨?k0, ?k1, ?k2⟩ ?_
  case k0 => exact (by have hh_ := HHbh.out; repeat (first | exact Kept.refl _ _ | refine Kept.setCell ?_ (.inl ⟨Nat.le_refl _, by show lobh < hibh; omega⟩) _ | refine Kept.drewN ?_ _ | refine Kept.drew ?_))
  case k1 => exact (by repeat (first | (with_reducible first | exact HB.out | apply below_drew1 | apply pw_below_drewN | refine below_set ?_ HGbh.out) | exact HB.out))
  case k2 => exact (by (with_reducible repeat (first | refine blk_drewN ?_ _ | refine blk_drew ?_)); refine blk_put (cs := #[.int .i64 rb, .int .i64 rt, .slice AH1 R1.length cH1, .slice none 0 0]) ?_ 3 _ rfl; (with_reducible repeat (first | refine blk_drewN ?_ _ | refine blk_drew ?_)); refine blk_put (cs := #[.int .i64 rb, .int .i64 rt, .slice none 0 0, .slice none 0 0]) ?_ 2 _ rfl; (with_reducible repeat (first | refine blk_drewN ?_ _ | refine blk_drew ?_)); refine blk_put (cs := #[.int .i64 rb, .int .i64 0, .slice none 0 0, .slice none 0 0]) ?_ 1 _ rfl; (with_reducible repeat (first | refine blk_drewN ?_ _ | refine blk_drew ?_)); refine blk_put (cs := #[.int .i64 0, .int .i64 0, .slice none 0 0, .slice none 0 0]) ?_ 0 _ rfl; (with_reducible repeat (first | refine blk_drewN ?_ _ | refine blk_drew ?_)); exact HBbh.out)
  rintro w12_ ⟨hkp, hb1_, hbk_⟩
  clear HBbh
  have ha_W : hiW ≤ lobh := by
    have h0_ := HObw.out
    have h1_ := HOG.out
    have h2_ := HObg.out
    have h3_ := HOH.out
    have h4_ := HObh.out
    have s0_ := HLbw.out
    have s1_ := HLG.out
    have s2_ := HLbg.out
    have s3_ := HLH.out
    omega
  have ha_bw : hibw ≤ lobh := by
    have h0_ := HOG.out
    have h1_ := HObg.out
    have h2_ := HOH.out
    have h3_ := HObh.out
    have s0_ := HLG.out
    have s1_ := HLbg.out
    have s2_ := HLH.out
    omega
  have ha_bg : hibg ≤ lobh := by
    have h0_ := HOH.out
    have h1_ := HObh.out
    have s0_ := HLH.out
    omega
  have ha_G : hiG ≤ lobh := by
    have h0_ := HObg.out
    have h1_ := HOH.out
    have h2_ := HObh.out
    have s0_ := HLbg.out
    have s1_ := HLH.out
    omega
  have ha_H : hiH ≤ lobh := by
    have h0_ := HObh.out
    omega
  have n0_ := Aside0.mk (G.N_marked HW1.out hkp (.inl ha_W))
  have n1_ := Aside0.mk (G.R_marked HW2.out hkp (.inl ha_W))
  have n2_ := Aside0.mk (blk_kept HBbw.out hkp (by have h0_ := HHbw.out; have h1_ := ha_bw; unfold G.Span; omega))
  have n3_ := Aside0.mk (blk_kept HBbg.out hkp (by have h0_ := HHbg.out; have h1_ := ha_bg; unfold G.Span; omega))
  have n4_ := Aside0.mk (G.S_marked2 HG1.out hkp (.inl ha_G))
  have n5_ := Aside0.mk (G.R_marked HG2.out hkp (.inl ha_G))
  have n6_ := Aside0.mk (G.S_marked2 HH1.out hkp (.inl ha_H))
  have n7_ := Aside0.mk (G.R_marked HH2.out hkp (.inl ha_H))
  clear HW1; have HW1 := n0_; clear n0_
  clear HW2; have HW2 := n1_; clear n1_
  clear HBbw; have HBbw := n2_; clear n2_
  clear HBbg; have HBbg := n3_; clear n3_
  clear HG1; have HG1 := n4_; clear n4_
  clear HG2; have HG2 := n5_; clear n5_
  clear HH1; have HH1 := n6_; clear n6_
  clear HH2; have HH2 := n7_; clear n7_
  have np_ := Aside0.mk (Nat.le_trans HP.out hkp.1); have nb_ := Aside0.mk hb1_; clear HP HB hb1_; have HP := np_; have HB := nb_; clear np_ nb_ ha_W ha_bw ha_bg ha_G ha_H
  have HBbh := Aside0.mk hbk_; clear hbk_ hkp
  clear hcz_bw_0
  clear hfz_bw_0
  clear hcz_bw_1
  clear hfz_bw_1
  clear hcz_bw_2
  clear hfz_bw_2
  clear hcz_bw_3
  clear hfz_bw_3
  clear hcz_bg_0
  clear hfz_bg_0
  clear hcz_bg_1
  clear hfz_bg_1
  clear hcz_bg_2
  clear hfz_bg_2
  clear hcz_bg_3
  clear hfz_bg_3
  clear hcz_bh_0
  clear hfz_bh_0
  clear hcz_bh_1
  clear hfz_bh_1
  clear hcz_bh_2
  clear hfz_bh_2
  clear hcz_bh_3
  clear hfz_bh_3
  clear hnb_bw_bg
  clear hnb_bw_bh
  clear hnb_bg_bw
  clear hnb_bg_bh
  clear hnb_bh_bw
  clear hnb_bh_bg
  have hcz_bw_0 : w12_.cell? ⟨lobw, 0, none⟩ = some (.int .i64 rb) := (blk_cell HBbw.out 0).trans rfl; have hfz_bw_0 := blk_frozen HBbw.out 0
  have hcz_bw_1 : w12_.cell? ⟨lobw, 1, none⟩ = some (.int .i64 rt) := (blk_cell HBbw.out 1).trans rfl; have hfz_bw_1 := blk_frozen HBbw.out 1
  have hcz_bw_2 : w12_.cell? ⟨lobw, 2, none⟩ = some (.slice AW1 R1.length cW1) := (blk_cell HBbw.out 2).trans rfl; have hfz_bw_2 := blk_frozen HBbw.out 2
  have hcz_bw_3 : w12_.cell? ⟨lobw, 3, none⟩ = some (.slice AW2 R2.length cW2) := (blk_cell HBbw.out 3).trans rfl; have hfz_bw_3 := blk_frozen HBbw.out 3
  have hcz_bg_0 : w12_.cell? ⟨lobg, 0, none⟩ = some (.int .i64 rb) := (blk_cell HBbg.out 0).trans rfl; have hfz_bg_0 := blk_frozen HBbg.out 0
  have hcz_bg_1 : w12_.cell? ⟨lobg, 1, none⟩ = some (.int .i64 rt) := (blk_cell HBbg.out 1).trans rfl; have hfz_bg_1 := blk_frozen HBbg.out 1
  have hcz_bg_2 : w12_.cell? ⟨lobg, 2, none⟩ = some (.slice AG1 R1.length cG1) := (blk_cell HBbg.out 2).trans rfl; have hfz_bg_2 := blk_frozen HBbg.out 2
  have hcz_bg_3 : w12_.cell? ⟨lobg, 3, none⟩ = some (.slice AG2 R2.length cG2) := (blk_cell HBbg.out 3).trans rfl; have hfz_bg_3 := blk_frozen HBbg.out 3
  have hcz_bh_0 : w12_.cell? ⟨lobh, 0, none⟩ = some (.int .i64 rb) := (blk_cell HBbh.out 0).trans rfl; have hfz_bh_0 := blk_frozen HBbh.out 0
  have hcz_bh_1 : w12_.cell? ⟨lobh, 1, none⟩ = some (.int .i64 rt) := (blk_cell HBbh.out 1).trans rfl; have hfz_bh_1 := blk_frozen HBbh.out 1
  have hcz_bh_2 : w12_.cell? ⟨lobh, 2, none⟩ = some (.slice AH1 R1.length cH1) := (blk_cell HBbh.out 2).trans rfl; have hfz_bh_2 := blk_frozen HBbh.out 2
  have hcz_bh_3 : w12_.cell? ⟨lobh, 3, none⟩ = some (.slice AH2 R2.length cH2) := (blk_cell HBbh.out 3).trans rfl; have hfz_bh_3 := blk_frozen HBbh.out 3
  have ha_ : hibw ≤ lobg := by
    have h0_ := HOG.out
    have h1_ := HObg.out
    have s0_ := HLG.out
    omega
  have hnb_bw_bg : lobw ≠ lobg := by have h0_ := HHbw.out; have h1_ := HHbg.out; omega
  clear ha_
  have ha_ : hibw ≤ lobh := by
    have h0_ := HOG.out
    have h1_ := HObg.out
    have h2_ := HOH.out
    have h3_ := HObh.out
    have s0_ := HLG.out
    have s1_ := HLbg.out
    have s2_ := HLH.out
    omega
  have hnb_bw_bh : lobw ≠ lobh := by have h0_ := HHbw.out; have h1_ := HHbh.out; omega
  clear ha_
  have ha_ : hibw ≤ lobg := by
    have h0_ := HOG.out
    have h1_ := HObg.out
    have s0_ := HLG.out
    omega
  have hnb_bg_bw : lobg ≠ lobw := by have h0_ := HHbg.out; have h1_ := HHbw.out; omega
  clear ha_
  have ha_ : hibg ≤ lobh := by
    have h0_ := HOH.out
    have h1_ := HObh.out
    have s0_ := HLH.out
    omega
  have hnb_bg_bh : lobg ≠ lobh := by have h0_ := HHbg.out; have h1_ := HHbh.out; omega
  clear ha_
  have ha_ : hibw ≤ lobh := by
    have h0_ := HOG.out
    have h1_ := HObg.out
    have h2_ := HOH.out
    have h3_ := HObh.out
    have s0_ := HLG.out
    have s1_ := HLbg.out
    have s2_ := HLH.out
    omega
  have hnb_bh_bw : lobh ≠ lobw := by have h0_ := HHbh.out; have h1_ := HHbw.out; omega
  clear ha_
  have ha_ : hibg ≤ lobh := by
    have h0_ := HOH.out
    have h1_ := HObh.out
    have s0_ := HLH.out
    omega
  have hnb_bh_bg : lobh ≠ lobg := by have h0_ := HHbh.out; have h1_ := HHbg.out; omega
  clear ha_
  refine (laws_eqRelation.calls k rb rt _ _ R1 _ _ R2 rb rt _ _ R1 _ _ R2 true _ (Kd.S_reads' HH1.out).2.2 (Kd.S_reads' HH1.out).2.1 (Kd.R_reads' HH2.out).2.2 (Kd.R_reads' HH2.out).2.1 (Kd.N_reads' HW1.out).2.2 (Kd.N_reads' HW1.out).2.1 (Kd.R_reads' HW2.out).2.2 (Kd.R_reads' HW2.out).2.1 FE.out).mono ?_
  rintro e w13_ ⟨rfl, hb⟩
  have n0_ := Aside0.mk (Kd.N_below HW1.out hb)
  have n1_ := Aside0.mk (Kd.R_below HW2.out hb)
  have n2_ := Aside0.mk (blk_below HBbw.out hb)
  have n3_ := Aside0.mk (blk_below HBbg.out hb)
  have n4_ := Aside0.mk (Kd.S_below HG1.out hb)
  have n5_ := Aside0.mk (Kd.R_below HG2.out hb)
  have n6_ := Aside0.mk (Kd.S_below HH1.out hb)
  have n7_ := Aside0.mk (Kd.R_below HH2.out hb)
  have n8_ := Aside0.mk (blk_below HBbh.out hb)
  clear HW1; have HW1 := n0_; clear n0_
  clear HW2; have HW2 := n1_; clear n1_
  clear HBbw; have HBbw := n2_; clear n2_
  clear HBbg; have HBbg := n3_; clear n3_
  clear HG1; have HG1 := n4_; clear n4_
  clear HG2; have HG2 := n5_; clear n5_
  clear HH1; have HH1 := n6_; clear n6_
  clear HH2; have HH2 := n7_; clear n7_
  clear HBbh; have HBbh := n8_; clear n8_
  have nb_ := Aside0.mk (below_step HB.out hb); have np_ := Aside0.mk (Nat.le_trans HP.out hb.size); clear HB HP; have HB := nb_; have HP := np_; clear nb_ np_
  clear hb
  clear hcz_bw_0
  clear hfz_bw_0
  clear hcz_bw_1
  clear hfz_bw_1
  clear hcz_bw_2
  clear hfz_bw_2
  clear hcz_bw_3
  clear hfz_bw_3
  clear hcz_bg_0
  clear hfz_bg_0
  clear hcz_bg_1
  clear hfz_bg_1
  clear hcz_bg_2
  clear hfz_bg_2
  clear hcz_bg_3
  clear hfz_bg_3
  clear hcz_bh_0
  clear hfz_bh_0
  clear hcz_bh_1
  clear hfz_bh_1
  clear hcz_bh_2
  clear hfz_bh_2
  clear hcz_bh_3
  clear hfz_bh_3
  clear hnb_bw_bg
  clear hnb_bw_bh
  clear hnb_bg_bw
  clear hnb_bg_bh
  clear hnb_bh_bw
  clear hnb_bh_bg
  have hcz_bw_0 : w13_.cell? ⟨lobw, 0, none⟩ = some (.int .i64 rb) := (blk_cell HBbw.out 0).trans rfl; have hfz_bw_0 := blk_frozen HBbw.out 0
  have hcz_bw_1 : w13_.cell? ⟨lobw, 1, none⟩ = some (.int .i64 rt) := (blk_cell HBbw.out 1).trans rfl; have hfz_bw_1 := blk_frozen HBbw.out 1
  have hcz_bw_2 : w13_.cell? ⟨lobw, 2, none⟩ = some (.slice AW1 R1.length cW1) := (blk_cell HBbw.out 2).trans rfl; have hfz_bw_2 := blk_frozen HBbw.out 2
  have hcz_bw_3 : w13_.cell? ⟨lobw, 3, none⟩ = some (.slice AW2 R2.length cW2) := (blk_cell HBbw.out 3).trans rfl; have hfz_bw_3 := blk_frozen HBbw.out 3
  have hcz_bg_0 : w13_.cell? ⟨lobg, 0, none⟩ = some (.int .i64 rb) := (blk_cell HBbg.out 0).trans rfl; have hfz_bg_0 := blk_frozen HBbg.out 0
  have hcz_bg_1 : w13_.cell? ⟨lobg, 1, none⟩ = some (.int .i64 rt) := (blk_cell HBbg.out 1).trans rfl; have hfz_bg_1 := blk_frozen HBbg.out 1
  have hcz_bg_2 : w13_.cell? ⟨lobg, 2, none⟩ = some (.slice AG1 R1.length cG1) := (blk_cell HBbg.out 2).trans rfl; have hfz_bg_2 := blk_frozen HBbg.out 2
  have hcz_bg_3 : w13_.cell? ⟨lobg, 3, none⟩ = some (.slice AG2 R2.length cG2) := (blk_cell HBbg.out 3).trans rfl; have hfz_bg_3 := blk_frozen HBbg.out 3
  have hcz_bh_0 : w13_.cell? ⟨lobh, 0, none⟩ = some (.int .i64 rb) := (blk_cell HBbh.out 0).trans rfl; have hfz_bh_0 := blk_frozen HBbh.out 0
  have hcz_bh_1 : w13_.cell? ⟨lobh, 1, none⟩ = some (.int .i64 rt) := (blk_cell HBbh.out 1).trans rfl; have hfz_bh_1 := blk_frozen HBbh.out 1
  have hcz_bh_2 : w13_.cell? ⟨lobh, 2, none⟩ = some (.slice AH1 R1.length cH1) := (blk_cell HBbh.out 2).trans rfl; have hfz_bh_2 := blk_frozen HBbh.out 2
  have hcz_bh_3 : w13_.cell? ⟨lobh, 3, none⟩ = some (.slice AH2 R2.length cH2) := (blk_cell HBbh.out 3).trans rfl; have hfz_bh_3 := blk_frozen HBbh.out 3
  have ha_ : hibw ≤ lobg := by
    have h0_ := HOG.out
    have h1_ := HObg.out
    have s0_ := HLG.out
    omega
  have hnb_bw_bg : lobw ≠ lobg := by have h0_ := HHbw.out; have h1_ := HHbg.out; omega
  clear ha_
  have ha_ : hibw ≤ lobh := by
    have h0_ := HOG.out
    have h1_ := HObg.out
    have h2_ := HOH.out
    have h3_ := HObh.out
    have s0_ := HLG.out
    have s1_ := HLbg.out
    have s2_ := HLH.out
    omega
  have hnb_bw_bh : lobw ≠ lobh := by have h0_ := HHbw.out; have h1_ := HHbh.out; omega
  clear ha_
  have ha_ : hibw ≤ lobg := by
    have h0_ := HOG.out
    have h1_ := HObg.out
    have s0_ := HLG.out
    omega
  have hnb_bg_bw : lobg ≠ lobw := by have h0_ := HHbg.out; have h1_ := HHbw.out; omega
  clear ha_
  have ha_ : hibg ≤ lobh := by
    have h0_ := HOH.out
    have h1_ := HObh.out
    have s0_ := HLH.out
    omega
  have hnb_bg_bh : lobg ≠ lobh := by have h0_ := HHbg.out; have h1_ := HHbh.out; omega
  clear ha_
  have ha_ : hibw ≤ lobh := by
    have h0_ := HOG.out
    have h1_ := HObg.out
    have h2_ := HOH.out
    have h3_ := HObh.out
    have s0_ := HLG.out
    have s1_ := HLbg.out
    have s2_ := HLH.out
    omega
  have hnb_bh_bw : lobh ≠ lobw := by have h0_ := HHbh.out; have h1_ := HHbw.out; omega
  clear ha_
  have ha_ : hibg ≤ lobh := by
    have h0_ := HOH.out
    have h1_ := HObh.out
    have s0_ := HLH.out
    omega
  have hnb_bh_bg : lobh ≠ lobg := by have h0_ := HHbh.out; have h1_ := HHbg.out; omega
  clear ha_
  go_wp2_with fail
  refine (G_held k rb rt _ _ R1.length R1' _ _ R2.length R2' 1 mg _ (Kd.S_reads' HG1.out).2.2 (Kd.S_reads' HG1.out).1 (Kd.S_reads' HG1.out).2.1 (Kd.R_reads' HG2.out).2.2 (Kd.R_reads' HG2.out).1 (Kd.R_reads' HG2.out).2.1 FH.out).mono ?_
  rintro e w14_ ⟨rfl, hb⟩
  have n0_ := Aside0.mk (Kd.N_below HW1.out hb)
  have n1_ := Aside0.mk (Kd.R_below HW2.out hb)
  have n2_ := Aside0.mk (blk_below HBbw.out hb)
  have n3_ := Aside0.mk (blk_below HBbg.out hb)
  have n4_ := Aside0.mk (Kd.S_below HG1.out hb)
  have n5_ := Aside0.mk (Kd.R_below HG2.out hb)
  have n6_ := Aside0.mk (Kd.S_below HH1.out hb)
  have n7_ := Aside0.mk (Kd.R_below HH2.out hb)
  have n8_ := Aside0.mk (blk_below HBbh.out hb)
  clear HW1; have HW1 := n0_; clear n0_
  clear HW2; have HW2 := n1_; clear n1_
  clear HBbw; have HBbw := n2_; clear n2_
  clear HBbg; have HBbg := n3_; clear n3_
  clear HG1; have HG1 := n4_; clear n4_
  clear HG2; have HG2 := n5_; clear n5_
  clear HH1; have HH1 := n6_; clear n6_
  clear HH2; have HH2 := n7_; clear n7_
  clear HBbh; have HBbh := n8_; clear n8_
  have nb_ := Aside0.mk (below_step HB.out hb); have np_ := Aside0.mk (Nat.le_trans HP.out hb.size); clear HB HP; have HB := nb_; have HP := np_; clear nb_ np_
  clear hb
  clear hcz_bw_0
  clear hfz_bw_0
  clear hcz_bw_1
  clear hfz_bw_1
  clear hcz_bw_2
  clear hfz_bw_2
  clear hcz_bw_3
  clear hfz_bw_3
  clear hcz_bg_0
  clear hfz_bg_0
  clear hcz_bg_1
  clear hfz_bg_1
  clear hcz_bg_2
  clear hfz_bg_2
  clear hcz_bg_3
  clear hfz_bg_3
  clear hcz_bh_0
  clear hfz_bh_0
  clear hcz_bh_1
  clear hfz_bh_1
  clear hcz_bh_2
  clear hfz_bh_2
  clear hcz_bh_3
  clear hfz_bh_3
  clear hnb_bw_bg
  clear hnb_bw_bh
  clear hnb_bg_bw
  clear hnb_bg_bh
  clear hnb_bh_bw
  clear hnb_bh_bg
  have hcz_bw_0 : w14_.cell? ⟨lobw, 0, none⟩ = some (.int .i64 rb) := (blk_cell HBbw.out 0).trans rfl; have hfz_bw_0 := blk_frozen HBbw.out 0
  have hcz_bw_1 : w14_.cell? ⟨lobw, 1, none⟩ = some (.int .i64 rt) := (blk_cell HBbw.out 1).trans rfl; have hfz_bw_1 := blk_frozen HBbw.out 1
  have hcz_bw_2 : w14_.cell? ⟨lobw, 2, none⟩ = some (.slice AW1 R1.length cW1) := (blk_cell HBbw.out 2).trans rfl; have hfz_bw_2 := blk_frozen HBbw.out 2
  have hcz_bw_3 : w14_.cell? ⟨lobw, 3, none⟩ = some (.slice AW2 R2.length cW2) := (blk_cell HBbw.out 3).trans rfl; have hfz_bw_3 := blk_frozen HBbw.out 3
  have hcz_bg_0 : w14_.cell? ⟨lobg, 0, none⟩ = some (.int .i64 rb) := (blk_cell HBbg.out 0).trans rfl; have hfz_bg_0 := blk_frozen HBbg.out 0
  have hcz_bg_1 : w14_.cell? ⟨lobg, 1, none⟩ = some (.int .i64 rt) := (blk_cell HBbg.out 1).trans rfl; have hfz_bg_1 := blk_frozen HBbg.out 1
  have hcz_bg_2 : w14_.cell? ⟨lobg, 2, none⟩ = some (.slice AG1 R1.length cG1) := (blk_cell HBbg.out 2).trans rfl; have hfz_bg_2 := blk_frozen HBbg.out 2
  have hcz_bg_3 : w14_.cell? ⟨lobg, 3, none⟩ = some (.slice AG2 R2.length cG2) := (blk_cell HBbg.out 3).trans rfl; have hfz_bg_3 := blk_frozen HBbg.out 3
  have hcz_bh_0 : w14_.cell? ⟨lobh, 0, none⟩ = some (.int .i64 rb) := (blk_cell HBbh.out 0).trans rfl; have hfz_bh_0 := blk_frozen HBbh.out 0
  have hcz_bh_1 : w14_.cell? ⟨lobh, 1, none⟩ = some (.int .i64 rt) := (blk_cell HBbh.out 1).trans rfl; have hfz_bh_1 := blk_frozen HBbh.out 1
  have hcz_bh_2 : w14_.cell? ⟨lobh, 2, none⟩ = some (.slice AH1 R1.length cH1) := (blk_cell HBbh.out 2).trans rfl; have hfz_bh_2 := blk_frozen HBbh.out 2
  have hcz_bh_3 : w14_.cell? ⟨lobh, 3, none⟩ = some (.slice AH2 R2.length cH2) := (blk_cell HBbh.out 3).trans rfl; have hfz_bh_3 := blk_frozen HBbh.out 3
  have ha_ : hibw ≤ lobg := by
    have h0_ := HOG.out
    have h1_ := HObg.out
    have s0_ := HLG.out
    omega
  have hnb_bw_bg : lobw ≠ lobg := by have h0_ := HHbw.out; have h1_ := HHbg.out; omega
  clear ha_
  have ha_ : hibw ≤ lobh := by
    have h0_ := HOG.out
    have h1_ := HObg.out
    have h2_ := HOH.out
    have h3_ := HObh.out
    have s0_ := HLG.out
    have s1_ := HLbg.out
    have s2_ := HLH.out
    omega
  have hnb_bw_bh : lobw ≠ lobh := by have h0_ := HHbw.out; have h1_ := HHbh.out; omega
  clear ha_
  have ha_ : hibw ≤ lobg := by
    have h0_ := HOG.out
    have h1_ := HObg.out
    have s0_ := HLG.out
    omega
  have hnb_bg_bw : lobg ≠ lobw := by have h0_ := HHbg.out; have h1_ := HHbw.out; omega
  clear ha_
  have ha_ : hibg ≤ lobh := by
    have h0_ := HOH.out
    have h1_ := HObh.out
    have s0_ := HLH.out
    omega
  have hnb_bg_bh : lobg ≠ lobh := by have h0_ := HHbg.out; have h1_ := HHbh.out; omega
  clear ha_
  have ha_ : hibw ≤ lobh := by
    have h0_ := HOG.out
    have h1_ := HObg.out
    have h2_ := HOH.out
    have h3_ := HObh.out
    have s0_ := HLG.out
    have s1_ := HLbg.out
    have s2_ := HLH.out
    omega
  have hnb_bh_bw : lobh ≠ lobw := by have h0_ := HHbh.out; have h1_ := HHbw.out; omega
  clear ha_
  have ha_ : hibg ≤ lobh := by
    have h0_ := HOH.out
    have h1_ := HObh.out
    have s0_ := HLH.out
    omega
  have hnb_bh_bg : lobh ≠ lobg := by have h0_ := HHbh.out; have h1_ := HHbg.out; omega
  clear ha_
  go_wp2
  go_ret
  exact ⟨rfl, HB.out⟩

end Go.Proofs.Ytaolbdkehlobiaa.PFnExactEqualRelation
