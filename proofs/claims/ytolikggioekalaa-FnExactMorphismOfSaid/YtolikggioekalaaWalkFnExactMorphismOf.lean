/- The law FnExactMorphismOf, walked call by call: where its pure parts answer as told, it answers true. No condition beyond those written. -/
import Derived.Test.YtolikggioekalaaMFnExactMorphismOfx0
import Derived.Test.YtolikggioekalaaMFnExactMorphismOfx1
import Derived.Test.YtolikggioekalaaMFnExactMorphismOfx2
import Derived.Test.YtolikggioekalaaMFnExactMorphismOfx3
import Derived.Test.YtolikggioekalaaMFnExactMorphismOfx4
import Derived.Test.YtolikggioekalaaMFnExactMorphismOfx5
import Derived.Test.YtolikggioekalaaMFnExactMorphismOfx6
import Derived.Test.YtolikggioekalaaMFnExactMorphismOfx7
import Derived.Test.YtolikggioekalaaGLaw
import Derived.Test.YtolikggioekalaaGLaw2
namespace Go.Proofs.Ytolikggioekalaa.PFnExactMorphismOf
open Go.RowKit Go.Proofs.YtolikggioekalaaW.PrintWords Go.Proofs.YtolikggioekalaaW.PrintLast Go.Proofs.YtolikggioekalaaW.PrintMore
set_option linter.unusedVariables false

/-- The check of marks, by whatever name the length goes. -/
theorem G_held (k : Nat) (A0 : Option Addr) (c0 n : Nat) (l0 : List (List Int)) (a1 r : Int) (w : World) (hr0 : Kd.C (Kd.slice 3 (Kd.int .i64)) w A0 l0.length l0) (hn : n = l0.length) (hc0 : n ≤ c0) (h : laws_heldMorphism.f k l0 a1 = some r) :
    Calls Try.prog 37 #[.agg #[.slice A0 n c0], .int .i64 a1] w fun e w' => e = .returned (.int .i64 r) ∧ Below w.heap.size w w' := by
  subst hn
  exact laws_heldMorphism.calls k A0 c0 l0 a1 r w hr0 hc0 h

set_option maxHeartbeats 16000000 in
set_option maxRecDepth 100000 in
theorem laws_MorphismOf.calls (k : Nat) (a : Int) (A1 : Option Addr) (c1 : Nat) (l1 : List (List Int)) (A2 : Option Addr) (c2 : Nat) (l2 : List Int) (R R' : List (List Int)) (b : Bool) (t mg mx : Int) (x2 : List Int) (w : World) (hr1 : Kd.C (Kd.slice 3 (Kd.int .i64)) w A1 l1.length l1) (hc1 : l1.length ≤ c1) (hr2 : Kd.C (Kd.int .i64) w A2 l2.length l2) (hc2 : l2.length ≤ c2)
    (hZ : laws_szSequence.f k a l1 l2 1048576 = some t) (ht : 0 ≤ t) (hT : laws_toSequence.f k a l1 l2 = some (a, l1, l2)) (hS : spec_MorphismOf.f k a l1 l2 = some (R, b)) (hI : impl_MorphismOf.f k a l1 l2 = some (R, b)) (hE : laws_eqMorphism.f k R R = some true) (hQ : laws_eqSequence.f k a l1 l2 a l1 l2 = some true) (hM : laws_markSequence.f k a l1 l2 1 = some (mx, x2)) (hmx : 0 ≤ mx) (hMR : laws_markMorphism.f k R 1 = some (mg, R')) (hmg : 0 ≤ mg) (hH : laws_heldMorphism.f k R' 1 = some mg) :
    Calls Try.prog 6 #[.agg #[.int .i64 a, .slice A1 l1.length c1, .slice A2 l2.length c2]] w fun e w' => e = .returned (.bool true) ∧ Below w.heap.size w w' := by
  have HA1 := Aside0.mk hr1; have HC1 := Aside0.mk hc1; have HA2 := Aside0.mk hr2; have HC2 := Aside0.mk hc2; have FZ := Aside0.mk hZ; have FT := Aside0.mk hT; have FS := Aside0.mk hS; have FI := Aside0.mk hI; have FE := Aside0.mk hE; have FQ := Aside0.mk hQ; have FM := Aside0.mk hM; have FMR := Aside0.mk hMR; have FH := Aside0.mk hH
  have HB := Aside0.mk (Below.refl w.heap.size w); have HP := Aside0.mk (Nat.le_refl w.heap.size)
  have hq0 : decide (t < 0) = false := by simp; omega
  have hq1 : decide (mx < 0) = false := by simp; omega
  have hq2 : decide (mg < 0) = false := by simp; omega
  clear hr1 hc1 hr2 hc2 hZ hT hS hI hE hQ hM hMR hH ht hmx hmg
  have hu0 := Try.underlying47; have hu1 := Try.underlying27; have hu2 := Try.underlying51
  go_enter Try.func6, Try.ntmps6
  go_wp2_with (first | (
    (with_reducible refine gate_dst (N := 1) rfl ?_); refine box_event ?hg (N := 1) ?hd (cs := #[.int .i64 a, .slice A1 l1.length c1, .slice A2 l2.length c2]) (t := 47) ?hr ?_; (case hd => rfl); (case hg => rfl); (case hr => first | (go_simp; done) | (go_simp; rfl))
    intro loarg hg w1_ hbox hb
    obtain ⟨hiarg, hh_⟩ : ∃ h, h = loarg + 1 := ⟨_, rfl⟩
    have hp_ : w.heap.size ≤ loarg := by rw [hg]; exact HP.out
    have hl_ : loarg ≤ hiarg := by omega
    have hs_ : hiarg ≤ w1_.heap.size := by rw [hh_]; exact blk_lt hbox
    have HGarg := Aside0.mk (show w.heap.size ≤ loarg from by rw [hg]; exact HB.out.size)
    have nb_ := Aside0.mk (below_step HB.out hb); have np_ := Aside0.mk (Nat.le_trans HP.out hb.size); clear HB HP; have HB := nb_; have HP := np_; clear nb_ np_
    have HHarg := Aside0.mk hh_
    have HOarg := Aside0.mk hp_; have HLarg := Aside0.mk hl_; clear HP; have HP := Aside0.mk hs_; clear hp_ hl_ hs_
    have HBarg := Aside0.mk hbox; clear hbox hb hg hh_
    have hcz_arg_0 : w1_.cell? ⟨loarg, 0, none⟩ = some (.int .i64 a) := (blk_cell HBarg.out 0).trans rfl; have hfz_arg_0 := blk_frozen HBarg.out 0
    have hcz_arg_1 : w1_.cell? ⟨loarg, 1, none⟩ = some (.slice A1 l1.length c1) := (blk_cell HBarg.out 1).trans rfl; have hfz_arg_1 := blk_frozen HBarg.out 1
    have hcz_arg_2 : w1_.cell? ⟨loarg, 2, none⟩ = some (.slice A2 l2.length c2) := (blk_cell HBarg.out 2).trans rfl; have hfz_arg_2 := blk_frozen HBarg.out 2))
  refine (laws_szSequence.calls k a _ _ l1 _ _ l2 1048576 t _ (Kd.C_below HA1.out HB.out) HC1.out (Kd.C_below HA2.out HB.out) HC2.out FZ.out).mono ?_
  rintro e w2_ ⟨rfl, hb⟩
  have n0_ := Aside0.mk (blk_below HBarg.out hb)
  clear HBarg; have HBarg := n0_; clear n0_
  have nb_ := Aside0.mk (below_step HB.out hb); have np_ := Aside0.mk (Nat.le_trans HP.out hb.size); clear HB HP; have HB := nb_; have HP := np_; clear nb_ np_
  clear hb
  clear hcz_arg_0
  clear hfz_arg_0
  clear hcz_arg_1
  clear hfz_arg_1
  clear hcz_arg_2
  clear hfz_arg_2
  have hcz_arg_0 : w2_.cell? ⟨loarg, 0, none⟩ = some (.int .i64 a) := (blk_cell HBarg.out 0).trans rfl; have hfz_arg_0 := blk_frozen HBarg.out 0
  have hcz_arg_1 : w2_.cell? ⟨loarg, 1, none⟩ = some (.slice A1 l1.length c1) := (blk_cell HBarg.out 1).trans rfl; have hfz_arg_1 := blk_frozen HBarg.out 1
  have hcz_arg_2 : w2_.cell? ⟨loarg, 2, none⟩ = some (.slice A2 l2.length c2) := (blk_cell HBarg.out 2).trans rfl; have hfz_arg_2 := blk_frozen HBarg.out 2
  go_wp2_with fail
  refine (laws_toSequence.calls k a _ _ l1 _ _ l2 a l1 l2 _ (Kd.C_below HA1.out HB.out) HC1.out (Kd.C_below HA2.out HB.out) HC2.out FT.out).mono ?_
  rintro e w3_ ⟨v1_, v2_, rfl, hoT1, hoT2, hb⟩
  obtain ⟨loT, hiT, hlo_, hhi_, hp_, hl_, hs_⟩ := G.span_of hb HP.out
  have hT1 := G.S_in2 hoT1 HB.out hlo_ hhi_
  have hT2 := G.R_in hoT2 HB.out hlo_ hhi_
  have n0_ := Aside0.mk (blk_below HBarg.out hb)
  clear HBarg; have HBarg := n0_; clear n0_
  have nb_ := Aside0.mk (below_step HB.out hb); have np_ := Aside0.mk (Nat.le_trans HP.out hb.size); clear HB HP; have HB := nb_; have HP := np_; clear nb_ np_
  clear hoT1 hoT2 hb hlo_ hhi_
  have HOT := Aside0.mk hp_; have HLT := Aside0.mk hl_; clear HP; have HP := Aside0.mk hs_; clear hp_ hl_ hs_
  obtain ⟨AT1, cT1, eT1⟩ := Kd.S_slice hT1; subst eT1
  have HT1 := Aside0.mk hT1; clear hT1
  obtain ⟨AT2, cT2, eT2⟩ := Kd.R_slice hT2; subst eT2
  have HT2 := Aside0.mk hT2; clear hT2
  clear hcz_arg_0
  clear hfz_arg_0
  clear hcz_arg_1
  clear hfz_arg_1
  clear hcz_arg_2
  clear hfz_arg_2
  have hcz_arg_0 : w3_.cell? ⟨loarg, 0, none⟩ = some (.int .i64 a) := (blk_cell HBarg.out 0).trans rfl; have hfz_arg_0 := blk_frozen HBarg.out 0
  have hcz_arg_1 : w3_.cell? ⟨loarg, 1, none⟩ = some (.slice A1 l1.length c1) := (blk_cell HBarg.out 1).trans rfl; have hfz_arg_1 := blk_frozen HBarg.out 1
  have hcz_arg_2 : w3_.cell? ⟨loarg, 2, none⟩ = some (.slice A2 l2.length c2) := (blk_cell HBarg.out 2).trans rfl; have hfz_arg_2 := blk_frozen HBarg.out 2
  go_wp2_with fail
  refine (spec_MorphismOf.calls k a _ _ l1 _ _ l2 R b _ (Kd.S_reads' HT1.out).2.2 (Kd.S_reads' HT1.out).2.1 (Kd.R_reads' HT2.out).2.2 (Kd.R_reads' HT2.out).2.1 FS.out).mono ?_
  rintro e w4_ ⟨v1_, rfl, hoW, hb⟩
  obtain ⟨loW, hiW, hlo_, hhi_, hp_, hl_, hs_⟩ := G.span_of hb HP.out
  have hW := G.S_in hoW HB.out hlo_ hhi_
  have n0_ := Aside0.mk (blk_below HBarg.out hb)
  have n1_ := Aside0.mk (Kd.S_below HT1.out hb)
  have n2_ := Aside0.mk (Kd.R_below HT2.out hb)
  clear HBarg; have HBarg := n0_; clear n0_
  clear HT1; have HT1 := n1_; clear n1_
  clear HT2; have HT2 := n2_; clear n2_
  have nb_ := Aside0.mk (below_step HB.out hb); have np_ := Aside0.mk (Nat.le_trans HP.out hb.size); clear HB HP; have HB := nb_; have HP := np_; clear nb_ np_
  clear hoW hb hlo_ hhi_
  have HOW := Aside0.mk hp_; have HLW := Aside0.mk hl_; clear HP; have HP := Aside0.mk hs_; clear hp_ hl_ hs_
  obtain ⟨AW, cW, eW⟩ := Kd.S_slice hW; subst eW
  have HW := Aside0.mk hW; clear hW
  clear hcz_arg_0
  clear hfz_arg_0
  clear hcz_arg_1
  clear hfz_arg_1
  clear hcz_arg_2
  clear hfz_arg_2
  have hcz_arg_0 : w4_.cell? ⟨loarg, 0, none⟩ = some (.int .i64 a) := (blk_cell HBarg.out 0).trans rfl; have hfz_arg_0 := blk_frozen HBarg.out 0
  have hcz_arg_1 : w4_.cell? ⟨loarg, 1, none⟩ = some (.slice A1 l1.length c1) := (blk_cell HBarg.out 1).trans rfl; have hfz_arg_1 := blk_frozen HBarg.out 1
  have hcz_arg_2 : w4_.cell? ⟨loarg, 2, none⟩ = some (.slice A2 l2.length c2) := (blk_cell HBarg.out 2).trans rfl; have hfz_arg_2 := blk_frozen HBarg.out 2
  clear HT1
  clear HT2
  go_wp2_with (first | (
    (with_reducible refine gate_dst (N := 4) rfl ?_); refine box_event ?hg (N := 4) ?hd (cs := #[.slice none 0 0]) (t := 27) ?hr ?_; (case hd => rfl); (case hg => rfl); (case hr => first | (go_simp; done) | (go_simp; rfl))
    intro lobw hg w5_ hbox hb
    obtain ⟨hibw, hh_⟩ : ∃ h, h = lobw + 1 := ⟨_, rfl⟩
    have hp_ : hiW ≤ lobw := by rw [hg]; exact HP.out
    have hl_ : lobw ≤ hibw := by omega
    have hs_ : hibw ≤ w5_.heap.size := by rw [hh_]; exact blk_lt hbox
    have HGbw := Aside0.mk (show w.heap.size ≤ lobw from by rw [hg]; exact HB.out.size)
    have n0_ := Aside0.mk (blk_below HBarg.out hb)
    have n1_ := Aside0.mk (Kd.S_below HW.out hb)
    clear HBarg; have HBarg := n0_; clear n0_
    clear HW; have HW := n1_; clear n1_
    have nb_ := Aside0.mk (below_step HB.out hb); have np_ := Aside0.mk (Nat.le_trans HP.out hb.size); clear HB HP; have HB := nb_; have HP := np_; clear nb_ np_
    have HHbw := Aside0.mk hh_
    have HObw := Aside0.mk hp_; have HLbw := Aside0.mk hl_; clear HP; have HP := Aside0.mk hs_; clear hp_ hl_ hs_
    have HBbw := Aside0.mk hbox; clear hbox hb hg hh_
    clear hcz_arg_0
    clear hfz_arg_0
    clear hcz_arg_1
    clear hfz_arg_1
    clear hcz_arg_2
    clear hfz_arg_2
    have hcz_arg_0 : w5_.cell? ⟨loarg, 0, none⟩ = some (.int .i64 a) := (blk_cell HBarg.out 0).trans rfl; have hfz_arg_0 := blk_frozen HBarg.out 0
    have hcz_arg_1 : w5_.cell? ⟨loarg, 1, none⟩ = some (.slice A1 l1.length c1) := (blk_cell HBarg.out 1).trans rfl; have hfz_arg_1 := blk_frozen HBarg.out 1
    have hcz_arg_2 : w5_.cell? ⟨loarg, 2, none⟩ = some (.slice A2 l2.length c2) := (blk_cell HBarg.out 2).trans rfl; have hfz_arg_2 := blk_frozen HBarg.out 2
    have hcz_bw_0 : w5_.cell? ⟨lobw, 0, none⟩ = some (.slice none 0 0) := (blk_cell HBbw.out 0).trans rfl; have hfz_bw_0 := blk_frozen HBbw.out 0
    have ha_ : hiarg ≤ lobw := by
      have h0_ := HOT.out
      have h1_ := HOW.out
      have h2_ := HObw.out
      have s0_ := HLT.out
      have s1_ := HLW.out
      omega
    have hnb_arg_bw : loarg ≠ lobw := by have h0_ := HHarg.out; have h1_ := HHbw.out; omega
    clear ha_
    have ha_ : hiarg ≤ lobw := by
      have h0_ := HOT.out
      have h1_ := HOW.out
      have h2_ := HObw.out
      have s0_ := HLT.out
      have s1_ := HLW.out
      omega
    have hnb_bw_arg : lobw ≠ loarg := by have h0_ := HHbw.out; have h1_ := HHarg.out; omega
    clear ha_))
  refine G.genC (F := fun w1 => Kept w5_ w1 (G.Span lobw hibw) ∧ Below w.heap.size w w1 ∧ w1.heap[lobw]? = some (.cells #[.slice AW R.length cW] 27 (0, 0))) ⟨?k0, ?k1, ?k2⟩ ?_
  case k0 => exact (by have hh_ := HHbw.out; repeat (first | exact Kept.refl _ _ | refine Kept.setCell ?_ (.inl ⟨Nat.le_refl _, by show lobw < hibw; omega⟩) _ | refine Kept.drewN ?_ _ | refine Kept.drew ?_))
  case k1 => exact (by repeat (first | (with_reducible first | exact HB.out | apply below_drew1 | apply pw_below_drewN | refine below_set ?_ HGbw.out) | exact HB.out))
  case k2 => exact (by (with_reducible repeat (first | refine blk_drewN ?_ _ | refine blk_drew ?_)); refine blk_put (cs := #[.slice none 0 0]) ?_ 0 _ rfl; (with_reducible repeat (first | refine blk_drewN ?_ _ | refine blk_drew ?_)); exact HBbw.out)
  rintro w6_ ⟨hkp, hb1_, hbk_⟩
  clear HBbw
  have ha_arg : hiarg ≤ lobw := by
    have h0_ := HOT.out
    have h1_ := HOW.out
    have h2_ := HObw.out
    have s0_ := HLT.out
    have s1_ := HLW.out
    omega
  have ha_W : hiW ≤ lobw := by
    have h0_ := HObw.out
    omega
  have n0_ := Aside0.mk (blk_kept HBarg.out hkp (by have h0_ := HHarg.out; have h1_ := ha_arg; unfold G.Span; omega))
  have n1_ := Aside0.mk (G.S_marked HW.out hkp (.inl ha_W))
  clear HBarg; have HBarg := n0_; clear n0_
  clear HW; have HW := n1_; clear n1_
  have np_ := Aside0.mk (Nat.le_trans HP.out hkp.1); have nb_ := Aside0.mk hb1_; clear HP HB hb1_; have HP := np_; have HB := nb_; clear np_ nb_ ha_arg ha_W
  have HBbw := Aside0.mk hbk_; clear hbk_ hkp
  clear hcz_arg_0
  clear hfz_arg_0
  clear hcz_arg_1
  clear hfz_arg_1
  clear hcz_arg_2
  clear hfz_arg_2
  clear hcz_bw_0
  clear hfz_bw_0
  clear hnb_arg_bw
  clear hnb_bw_arg
  have hcz_arg_0 : w6_.cell? ⟨loarg, 0, none⟩ = some (.int .i64 a) := (blk_cell HBarg.out 0).trans rfl; have hfz_arg_0 := blk_frozen HBarg.out 0
  have hcz_arg_1 : w6_.cell? ⟨loarg, 1, none⟩ = some (.slice A1 l1.length c1) := (blk_cell HBarg.out 1).trans rfl; have hfz_arg_1 := blk_frozen HBarg.out 1
  have hcz_arg_2 : w6_.cell? ⟨loarg, 2, none⟩ = some (.slice A2 l2.length c2) := (blk_cell HBarg.out 2).trans rfl; have hfz_arg_2 := blk_frozen HBarg.out 2
  have hcz_bw_0 : w6_.cell? ⟨lobw, 0, none⟩ = some (.slice AW R.length cW) := (blk_cell HBbw.out 0).trans rfl; have hfz_bw_0 := blk_frozen HBbw.out 0
  have ha_ : hiarg ≤ lobw := by
    have h0_ := HOT.out
    have h1_ := HOW.out
    have h2_ := HObw.out
    have s0_ := HLT.out
    have s1_ := HLW.out
    omega
  have hnb_arg_bw : loarg ≠ lobw := by have h0_ := HHarg.out; have h1_ := HHbw.out; omega
  clear ha_
  have ha_ : hiarg ≤ lobw := by
    have h0_ := HOT.out
    have h1_ := HOW.out
    have h2_ := HObw.out
    have s0_ := HLT.out
    have s1_ := HLW.out
    omega
  have hnb_bw_arg : lobw ≠ loarg := by have h0_ := HHbw.out; have h1_ := HHarg.out; omega
  clear ha_
  refine (laws_toSequence.calls k a _ _ l1 _ _ l2 a l1 l2 _ (Kd.C_below HA1.out HB.out) HC1.out (Kd.C_below HA2.out HB.out) HC2.out FT.out).mono ?_
  rintro e w7_ ⟨v1_, v2_, rfl, hoX1, hoX2, hb⟩
  obtain ⟨loX, hiX, hlo_, hhi_, hp_, hl_, hs_⟩ := G.span_of hb HP.out
  have hX1 := G.S_in2 hoX1 HB.out hlo_ hhi_
  have hX2 := G.R_in hoX2 HB.out hlo_ hhi_
  have n0_ := Aside0.mk (blk_below HBarg.out hb)
  have n1_ := Aside0.mk (Kd.S_below HW.out hb)
  have n2_ := Aside0.mk (blk_below HBbw.out hb)
  clear HBarg; have HBarg := n0_; clear n0_
  clear HW; have HW := n1_; clear n1_
  clear HBbw; have HBbw := n2_; clear n2_
  have nb_ := Aside0.mk (below_step HB.out hb); have np_ := Aside0.mk (Nat.le_trans HP.out hb.size); clear HB HP; have HB := nb_; have HP := np_; clear nb_ np_
  clear hoX1 hoX2 hb hlo_ hhi_
  have HOX := Aside0.mk hp_; have HLX := Aside0.mk hl_; clear HP; have HP := Aside0.mk hs_; clear hp_ hl_ hs_
  obtain ⟨AX1, cX1, eX1⟩ := Kd.S_slice hX1; subst eX1
  have HX1 := Aside0.mk hX1; clear hX1
  obtain ⟨AX2, cX2, eX2⟩ := Kd.R_slice hX2; subst eX2
  have HX2 := Aside0.mk hX2; clear hX2
  clear hcz_arg_0
  clear hfz_arg_0
  clear hcz_arg_1
  clear hfz_arg_1
  clear hcz_arg_2
  clear hfz_arg_2
  clear hcz_bw_0
  clear hfz_bw_0
  clear hnb_arg_bw
  clear hnb_bw_arg
  have hcz_arg_0 : w7_.cell? ⟨loarg, 0, none⟩ = some (.int .i64 a) := (blk_cell HBarg.out 0).trans rfl; have hfz_arg_0 := blk_frozen HBarg.out 0
  have hcz_arg_1 : w7_.cell? ⟨loarg, 1, none⟩ = some (.slice A1 l1.length c1) := (blk_cell HBarg.out 1).trans rfl; have hfz_arg_1 := blk_frozen HBarg.out 1
  have hcz_arg_2 : w7_.cell? ⟨loarg, 2, none⟩ = some (.slice A2 l2.length c2) := (blk_cell HBarg.out 2).trans rfl; have hfz_arg_2 := blk_frozen HBarg.out 2
  have hcz_bw_0 : w7_.cell? ⟨lobw, 0, none⟩ = some (.slice AW R.length cW) := (blk_cell HBbw.out 0).trans rfl; have hfz_bw_0 := blk_frozen HBbw.out 0
  have ha_ : hiarg ≤ lobw := by
    have h0_ := HOT.out
    have h1_ := HOW.out
    have h2_ := HObw.out
    have s0_ := HLT.out
    have s1_ := HLW.out
    omega
  have hnb_arg_bw : loarg ≠ lobw := by have h0_ := HHarg.out; have h1_ := HHbw.out; omega
  clear ha_
  have ha_ : hiarg ≤ lobw := by
    have h0_ := HOT.out
    have h1_ := HOW.out
    have h2_ := HObw.out
    have s0_ := HLT.out
    have s1_ := HLW.out
    omega
  have hnb_bw_arg : lobw ≠ loarg := by have h0_ := HHbw.out; have h1_ := HHarg.out; omega
  clear ha_
  go_wp2_with (first | (
    (with_reducible refine gate_dst (N := 6) rfl ?_); refine box_event ?hg (N := 6) ?hd (cs := #[.int .i64 0, .slice none 0 0, .slice none 0 0]) (t := 51) ?hr ?_; (case hd => rfl); (case hg => rfl); (case hr => first | (go_simp; done) | (go_simp; rfl))
    intro lobx hg w8_ hbox hb
    obtain ⟨hibx, hh_⟩ : ∃ h, h = lobx + 1 := ⟨_, rfl⟩
    have hp_ : hiX ≤ lobx := by rw [hg]; exact HP.out
    have hl_ : lobx ≤ hibx := by omega
    have hs_ : hibx ≤ w8_.heap.size := by rw [hh_]; exact blk_lt hbox
    have HGbx := Aside0.mk (show w.heap.size ≤ lobx from by rw [hg]; exact HB.out.size)
    have n0_ := Aside0.mk (blk_below HBarg.out hb)
    have n1_ := Aside0.mk (Kd.S_below HW.out hb)
    have n2_ := Aside0.mk (blk_below HBbw.out hb)
    have n3_ := Aside0.mk (Kd.S_below HX1.out hb)
    have n4_ := Aside0.mk (Kd.R_below HX2.out hb)
    clear HBarg; have HBarg := n0_; clear n0_
    clear HW; have HW := n1_; clear n1_
    clear HBbw; have HBbw := n2_; clear n2_
    clear HX1; have HX1 := n3_; clear n3_
    clear HX2; have HX2 := n4_; clear n4_
    have nb_ := Aside0.mk (below_step HB.out hb); have np_ := Aside0.mk (Nat.le_trans HP.out hb.size); clear HB HP; have HB := nb_; have HP := np_; clear nb_ np_
    have HHbx := Aside0.mk hh_
    have HObx := Aside0.mk hp_; have HLbx := Aside0.mk hl_; clear HP; have HP := Aside0.mk hs_; clear hp_ hl_ hs_
    have HBbx := Aside0.mk hbox; clear hbox hb hg hh_
    clear hcz_arg_0
    clear hfz_arg_0
    clear hcz_arg_1
    clear hfz_arg_1
    clear hcz_arg_2
    clear hfz_arg_2
    clear hcz_bw_0
    clear hfz_bw_0
    clear hnb_arg_bw
    clear hnb_bw_arg
    have hcz_arg_0 : w8_.cell? ⟨loarg, 0, none⟩ = some (.int .i64 a) := (blk_cell HBarg.out 0).trans rfl; have hfz_arg_0 := blk_frozen HBarg.out 0
    have hcz_arg_1 : w8_.cell? ⟨loarg, 1, none⟩ = some (.slice A1 l1.length c1) := (blk_cell HBarg.out 1).trans rfl; have hfz_arg_1 := blk_frozen HBarg.out 1
    have hcz_arg_2 : w8_.cell? ⟨loarg, 2, none⟩ = some (.slice A2 l2.length c2) := (blk_cell HBarg.out 2).trans rfl; have hfz_arg_2 := blk_frozen HBarg.out 2
    have hcz_bw_0 : w8_.cell? ⟨lobw, 0, none⟩ = some (.slice AW R.length cW) := (blk_cell HBbw.out 0).trans rfl; have hfz_bw_0 := blk_frozen HBbw.out 0
    have hcz_bx_0 : w8_.cell? ⟨lobx, 0, none⟩ = some (.int .i64 0) := (blk_cell HBbx.out 0).trans rfl; have hfz_bx_0 := blk_frozen HBbx.out 0
    have hcz_bx_1 : w8_.cell? ⟨lobx, 1, none⟩ = some (.slice none 0 0) := (blk_cell HBbx.out 1).trans rfl; have hfz_bx_1 := blk_frozen HBbx.out 1
    have hcz_bx_2 : w8_.cell? ⟨lobx, 2, none⟩ = some (.slice none 0 0) := (blk_cell HBbx.out 2).trans rfl; have hfz_bx_2 := blk_frozen HBbx.out 2
    have ha_ : hiarg ≤ lobw := by
      have h0_ := HOT.out
      have h1_ := HOW.out
      have h2_ := HObw.out
      have s0_ := HLT.out
      have s1_ := HLW.out
      omega
    have hnb_arg_bw : loarg ≠ lobw := by have h0_ := HHarg.out; have h1_ := HHbw.out; omega
    clear ha_
    have ha_ : hiarg ≤ lobx := by
      have h0_ := HOT.out
      have h1_ := HOW.out
      have h2_ := HObw.out
      have h3_ := HOX.out
      have h4_ := HObx.out
      have s0_ := HLT.out
      have s1_ := HLW.out
      have s2_ := HLbw.out
      have s3_ := HLX.out
      omega
    have hnb_arg_bx : loarg ≠ lobx := by have h0_ := HHarg.out; have h1_ := HHbx.out; omega
    clear ha_
    have ha_ : hiarg ≤ lobw := by
      have h0_ := HOT.out
      have h1_ := HOW.out
      have h2_ := HObw.out
      have s0_ := HLT.out
      have s1_ := HLW.out
      omega
    have hnb_bw_arg : lobw ≠ loarg := by have h0_ := HHbw.out; have h1_ := HHarg.out; omega
    clear ha_
    have ha_ : hibw ≤ lobx := by
      have h0_ := HOX.out
      have h1_ := HObx.out
      have s0_ := HLX.out
      omega
    have hnb_bw_bx : lobw ≠ lobx := by have h0_ := HHbw.out; have h1_ := HHbx.out; omega
    clear ha_
    have ha_ : hiarg ≤ lobx := by
      have h0_ := HOT.out
      have h1_ := HOW.out
      have h2_ := HObw.out
      have h3_ := HOX.out
      have h4_ := HObx.out
      have s0_ := HLT.out
      have s1_ := HLW.out
      have s2_ := HLbw.out
      have s3_ := HLX.out
      omega
    have hnb_bx_arg : lobx ≠ loarg := by have h0_ := HHbx.out; have h1_ := HHarg.out; omega
    clear ha_
    have ha_ : hibw ≤ lobx := by
      have h0_ := HOX.out
      have h1_ := HObx.out
      have s0_ := HLX.out
      omega
    have hnb_bx_bw : lobx ≠ lobw := by have h0_ := HHbx.out; have h1_ := HHbw.out; omega
    clear ha_))
  refine G.genC (F := fun w1 => Kept w8_ w1 (G.Span lobx hibx) ∧ Below w.heap.size w w1 ∧ w1.heap[lobx]? = some (.cells #[.int .i64 a, .slice AX1 l1.length cX1, .slice AX2 l2.length cX2] 51 (0, 0))) ⟨?k0, ?k1, ?k2⟩ ?_
  case k0 => exact (by have hh_ := HHbx.out; repeat (first | exact Kept.refl _ _ | refine Kept.setCell ?_ (.inl ⟨Nat.le_refl _, by show lobx < hibx; omega⟩) _ | refine Kept.drewN ?_ _ | refine Kept.drew ?_))
  case k1 => exact (by repeat (first | (with_reducible first | exact HB.out | apply below_drew1 | apply pw_below_drewN | refine below_set ?_ HGbx.out) | exact HB.out))
  case k2 => exact (by (with_reducible repeat (first | refine blk_drewN ?_ _ | refine blk_drew ?_)); refine blk_put (cs := #[.int .i64 a, .slice AX1 l1.length cX1, .slice none 0 0]) ?_ 2 _ rfl; (with_reducible repeat (first | refine blk_drewN ?_ _ | refine blk_drew ?_)); refine blk_put (cs := #[.int .i64 a, .slice none 0 0, .slice none 0 0]) ?_ 1 _ rfl; (with_reducible repeat (first | refine blk_drewN ?_ _ | refine blk_drew ?_)); refine blk_put (cs := #[.int .i64 0, .slice none 0 0, .slice none 0 0]) ?_ 0 _ rfl; (with_reducible repeat (first | refine blk_drewN ?_ _ | refine blk_drew ?_)); exact HBbx.out)
  rintro w9_ ⟨hkp, hb1_, hbk_⟩
  clear HBbx
  have ha_arg : hiarg ≤ lobx := by
    have h0_ := HOT.out
    have h1_ := HOW.out
    have h2_ := HObw.out
    have h3_ := HOX.out
    have h4_ := HObx.out
    have s0_ := HLT.out
    have s1_ := HLW.out
    have s2_ := HLbw.out
    have s3_ := HLX.out
    omega
  have ha_W : hiW ≤ lobx := by
    have h0_ := HObw.out
    have h1_ := HOX.out
    have h2_ := HObx.out
    have s0_ := HLbw.out
    have s1_ := HLX.out
    omega
  have ha_bw : hibw ≤ lobx := by
    have h0_ := HOX.out
    have h1_ := HObx.out
    have s0_ := HLX.out
    omega
  have ha_X : hiX ≤ lobx := by
    have h0_ := HObx.out
    omega
  have n0_ := Aside0.mk (blk_kept HBarg.out hkp (by have h0_ := HHarg.out; have h1_ := ha_arg; unfold G.Span; omega))
  have n1_ := Aside0.mk (G.S_marked HW.out hkp (.inl ha_W))
  have n2_ := Aside0.mk (blk_kept HBbw.out hkp (by have h0_ := HHbw.out; have h1_ := ha_bw; unfold G.Span; omega))
  have n3_ := Aside0.mk (G.S_marked2 HX1.out hkp (.inl ha_X))
  have n4_ := Aside0.mk (G.R_marked HX2.out hkp (.inl ha_X))
  clear HBarg; have HBarg := n0_; clear n0_
  clear HW; have HW := n1_; clear n1_
  clear HBbw; have HBbw := n2_; clear n2_
  clear HX1; have HX1 := n3_; clear n3_
  clear HX2; have HX2 := n4_; clear n4_
  have np_ := Aside0.mk (Nat.le_trans HP.out hkp.1); have nb_ := Aside0.mk hb1_; clear HP HB hb1_; have HP := np_; have HB := nb_; clear np_ nb_ ha_arg ha_W ha_bw ha_X
  have HBbx := Aside0.mk hbk_; clear hbk_ hkp
  clear hcz_arg_0
  clear hfz_arg_0
  clear hcz_arg_1
  clear hfz_arg_1
  clear hcz_arg_2
  clear hfz_arg_2
  clear hcz_bw_0
  clear hfz_bw_0
  clear hcz_bx_0
  clear hfz_bx_0
  clear hcz_bx_1
  clear hfz_bx_1
  clear hcz_bx_2
  clear hfz_bx_2
  clear hnb_arg_bw
  clear hnb_arg_bx
  clear hnb_bw_arg
  clear hnb_bw_bx
  clear hnb_bx_arg
  clear hnb_bx_bw
  have hcz_arg_0 : w9_.cell? ⟨loarg, 0, none⟩ = some (.int .i64 a) := (blk_cell HBarg.out 0).trans rfl; have hfz_arg_0 := blk_frozen HBarg.out 0
  have hcz_arg_1 : w9_.cell? ⟨loarg, 1, none⟩ = some (.slice A1 l1.length c1) := (blk_cell HBarg.out 1).trans rfl; have hfz_arg_1 := blk_frozen HBarg.out 1
  have hcz_arg_2 : w9_.cell? ⟨loarg, 2, none⟩ = some (.slice A2 l2.length c2) := (blk_cell HBarg.out 2).trans rfl; have hfz_arg_2 := blk_frozen HBarg.out 2
  have hcz_bw_0 : w9_.cell? ⟨lobw, 0, none⟩ = some (.slice AW R.length cW) := (blk_cell HBbw.out 0).trans rfl; have hfz_bw_0 := blk_frozen HBbw.out 0
  have hcz_bx_0 : w9_.cell? ⟨lobx, 0, none⟩ = some (.int .i64 a) := (blk_cell HBbx.out 0).trans rfl; have hfz_bx_0 := blk_frozen HBbx.out 0
  have hcz_bx_1 : w9_.cell? ⟨lobx, 1, none⟩ = some (.slice AX1 l1.length cX1) := (blk_cell HBbx.out 1).trans rfl; have hfz_bx_1 := blk_frozen HBbx.out 1
  have hcz_bx_2 : w9_.cell? ⟨lobx, 2, none⟩ = some (.slice AX2 l2.length cX2) := (blk_cell HBbx.out 2).trans rfl; have hfz_bx_2 := blk_frozen HBbx.out 2
  have ha_ : hiarg ≤ lobw := by
    have h0_ := HOT.out
    have h1_ := HOW.out
    have h2_ := HObw.out
    have s0_ := HLT.out
    have s1_ := HLW.out
    omega
  have hnb_arg_bw : loarg ≠ lobw := by have h0_ := HHarg.out; have h1_ := HHbw.out; omega
  clear ha_
  have ha_ : hiarg ≤ lobx := by
    have h0_ := HOT.out
    have h1_ := HOW.out
    have h2_ := HObw.out
    have h3_ := HOX.out
    have h4_ := HObx.out
    have s0_ := HLT.out
    have s1_ := HLW.out
    have s2_ := HLbw.out
    have s3_ := HLX.out
    omega
  have hnb_arg_bx : loarg ≠ lobx := by have h0_ := HHarg.out; have h1_ := HHbx.out; omega
  clear ha_
  have ha_ : hiarg ≤ lobw := by
    have h0_ := HOT.out
    have h1_ := HOW.out
    have h2_ := HObw.out
    have s0_ := HLT.out
    have s1_ := HLW.out
    omega
  have hnb_bw_arg : lobw ≠ loarg := by have h0_ := HHbw.out; have h1_ := HHarg.out; omega
  clear ha_
  have ha_ : hibw ≤ lobx := by
    have h0_ := HOX.out
    have h1_ := HObx.out
    have s0_ := HLX.out
    omega
  have hnb_bw_bx : lobw ≠ lobx := by have h0_ := HHbw.out; have h1_ := HHbx.out; omega
  clear ha_
  have ha_ : hiarg ≤ lobx := by
    have h0_ := HOT.out
    have h1_ := HOW.out
    have h2_ := HObw.out
    have h3_ := HOX.out
    have h4_ := HObx.out
    have s0_ := HLT.out
    have s1_ := HLW.out
    have s2_ := HLbw.out
    have s3_ := HLX.out
    omega
  have hnb_bx_arg : lobx ≠ loarg := by have h0_ := HHbx.out; have h1_ := HHarg.out; omega
  clear ha_
  have ha_ : hibw ≤ lobx := by
    have h0_ := HOX.out
    have h1_ := HObx.out
    have s0_ := HLX.out
    omega
  have hnb_bx_bw : lobx ≠ lobw := by have h0_ := HHbx.out; have h1_ := HHbw.out; omega
  clear ha_
  refine (impl_MorphismOf.calls k a _ _ l1 _ _ l2 R b _ (Kd.S_reads' HX1.out).2.2 (Kd.S_reads' HX1.out).2.1 (Kd.R_reads' HX2.out).2.2 (Kd.R_reads' HX2.out).2.1 FI.out).mono ?_
  rintro e w10_ ⟨v1_, rfl, hoG, hb⟩
  obtain ⟨loG, hiG, hlo_, hhi_, hp_, hl_, hs_⟩ := G.span_of hb HP.out
  have hG := G.S_in hoG HB.out hlo_ hhi_
  have n0_ := Aside0.mk (blk_below HBarg.out hb)
  have n1_ := Aside0.mk (Kd.S_below HW.out hb)
  have n2_ := Aside0.mk (blk_below HBbw.out hb)
  have n3_ := Aside0.mk (Kd.S_below HX1.out hb)
  have n4_ := Aside0.mk (Kd.R_below HX2.out hb)
  have n5_ := Aside0.mk (blk_below HBbx.out hb)
  clear HBarg; have HBarg := n0_; clear n0_
  clear HW; have HW := n1_; clear n1_
  clear HBbw; have HBbw := n2_; clear n2_
  clear HX1; have HX1 := n3_; clear n3_
  clear HX2; have HX2 := n4_; clear n4_
  clear HBbx; have HBbx := n5_; clear n5_
  have nb_ := Aside0.mk (below_step HB.out hb); have np_ := Aside0.mk (Nat.le_trans HP.out hb.size); clear HB HP; have HB := nb_; have HP := np_; clear nb_ np_
  clear hoG hb hlo_ hhi_
  have HOG := Aside0.mk hp_; have HLG := Aside0.mk hl_; clear HP; have HP := Aside0.mk hs_; clear hp_ hl_ hs_
  obtain ⟨AG, cG, eG⟩ := Kd.S_slice hG; subst eG
  have HG := Aside0.mk hG; clear hG
  clear hcz_arg_0
  clear hfz_arg_0
  clear hcz_arg_1
  clear hfz_arg_1
  clear hcz_arg_2
  clear hfz_arg_2
  clear hcz_bw_0
  clear hfz_bw_0
  clear hcz_bx_0
  clear hfz_bx_0
  clear hcz_bx_1
  clear hfz_bx_1
  clear hcz_bx_2
  clear hfz_bx_2
  clear hnb_arg_bw
  clear hnb_arg_bx
  clear hnb_bw_arg
  clear hnb_bw_bx
  clear hnb_bx_arg
  clear hnb_bx_bw
  have hcz_arg_0 : w10_.cell? ⟨loarg, 0, none⟩ = some (.int .i64 a) := (blk_cell HBarg.out 0).trans rfl; have hfz_arg_0 := blk_frozen HBarg.out 0
  have hcz_arg_1 : w10_.cell? ⟨loarg, 1, none⟩ = some (.slice A1 l1.length c1) := (blk_cell HBarg.out 1).trans rfl; have hfz_arg_1 := blk_frozen HBarg.out 1
  have hcz_arg_2 : w10_.cell? ⟨loarg, 2, none⟩ = some (.slice A2 l2.length c2) := (blk_cell HBarg.out 2).trans rfl; have hfz_arg_2 := blk_frozen HBarg.out 2
  have hcz_bw_0 : w10_.cell? ⟨lobw, 0, none⟩ = some (.slice AW R.length cW) := (blk_cell HBbw.out 0).trans rfl; have hfz_bw_0 := blk_frozen HBbw.out 0
  have hcz_bx_0 : w10_.cell? ⟨lobx, 0, none⟩ = some (.int .i64 a) := (blk_cell HBbx.out 0).trans rfl; have hfz_bx_0 := blk_frozen HBbx.out 0
  have hcz_bx_1 : w10_.cell? ⟨lobx, 1, none⟩ = some (.slice AX1 l1.length cX1) := (blk_cell HBbx.out 1).trans rfl; have hfz_bx_1 := blk_frozen HBbx.out 1
  have hcz_bx_2 : w10_.cell? ⟨lobx, 2, none⟩ = some (.slice AX2 l2.length cX2) := (blk_cell HBbx.out 2).trans rfl; have hfz_bx_2 := blk_frozen HBbx.out 2
  have ha_ : hiarg ≤ lobw := by
    have h0_ := HOT.out
    have h1_ := HOW.out
    have h2_ := HObw.out
    have s0_ := HLT.out
    have s1_ := HLW.out
    omega
  have hnb_arg_bw : loarg ≠ lobw := by have h0_ := HHarg.out; have h1_ := HHbw.out; omega
  clear ha_
  have ha_ : hiarg ≤ lobx := by
    have h0_ := HOT.out
    have h1_ := HOW.out
    have h2_ := HObw.out
    have h3_ := HOX.out
    have h4_ := HObx.out
    have s0_ := HLT.out
    have s1_ := HLW.out
    have s2_ := HLbw.out
    have s3_ := HLX.out
    omega
  have hnb_arg_bx : loarg ≠ lobx := by have h0_ := HHarg.out; have h1_ := HHbx.out; omega
  clear ha_
  have ha_ : hiarg ≤ lobw := by
    have h0_ := HOT.out
    have h1_ := HOW.out
    have h2_ := HObw.out
    have s0_ := HLT.out
    have s1_ := HLW.out
    omega
  have hnb_bw_arg : lobw ≠ loarg := by have h0_ := HHbw.out; have h1_ := HHarg.out; omega
  clear ha_
  have ha_ : hibw ≤ lobx := by
    have h0_ := HOX.out
    have h1_ := HObx.out
    have s0_ := HLX.out
    omega
  have hnb_bw_bx : lobw ≠ lobx := by have h0_ := HHbw.out; have h1_ := HHbx.out; omega
  clear ha_
  have ha_ : hiarg ≤ lobx := by
    have h0_ := HOT.out
    have h1_ := HOW.out
    have h2_ := HObw.out
    have h3_ := HOX.out
    have h4_ := HObx.out
    have s0_ := HLT.out
    have s1_ := HLW.out
    have s2_ := HLbw.out
    have s3_ := HLX.out
    omega
  have hnb_bx_arg : lobx ≠ loarg := by have h0_ := HHbx.out; have h1_ := HHarg.out; omega
  clear ha_
  have ha_ : hibw ≤ lobx := by
    have h0_ := HOX.out
    have h1_ := HObx.out
    have s0_ := HLX.out
    omega
  have hnb_bx_bw : lobx ≠ lobw := by have h0_ := HHbx.out; have h1_ := HHbw.out; omega
  clear ha_
  go_wp2_with (first | (
    (with_reducible refine gate_dst (N := 7) rfl ?_); refine box_event ?hg (N := 7) ?hd (cs := #[.slice none 0 0]) (t := 27) ?hr ?_; (case hd => rfl); (case hg => rfl); (case hr => first | (go_simp; done) | (go_simp; rfl))
    intro lobg hg w11_ hbox hb
    obtain ⟨hibg, hh_⟩ : ∃ h, h = lobg + 1 := ⟨_, rfl⟩
    have hp_ : hiG ≤ lobg := by rw [hg]; exact HP.out
    have hl_ : lobg ≤ hibg := by omega
    have hs_ : hibg ≤ w11_.heap.size := by rw [hh_]; exact blk_lt hbox
    have HGbg := Aside0.mk (show w.heap.size ≤ lobg from by rw [hg]; exact HB.out.size)
    have n0_ := Aside0.mk (blk_below HBarg.out hb)
    have n1_ := Aside0.mk (Kd.S_below HW.out hb)
    have n2_ := Aside0.mk (blk_below HBbw.out hb)
    have n3_ := Aside0.mk (Kd.S_below HX1.out hb)
    have n4_ := Aside0.mk (Kd.R_below HX2.out hb)
    have n5_ := Aside0.mk (blk_below HBbx.out hb)
    have n6_ := Aside0.mk (Kd.S_below HG.out hb)
    clear HBarg; have HBarg := n0_; clear n0_
    clear HW; have HW := n1_; clear n1_
    clear HBbw; have HBbw := n2_; clear n2_
    clear HX1; have HX1 := n3_; clear n3_
    clear HX2; have HX2 := n4_; clear n4_
    clear HBbx; have HBbx := n5_; clear n5_
    clear HG; have HG := n6_; clear n6_
    have nb_ := Aside0.mk (below_step HB.out hb); have np_ := Aside0.mk (Nat.le_trans HP.out hb.size); clear HB HP; have HB := nb_; have HP := np_; clear nb_ np_
    have HHbg := Aside0.mk hh_
    have HObg := Aside0.mk hp_; have HLbg := Aside0.mk hl_; clear HP; have HP := Aside0.mk hs_; clear hp_ hl_ hs_
    have HBbg := Aside0.mk hbox; clear hbox hb hg hh_
    clear hcz_arg_0
    clear hfz_arg_0
    clear hcz_arg_1
    clear hfz_arg_1
    clear hcz_arg_2
    clear hfz_arg_2
    clear hcz_bw_0
    clear hfz_bw_0
    clear hcz_bx_0
    clear hfz_bx_0
    clear hcz_bx_1
    clear hfz_bx_1
    clear hcz_bx_2
    clear hfz_bx_2
    clear hnb_arg_bw
    clear hnb_arg_bx
    clear hnb_bw_arg
    clear hnb_bw_bx
    clear hnb_bx_arg
    clear hnb_bx_bw
    have hcz_arg_0 : w11_.cell? ⟨loarg, 0, none⟩ = some (.int .i64 a) := (blk_cell HBarg.out 0).trans rfl; have hfz_arg_0 := blk_frozen HBarg.out 0
    have hcz_arg_1 : w11_.cell? ⟨loarg, 1, none⟩ = some (.slice A1 l1.length c1) := (blk_cell HBarg.out 1).trans rfl; have hfz_arg_1 := blk_frozen HBarg.out 1
    have hcz_arg_2 : w11_.cell? ⟨loarg, 2, none⟩ = some (.slice A2 l2.length c2) := (blk_cell HBarg.out 2).trans rfl; have hfz_arg_2 := blk_frozen HBarg.out 2
    have hcz_bw_0 : w11_.cell? ⟨lobw, 0, none⟩ = some (.slice AW R.length cW) := (blk_cell HBbw.out 0).trans rfl; have hfz_bw_0 := blk_frozen HBbw.out 0
    have hcz_bx_0 : w11_.cell? ⟨lobx, 0, none⟩ = some (.int .i64 a) := (blk_cell HBbx.out 0).trans rfl; have hfz_bx_0 := blk_frozen HBbx.out 0
    have hcz_bx_1 : w11_.cell? ⟨lobx, 1, none⟩ = some (.slice AX1 l1.length cX1) := (blk_cell HBbx.out 1).trans rfl; have hfz_bx_1 := blk_frozen HBbx.out 1
    have hcz_bx_2 : w11_.cell? ⟨lobx, 2, none⟩ = some (.slice AX2 l2.length cX2) := (blk_cell HBbx.out 2).trans rfl; have hfz_bx_2 := blk_frozen HBbx.out 2
    have hcz_bg_0 : w11_.cell? ⟨lobg, 0, none⟩ = some (.slice none 0 0) := (blk_cell HBbg.out 0).trans rfl; have hfz_bg_0 := blk_frozen HBbg.out 0
    have ha_ : hiarg ≤ lobw := by
      have h0_ := HOT.out
      have h1_ := HOW.out
      have h2_ := HObw.out
      have s0_ := HLT.out
      have s1_ := HLW.out
      omega
    have hnb_arg_bw : loarg ≠ lobw := by have h0_ := HHarg.out; have h1_ := HHbw.out; omega
    clear ha_
    have ha_ : hiarg ≤ lobx := by
      have h0_ := HOT.out
      have h1_ := HOW.out
      have h2_ := HObw.out
      have h3_ := HOX.out
      have h4_ := HObx.out
      have s0_ := HLT.out
      have s1_ := HLW.out
      have s2_ := HLbw.out
      have s3_ := HLX.out
      omega
    have hnb_arg_bx : loarg ≠ lobx := by have h0_ := HHarg.out; have h1_ := HHbx.out; omega
    clear ha_
    have ha_ : hiarg ≤ lobg := by
      have h0_ := HOT.out
      have h1_ := HOW.out
      have h2_ := HObw.out
      have h3_ := HOX.out
      have h4_ := HObx.out
      have h5_ := HOG.out
      have h6_ := HObg.out
      have s0_ := HLT.out
      have s1_ := HLW.out
      have s2_ := HLbw.out
      have s3_ := HLX.out
      have s4_ := HLbx.out
      have s5_ := HLG.out
      omega
    have hnb_arg_bg : loarg ≠ lobg := by have h0_ := HHarg.out; have h1_ := HHbg.out; omega
    clear ha_
    have ha_ : hiarg ≤ lobw := by
      have h0_ := HOT.out
      have h1_ := HOW.out
      have h2_ := HObw.out
      have s0_ := HLT.out
      have s1_ := HLW.out
      omega
    have hnb_bw_arg : lobw ≠ loarg := by have h0_ := HHbw.out; have h1_ := HHarg.out; omega
    clear ha_
    have ha_ : hibw ≤ lobx := by
      have h0_ := HOX.out
      have h1_ := HObx.out
      have s0_ := HLX.out
      omega
    have hnb_bw_bx : lobw ≠ lobx := by have h0_ := HHbw.out; have h1_ := HHbx.out; omega
    clear ha_
    have ha_ : hibw ≤ lobg := by
      have h0_ := HOX.out
      have h1_ := HObx.out
      have h2_ := HOG.out
      have h3_ := HObg.out
      have s0_ := HLX.out
      have s1_ := HLbx.out
      have s2_ := HLG.out
      omega
    have hnb_bw_bg : lobw ≠ lobg := by have h0_ := HHbw.out; have h1_ := HHbg.out; omega
    clear ha_
    have ha_ : hiarg ≤ lobx := by
      have h0_ := HOT.out
      have h1_ := HOW.out
      have h2_ := HObw.out
      have h3_ := HOX.out
      have h4_ := HObx.out
      have s0_ := HLT.out
      have s1_ := HLW.out
      have s2_ := HLbw.out
      have s3_ := HLX.out
      omega
    have hnb_bx_arg : lobx ≠ loarg := by have h0_ := HHbx.out; have h1_ := HHarg.out; omega
    clear ha_
    have ha_ : hibw ≤ lobx := by
      have h0_ := HOX.out
      have h1_ := HObx.out
      have s0_ := HLX.out
      omega
    have hnb_bx_bw : lobx ≠ lobw := by have h0_ := HHbx.out; have h1_ := HHbw.out; omega
    clear ha_
    have ha_ : hibx ≤ lobg := by
      have h0_ := HOG.out
      have h1_ := HObg.out
      have s0_ := HLG.out
      omega
    have hnb_bx_bg : lobx ≠ lobg := by have h0_ := HHbx.out; have h1_ := HHbg.out; omega
    clear ha_
    have ha_ : hiarg ≤ lobg := by
      have h0_ := HOT.out
      have h1_ := HOW.out
      have h2_ := HObw.out
      have h3_ := HOX.out
      have h4_ := HObx.out
      have h5_ := HOG.out
      have h6_ := HObg.out
      have s0_ := HLT.out
      have s1_ := HLW.out
      have s2_ := HLbw.out
      have s3_ := HLX.out
      have s4_ := HLbx.out
      have s5_ := HLG.out
      omega
    have hnb_bg_arg : lobg ≠ loarg := by have h0_ := HHbg.out; have h1_ := HHarg.out; omega
    clear ha_
    have ha_ : hibw ≤ lobg := by
      have h0_ := HOX.out
      have h1_ := HObx.out
      have h2_ := HOG.out
      have h3_ := HObg.out
      have s0_ := HLX.out
      have s1_ := HLbx.out
      have s2_ := HLG.out
      omega
    have hnb_bg_bw : lobg ≠ lobw := by have h0_ := HHbg.out; have h1_ := HHbw.out; omega
    clear ha_
    have ha_ : hibx ≤ lobg := by
      have h0_ := HOG.out
      have h1_ := HObg.out
      have s0_ := HLG.out
      omega
    have hnb_bg_bx : lobg ≠ lobx := by have h0_ := HHbg.out; have h1_ := HHbx.out; omega
    clear ha_))
  refine G.genC (F := fun w1 => Kept w11_ w1 (G.Span lobg hibg) ∧ Below w.heap.size w w1 ∧ w1.heap[lobg]? = some (.cells #[.slice AG R.length cG] 27 (0, 0))) ⟨?k0, ?k1, ?k2⟩ ?_
  case k0 => exact (by have hh_ := HHbg.out; repeat (first | exact Kept.refl _ _ | refine Kept.setCell ?_ (.inl ⟨Nat.le_refl _, by show lobg < hibg; omega⟩) _ | refine Kept.drewN ?_ _ | refine Kept.drew ?_))
  case k1 => exact (by repeat (first | (with_reducible first | exact HB.out | apply below_drew1 | apply pw_below_drewN | refine below_set ?_ HGbg.out) | exact HB.out))
  case k2 => exact (by (with_reducible repeat (first | refine blk_drewN ?_ _ | refine blk_drew ?_)); refine blk_put (cs := #[.slice none 0 0]) ?_ 0 _ rfl; (with_reducible repeat (first | refine blk_drewN ?_ _ | refine blk_drew ?_)); exact HBbg.out)
  rintro w12_ ⟨hkp, hb1_, hbk_⟩
  clear HBbg
  have ha_arg : hiarg ≤ lobg := by
    have h0_ := HOT.out
    have h1_ := HOW.out
    have h2_ := HObw.out
    have h3_ := HOX.out
    have h4_ := HObx.out
    have h5_ := HOG.out
    have h6_ := HObg.out
    have s0_ := HLT.out
    have s1_ := HLW.out
    have s2_ := HLbw.out
    have s3_ := HLX.out
    have s4_ := HLbx.out
    have s5_ := HLG.out
    omega
  have ha_W : hiW ≤ lobg := by
    have h0_ := HObw.out
    have h1_ := HOX.out
    have h2_ := HObx.out
    have h3_ := HOG.out
    have h4_ := HObg.out
    have s0_ := HLbw.out
    have s1_ := HLX.out
    have s2_ := HLbx.out
    have s3_ := HLG.out
    omega
  have ha_bw : hibw ≤ lobg := by
    have h0_ := HOX.out
    have h1_ := HObx.out
    have h2_ := HOG.out
    have h3_ := HObg.out
    have s0_ := HLX.out
    have s1_ := HLbx.out
    have s2_ := HLG.out
    omega
  have ha_X : hiX ≤ lobg := by
    have h0_ := HObx.out
    have h1_ := HOG.out
    have h2_ := HObg.out
    have s0_ := HLbx.out
    have s1_ := HLG.out
    omega
  have ha_bx : hibx ≤ lobg := by
    have h0_ := HOG.out
    have h1_ := HObg.out
    have s0_ := HLG.out
    omega
  have ha_G : hiG ≤ lobg := by
    have h0_ := HObg.out
    omega
  have n0_ := Aside0.mk (blk_kept HBarg.out hkp (by have h0_ := HHarg.out; have h1_ := ha_arg; unfold G.Span; omega))
  have n1_ := Aside0.mk (G.S_marked HW.out hkp (.inl ha_W))
  have n2_ := Aside0.mk (blk_kept HBbw.out hkp (by have h0_ := HHbw.out; have h1_ := ha_bw; unfold G.Span; omega))
  have n3_ := Aside0.mk (G.S_marked2 HX1.out hkp (.inl ha_X))
  have n4_ := Aside0.mk (G.R_marked HX2.out hkp (.inl ha_X))
  have n5_ := Aside0.mk (blk_kept HBbx.out hkp (by have h0_ := HHbx.out; have h1_ := ha_bx; unfold G.Span; omega))
  have n6_ := Aside0.mk (G.S_marked HG.out hkp (.inl ha_G))
  clear HBarg; have HBarg := n0_; clear n0_
  clear HW; have HW := n1_; clear n1_
  clear HBbw; have HBbw := n2_; clear n2_
  clear HX1; have HX1 := n3_; clear n3_
  clear HX2; have HX2 := n4_; clear n4_
  clear HBbx; have HBbx := n5_; clear n5_
  clear HG; have HG := n6_; clear n6_
  have np_ := Aside0.mk (Nat.le_trans HP.out hkp.1); have nb_ := Aside0.mk hb1_; clear HP HB hb1_; have HP := np_; have HB := nb_; clear np_ nb_ ha_arg ha_W ha_bw ha_X ha_bx ha_G
  have HBbg := Aside0.mk hbk_; clear hbk_ hkp
  clear hcz_arg_0
  clear hfz_arg_0
  clear hcz_arg_1
  clear hfz_arg_1
  clear hcz_arg_2
  clear hfz_arg_2
  clear hcz_bw_0
  clear hfz_bw_0
  clear hcz_bx_0
  clear hfz_bx_0
  clear hcz_bx_1
  clear hfz_bx_1
  clear hcz_bx_2
  clear hfz_bx_2
  clear hcz_bg_0
  clear hfz_bg_0
  clear hnb_arg_bw
  clear hnb_arg_bx
  clear hnb_arg_bg
  clear hnb_bw_arg
  clear hnb_bw_bx
  clear hnb_bw_bg
  clear hnb_bx_arg
  clear hnb_bx_bw
  clear hnb_bx_bg
  clear hnb_bg_arg
  clear hnb_bg_bw
  clear hnb_bg_bx
  have hcz_arg_0 : w12_.cell? ⟨loarg, 0, none⟩ = some (.int .i64 a) := (blk_cell HBarg.out 0).trans rfl; have hfz_arg_0 := blk_frozen HBarg.out 0
  have hcz_arg_1 : w12_.cell? ⟨loarg, 1, none⟩ = some (.slice A1 l1.length c1) := (blk_cell HBarg.out 1).trans rfl; have hfz_arg_1 := blk_frozen HBarg.out 1
  have hcz_arg_2 : w12_.cell? ⟨loarg, 2, none⟩ = some (.slice A2 l2.length c2) := (blk_cell HBarg.out 2).trans rfl; have hfz_arg_2 := blk_frozen HBarg.out 2
  have hcz_bw_0 : w12_.cell? ⟨lobw, 0, none⟩ = some (.slice AW R.length cW) := (blk_cell HBbw.out 0).trans rfl; have hfz_bw_0 := blk_frozen HBbw.out 0
  have hcz_bx_0 : w12_.cell? ⟨lobx, 0, none⟩ = some (.int .i64 a) := (blk_cell HBbx.out 0).trans rfl; have hfz_bx_0 := blk_frozen HBbx.out 0
  have hcz_bx_1 : w12_.cell? ⟨lobx, 1, none⟩ = some (.slice AX1 l1.length cX1) := (blk_cell HBbx.out 1).trans rfl; have hfz_bx_1 := blk_frozen HBbx.out 1
  have hcz_bx_2 : w12_.cell? ⟨lobx, 2, none⟩ = some (.slice AX2 l2.length cX2) := (blk_cell HBbx.out 2).trans rfl; have hfz_bx_2 := blk_frozen HBbx.out 2
  have hcz_bg_0 : w12_.cell? ⟨lobg, 0, none⟩ = some (.slice AG R.length cG) := (blk_cell HBbg.out 0).trans rfl; have hfz_bg_0 := blk_frozen HBbg.out 0
  have ha_ : hiarg ≤ lobw := by
    have h0_ := HOT.out
    have h1_ := HOW.out
    have h2_ := HObw.out
    have s0_ := HLT.out
    have s1_ := HLW.out
    omega
  have hnb_arg_bw : loarg ≠ lobw := by have h0_ := HHarg.out; have h1_ := HHbw.out; omega
  clear ha_
  have ha_ : hiarg ≤ lobx := by
    have h0_ := HOT.out
    have h1_ := HOW.out
    have h2_ := HObw.out
    have h3_ := HOX.out
    have h4_ := HObx.out
    have s0_ := HLT.out
    have s1_ := HLW.out
    have s2_ := HLbw.out
    have s3_ := HLX.out
    omega
  have hnb_arg_bx : loarg ≠ lobx := by have h0_ := HHarg.out; have h1_ := HHbx.out; omega
  clear ha_
  have ha_ : hiarg ≤ lobg := by
    have h0_ := HOT.out
    have h1_ := HOW.out
    have h2_ := HObw.out
    have h3_ := HOX.out
    have h4_ := HObx.out
    have h5_ := HOG.out
    have h6_ := HObg.out
    have s0_ := HLT.out
    have s1_ := HLW.out
    have s2_ := HLbw.out
    have s3_ := HLX.out
    have s4_ := HLbx.out
    have s5_ := HLG.out
    omega
  have hnb_arg_bg : loarg ≠ lobg := by have h0_ := HHarg.out; have h1_ := HHbg.out; omega
  clear ha_
  have ha_ : hiarg ≤ lobw := by
    have h0_ := HOT.out
    have h1_ := HOW.out
    have h2_ := HObw.out
    have s0_ := HLT.out
    have s1_ := HLW.out
    omega
  have hnb_bw_arg : lobw ≠ loarg := by have h0_ := HHbw.out; have h1_ := HHarg.out; omega
  clear ha_
  have ha_ : hibw ≤ lobx := by
    have h0_ := HOX.out
    have h1_ := HObx.out
    have s0_ := HLX.out
    omega
  have hnb_bw_bx : lobw ≠ lobx := by have h0_ := HHbw.out; have h1_ := HHbx.out; omega
  clear ha_
  have ha_ : hibw ≤ lobg := by
    have h0_ := HOX.out
    have h1_ := HObx.out
    have h2_ := HOG.out
    have h3_ := HObg.out
    have s0_ := HLX.out
    have s1_ := HLbx.out
    have s2_ := HLG.out
    omega
  have hnb_bw_bg : lobw ≠ lobg := by have h0_ := HHbw.out; have h1_ := HHbg.out; omega
  clear ha_
  have ha_ : hiarg ≤ lobx := by
    have h0_ := HOT.out
    have h1_ := HOW.out
    have h2_ := HObw.out
    have h3_ := HOX.out
    have h4_ := HObx.out
    have s0_ := HLT.out
    have s1_ := HLW.out
    have s2_ := HLbw.out
    have s3_ := HLX.out
    omega
  have hnb_bx_arg : lobx ≠ loarg := by have h0_ := HHbx.out; have h1_ := HHarg.out; omega
  clear ha_
  have ha_ : hibw ≤ lobx := by
    have h0_ := HOX.out
    have h1_ := HObx.out
    have s0_ := HLX.out
    omega
  have hnb_bx_bw : lobx ≠ lobw := by have h0_ := HHbx.out; have h1_ := HHbw.out; omega
  clear ha_
  have ha_ : hibx ≤ lobg := by
    have h0_ := HOG.out
    have h1_ := HObg.out
    have s0_ := HLG.out
    omega
  have hnb_bx_bg : lobx ≠ lobg := by have h0_ := HHbx.out; have h1_ := HHbg.out; omega
  clear ha_
  have ha_ : hiarg ≤ lobg := by
    have h0_ := HOT.out
    have h1_ := HOW.out
    have h2_ := HObw.out
    have h3_ := HOX.out
    have h4_ := HObx.out
    have h5_ := HOG.out
    have h6_ := HObg.out
    have s0_ := HLT.out
    have s1_ := HLW.out
    have s2_ := HLbw.out
    have s3_ := HLX.out
    have s4_ := HLbx.out
    have s5_ := HLG.out
    omega
  have hnb_bg_arg : lobg ≠ loarg := by have h0_ := HHbg.out; have h1_ := HHarg.out; omega
  clear ha_
  have ha_ : hibw ≤ lobg := by
    have h0_ := HOX.out
    have h1_ := HObx.out
    have h2_ := HOG.out
    have h3_ := HObg.out
    have s0_ := HLX.out
    have s1_ := HLbx.out
    have s2_ := HLG.out
    omega
  have hnb_bg_bw : lobg ≠ lobw := by have h0_ := HHbg.out; have h1_ := HHbw.out; omega
  clear ha_
  have ha_ : hibx ≤ lobg := by
    have h0_ := HOG.out
    have h1_ := HObg.out
    have s0_ := HLG.out
    omega
  have hnb_bg_bx : lobg ≠ lobx := by have h0_ := HHbg.out; have h1_ := HHbx.out; omega
  clear ha_
  refine (laws_eqMorphism.calls k _ _ R _ _ R true _ (Kd.S_reads' HG.out).2.2 (Kd.S_reads' HG.out).2.1 (Kd.S_reads' HW.out).2.2 (Kd.S_reads' HW.out).2.1 FE.out).mono ?_
  rintro e w13_ ⟨rfl, hb⟩
  have n0_ := Aside0.mk (blk_below HBarg.out hb)
  have n1_ := Aside0.mk (Kd.S_below HW.out hb)
  have n2_ := Aside0.mk (blk_below HBbw.out hb)
  have n3_ := Aside0.mk (Kd.S_below HX1.out hb)
  have n4_ := Aside0.mk (Kd.R_below HX2.out hb)
  have n5_ := Aside0.mk (blk_below HBbx.out hb)
  have n6_ := Aside0.mk (Kd.S_below HG.out hb)
  have n7_ := Aside0.mk (blk_below HBbg.out hb)
  clear HBarg; have HBarg := n0_; clear n0_
  clear HW; have HW := n1_; clear n1_
  clear HBbw; have HBbw := n2_; clear n2_
  clear HX1; have HX1 := n3_; clear n3_
  clear HX2; have HX2 := n4_; clear n4_
  clear HBbx; have HBbx := n5_; clear n5_
  clear HG; have HG := n6_; clear n6_
  clear HBbg; have HBbg := n7_; clear n7_
  have nb_ := Aside0.mk (below_step HB.out hb); have np_ := Aside0.mk (Nat.le_trans HP.out hb.size); clear HB HP; have HB := nb_; have HP := np_; clear nb_ np_
  clear hb
  clear hcz_arg_0
  clear hfz_arg_0
  clear hcz_arg_1
  clear hfz_arg_1
  clear hcz_arg_2
  clear hfz_arg_2
  clear hcz_bw_0
  clear hfz_bw_0
  clear hcz_bx_0
  clear hfz_bx_0
  clear hcz_bx_1
  clear hfz_bx_1
  clear hcz_bx_2
  clear hfz_bx_2
  clear hcz_bg_0
  clear hfz_bg_0
  clear hnb_arg_bw
  clear hnb_arg_bx
  clear hnb_arg_bg
  clear hnb_bw_arg
  clear hnb_bw_bx
  clear hnb_bw_bg
  clear hnb_bx_arg
  clear hnb_bx_bw
  clear hnb_bx_bg
  clear hnb_bg_arg
  clear hnb_bg_bw
  clear hnb_bg_bx
  have hcz_arg_0 : w13_.cell? ⟨loarg, 0, none⟩ = some (.int .i64 a) := (blk_cell HBarg.out 0).trans rfl; have hfz_arg_0 := blk_frozen HBarg.out 0
  have hcz_arg_1 : w13_.cell? ⟨loarg, 1, none⟩ = some (.slice A1 l1.length c1) := (blk_cell HBarg.out 1).trans rfl; have hfz_arg_1 := blk_frozen HBarg.out 1
  have hcz_arg_2 : w13_.cell? ⟨loarg, 2, none⟩ = some (.slice A2 l2.length c2) := (blk_cell HBarg.out 2).trans rfl; have hfz_arg_2 := blk_frozen HBarg.out 2
  have hcz_bw_0 : w13_.cell? ⟨lobw, 0, none⟩ = some (.slice AW R.length cW) := (blk_cell HBbw.out 0).trans rfl; have hfz_bw_0 := blk_frozen HBbw.out 0
  have hcz_bx_0 : w13_.cell? ⟨lobx, 0, none⟩ = some (.int .i64 a) := (blk_cell HBbx.out 0).trans rfl; have hfz_bx_0 := blk_frozen HBbx.out 0
  have hcz_bx_1 : w13_.cell? ⟨lobx, 1, none⟩ = some (.slice AX1 l1.length cX1) := (blk_cell HBbx.out 1).trans rfl; have hfz_bx_1 := blk_frozen HBbx.out 1
  have hcz_bx_2 : w13_.cell? ⟨lobx, 2, none⟩ = some (.slice AX2 l2.length cX2) := (blk_cell HBbx.out 2).trans rfl; have hfz_bx_2 := blk_frozen HBbx.out 2
  have hcz_bg_0 : w13_.cell? ⟨lobg, 0, none⟩ = some (.slice AG R.length cG) := (blk_cell HBbg.out 0).trans rfl; have hfz_bg_0 := blk_frozen HBbg.out 0
  have ha_ : hiarg ≤ lobw := by
    have h0_ := HOT.out
    have h1_ := HOW.out
    have h2_ := HObw.out
    have s0_ := HLT.out
    have s1_ := HLW.out
    omega
  have hnb_arg_bw : loarg ≠ lobw := by have h0_ := HHarg.out; have h1_ := HHbw.out; omega
  clear ha_
  have ha_ : hiarg ≤ lobx := by
    have h0_ := HOT.out
    have h1_ := HOW.out
    have h2_ := HObw.out
    have h3_ := HOX.out
    have h4_ := HObx.out
    have s0_ := HLT.out
    have s1_ := HLW.out
    have s2_ := HLbw.out
    have s3_ := HLX.out
    omega
  have hnb_arg_bx : loarg ≠ lobx := by have h0_ := HHarg.out; have h1_ := HHbx.out; omega
  clear ha_
  have ha_ : hiarg ≤ lobg := by
    have h0_ := HOT.out
    have h1_ := HOW.out
    have h2_ := HObw.out
    have h3_ := HOX.out
    have h4_ := HObx.out
    have h5_ := HOG.out
    have h6_ := HObg.out
    have s0_ := HLT.out
    have s1_ := HLW.out
    have s2_ := HLbw.out
    have s3_ := HLX.out
    have s4_ := HLbx.out
    have s5_ := HLG.out
    omega
  have hnb_arg_bg : loarg ≠ lobg := by have h0_ := HHarg.out; have h1_ := HHbg.out; omega
  clear ha_
  have ha_ : hiarg ≤ lobw := by
    have h0_ := HOT.out
    have h1_ := HOW.out
    have h2_ := HObw.out
    have s0_ := HLT.out
    have s1_ := HLW.out
    omega
  have hnb_bw_arg : lobw ≠ loarg := by have h0_ := HHbw.out; have h1_ := HHarg.out; omega
  clear ha_
  have ha_ : hibw ≤ lobx := by
    have h0_ := HOX.out
    have h1_ := HObx.out
    have s0_ := HLX.out
    omega
  have hnb_bw_bx : lobw ≠ lobx := by have h0_ := HHbw.out; have h1_ := HHbx.out; omega
  clear ha_
  have ha_ : hibw ≤ lobg := by
    have h0_ := HOX.out
    have h1_ := HObx.out
    have h2_ := HOG.out
    have h3_ := HObg.out
    have s0_ := HLX.out
    have s1_ := HLbx.out
    have s2_ := HLG.out
    omega
  have hnb_bw_bg : lobw ≠ lobg := by have h0_ := HHbw.out; have h1_ := HHbg.out; omega
  clear ha_
  have ha_ : hiarg ≤ lobx := by
    have h0_ := HOT.out
    have h1_ := HOW.out
    have h2_ := HObw.out
    have h3_ := HOX.out
    have h4_ := HObx.out
    have s0_ := HLT.out
    have s1_ := HLW.out
    have s2_ := HLbw.out
    have s3_ := HLX.out
    omega
  have hnb_bx_arg : lobx ≠ loarg := by have h0_ := HHbx.out; have h1_ := HHarg.out; omega
  clear ha_
  have ha_ : hibw ≤ lobx := by
    have h0_ := HOX.out
    have h1_ := HObx.out
    have s0_ := HLX.out
    omega
  have hnb_bx_bw : lobx ≠ lobw := by have h0_ := HHbx.out; have h1_ := HHbw.out; omega
  clear ha_
  have ha_ : hibx ≤ lobg := by
    have h0_ := HOG.out
    have h1_ := HObg.out
    have s0_ := HLG.out
    omega
  have hnb_bx_bg : lobx ≠ lobg := by have h0_ := HHbx.out; have h1_ := HHbg.out; omega
  clear ha_
  have ha_ : hiarg ≤ lobg := by
    have h0_ := HOT.out
    have h1_ := HOW.out
    have h2_ := HObw.out
    have h3_ := HOX.out
    have h4_ := HObx.out
    have h5_ := HOG.out
    have h6_ := HObg.out
    have s0_ := HLT.out
    have s1_ := HLW.out
    have s2_ := HLbw.out
    have s3_ := HLX.out
    have s4_ := HLbx.out
    have s5_ := HLG.out
    omega
  have hnb_bg_arg : lobg ≠ loarg := by have h0_ := HHbg.out; have h1_ := HHarg.out; omega
  clear ha_
  have ha_ : hibw ≤ lobg := by
    have h0_ := HOX.out
    have h1_ := HObx.out
    have h2_ := HOG.out
    have h3_ := HObg.out
    have s0_ := HLX.out
    have s1_ := HLbx.out
    have s2_ := HLG.out
    omega
  have hnb_bg_bw : lobg ≠ lobw := by have h0_ := HHbg.out; have h1_ := HHbw.out; omega
  clear ha_
  have ha_ : hibx ≤ lobg := by
    have h0_ := HOG.out
    have h1_ := HObg.out
    have s0_ := HLG.out
    omega
  have hnb_bg_bx : lobg ≠ lobx := by have h0_ := HHbg.out; have h1_ := HHbx.out; omega
  clear ha_
  go_wp2_with fail
  clear hcz_arg_0
  clear hfz_arg_0
  clear hcz_arg_1
  clear hfz_arg_1
  clear hcz_arg_2
  clear hfz_arg_2
  clear hcz_bw_0
  clear hfz_bw_0
  clear hcz_bx_0
  clear hfz_bx_0
  clear hcz_bx_1
  clear hfz_bx_1
  clear hcz_bx_2
  clear hfz_bx_2
  clear hcz_bg_0
  clear hfz_bg_0
  clear hnb_arg_bw
  clear hnb_arg_bx
  clear hnb_arg_bg
  clear hnb_bw_arg
  clear hnb_bw_bx
  clear hnb_bw_bg
  clear hnb_bx_arg
  clear hnb_bx_bw
  clear hnb_bx_bg
  clear hnb_bg_arg
  clear hnb_bg_bw
  clear hnb_bg_bx
  have n0_ := Aside0.mk (blk_drew HBarg.out)
  have n1_ := Aside0.mk (Kd.S_drew HW.out)
  have n2_ := Aside0.mk (blk_drew HBbw.out)
  have n3_ := Aside0.mk (Kd.S_drew HX1.out)
  have n4_ := Aside0.mk (Kd.R_drew HX2.out)
  have n5_ := Aside0.mk (blk_drew HBbx.out)
  have n6_ := Aside0.mk (Kd.S_drew HG.out)
  have n7_ := Aside0.mk (blk_drew HBbg.out)
  clear HBarg; have HBarg := n0_; clear n0_
  clear HW; have HW := n1_; clear n1_
  clear HBbw; have HBbw := n2_; clear n2_
  clear HX1; have HX1 := n3_; clear n3_
  clear HX2; have HX2 := n4_; clear n4_
  clear HBbx; have HBbx := n5_; clear n5_
  clear HG; have HG := n6_; clear n6_
  clear HBbg; have HBbg := n7_; clear n7_
  have nb_ := Aside0.mk (below_drew1 HB.out); have np_ := Aside0.mk (show hibg ≤ w13_.drew.heap.size from HP.out); clear HB HP; have HB := nb_; have HP := np_; clear nb_ np_
  refine start_ (n := 5) (S := fun w' => w'.cell? ⟨lobx, 0, none⟩ = some (.int .i64 a) ∧ w'.cell? ⟨lobx, 1, none⟩ = some (.slice AX1 l1.length cX1) ∧ w'.cell? ⟨lobx, 2, none⟩ = some (.slice AX2 l2.length cX2) ∧ w'.cell? ⟨loarg, 0, none⟩ = some (.int .i64 a) ∧ w'.cell? ⟨loarg, 1, none⟩ = some (.slice A1 l1.length c1) ∧ w'.cell? ⟨loarg, 2, none⟩ = some (.slice A2 l2.length c2)) (ds := []) #[false, false, false, false, false] (by kernel_rfl) rfl rfl ⟨(blk_cell HBbx.out 0).trans rfl, (blk_cell HBbx.out 1).trans rfl, (blk_cell HBbx.out 2).trans rfl, (blk_cell HBarg.out 0).trans rfl, (blk_cell HBarg.out 1).trans rfl, (blk_cell HBarg.out 2).trans rfl⟩ (fun hHeld => ?_)
  generalize w13_.drew = w14_ at HBarg HW HBbw HX1 HX2 HBbx HG HBbg HB HP hHeld ⊢
  refine take_ (i := 0) (N := some 41) (v := ?_) (a' := ?_) #[true, false, false, false, false] rfl rfl (by kernel_rfl) (fun _ _ _ h => h) (Or.inl ⟨by rfl, ?_⟩) hHeld ?_ ?_
  rotate_left
  · rintro w' ⟨s0, s1, s2, s3, s4, s5⟩; go_simp; with_reducible rfl
  rotate_left
  · simp only [Act.put, List.setIfInBounds_toArray, List.set_cons_zero, List.set_cons_succ, i64_w, i32_w]; rfl
  refine take_ (i := 1) (N := some 42) (v := ?_) (a' := ?_) #[true, true, false, false, false] rfl rfl (by kernel_rfl) (fun _ _ _ h => h) (Or.inl ⟨by rfl, ?_⟩) hHeld ?_ ?_
  rotate_left
  · rintro w' ⟨s0, s1, s2, s3, s4, s5⟩; go_simp; with_reducible rfl
  rotate_left
  · simp only [Act.put, List.setIfInBounds_toArray, List.set_cons_zero, List.set_cons_succ, i64_w, i32_w]; rfl
  refine one_ (i := 2) (N := some 43) #[true, true, true, false, false] rfl rfl (by kernel_rfl) (by decide) (fun K hK => ?_)
  refine goes_ Try.func33 (by kernel_rfl) rfl #[.agg #[.int .i64 a, .slice A1 l1.length c1, .slice A2 l2.length c2]] (by rfl) rfl rfl (by (try simp only [List.map_toArray, List.map_cons, List.map_nil]); first | done | rfl | (simp only [List.length_drop, List.length_take]; rfl)) ?_
  refine (laws_toSequence.calls k a _ _ l1 _ _ l2 a l1 l2 _ (Kd.C_below HA1.out HB.out) HC1.out (Kd.C_below HA2.out HB.out) HC2.out FT.out).mono ?_
  rintro e w15_ ⟨v1_, v2_, rfl, hoY1, hoY2, hb⟩
  refine ⟨_, rfl, ?_⟩
  obtain ⟨loY, hiY, hlo_, hhi_, hp_, hl_, hs_⟩ := G.span_of hb HP.out
  have hY1 := G.S_in2 hoY1 HB.out hlo_ hhi_
  have hY2 := G.R_in hoY2 HB.out hlo_ hhi_
  have n0_ := Aside0.mk (blk_below HBarg.out hb)
  have n1_ := Aside0.mk (Kd.S_below HW.out hb)
  have n2_ := Aside0.mk (blk_below HBbw.out hb)
  have n3_ := Aside0.mk (Kd.S_below HX1.out hb)
  have n4_ := Aside0.mk (Kd.R_below HX2.out hb)
  have n5_ := Aside0.mk (blk_below HBbx.out hb)
  have n6_ := Aside0.mk (Kd.S_below HG.out hb)
  have n7_ := Aside0.mk (blk_below HBbg.out hb)
  clear HBarg; have HBarg := n0_; clear n0_
  clear HW; have HW := n1_; clear n1_
  clear HBbw; have HBbw := n2_; clear n2_
  clear HX1; have HX1 := n3_; clear n3_
  clear HX2; have HX2 := n4_; clear n4_
  clear HBbx; have HBbx := n5_; clear n5_
  clear HG; have HG := n6_; clear n6_
  clear HBbg; have HBbg := n7_; clear n7_
  have nb_ := Aside0.mk (below_step HB.out hb); have np_ := Aside0.mk (Nat.le_trans HP.out hb.size); clear HB HP; have HB := nb_; have HP := np_; clear nb_ np_
  clear hoY1 hoY2 hb hlo_ hhi_
  have HOY := Aside0.mk hp_; have HLY := Aside0.mk hl_; clear HP; have HP := Aside0.mk hs_; clear hp_ hl_ hs_
  obtain ⟨AY1, cY1, eY1⟩ := Kd.S_slice hY1; subst eY1
  have HY1 := Aside0.mk hY1; clear hY1
  obtain ⟨AY2, cY2, eY2⟩ := Kd.R_slice hY2; subst eY2
  have HY2 := Aside0.mk hY2; clear hY2
  refine hK.out _ _ ⟨(blk_cell HBbx.out 0).trans rfl, (blk_cell HBbx.out 1).trans rfl, (blk_cell HBbx.out 2).trans rfl, (blk_cell HBarg.out 0).trans rfl, (blk_cell HBarg.out 1).trans rfl, (blk_cell HBarg.out 2).trans rfl⟩ (fun hHeld => ?_)
  refine norm_ (a' := ?_) ?_ ?_
  rotate_left
  · show Act.put _ (some 43) _ = _; simp only [Act.put, List.setIfInBounds_toArray, List.set_cons_zero, List.set_cons_succ, i64_w, i32_w]; rfl
  refine one_ (i := 3) (N := some 44) #[true, true, true, true, false] rfl rfl (by kernel_rfl) (by decide) (fun K hK => ?_)
  refine goes_ Try.func35 (by kernel_rfl) rfl #[.agg #[.int .i64 a, .slice AX1 l1.length cX1, .slice AX2 l2.length cX2], .agg #[.int .i64 a, .slice AY1 l1.length cY1, .slice AY2 l2.length cY2]] (by rfl) rfl rfl (by (try simp only [List.map_toArray, List.map_cons, List.map_nil]); first | done | rfl | (simp only [List.length_drop, List.length_take]; rfl)) ?_
  refine (laws_eqSequence.calls k a _ _ l1 _ _ l2 a _ _ l1 _ _ l2 true _ (Kd.S_reads' HX1.out).2.2 (Kd.S_reads' HX1.out).2.1 (Kd.R_reads' HX2.out).2.2 (Kd.R_reads' HX2.out).2.1 (Kd.S_reads' HY1.out).2.2 (Kd.S_reads' HY1.out).2.1 (Kd.R_reads' HY2.out).2.2 (Kd.R_reads' HY2.out).2.1 FQ.out).mono ?_
  rintro e w16_ ⟨rfl, hb⟩
  refine ⟨_, rfl, ?_⟩
  have n0_ := Aside0.mk (blk_below HBarg.out hb)
  have n1_ := Aside0.mk (Kd.S_below HW.out hb)
  have n2_ := Aside0.mk (blk_below HBbw.out hb)
  have n3_ := Aside0.mk (Kd.S_below HX1.out hb)
  have n4_ := Aside0.mk (Kd.R_below HX2.out hb)
  have n5_ := Aside0.mk (blk_below HBbx.out hb)
  have n6_ := Aside0.mk (Kd.S_below HG.out hb)
  have n7_ := Aside0.mk (blk_below HBbg.out hb)
  have n8_ := Aside0.mk (Kd.S_below HY1.out hb)
  have n9_ := Aside0.mk (Kd.R_below HY2.out hb)
  clear HBarg; have HBarg := n0_; clear n0_
  clear HW; have HW := n1_; clear n1_
  clear HBbw; have HBbw := n2_; clear n2_
  clear HX1; have HX1 := n3_; clear n3_
  clear HX2; have HX2 := n4_; clear n4_
  clear HBbx; have HBbx := n5_; clear n5_
  clear HG; have HG := n6_; clear n6_
  clear HBbg; have HBbg := n7_; clear n7_
  clear HY1; have HY1 := n8_; clear n8_
  clear HY2; have HY2 := n9_; clear n9_
  have nb_ := Aside0.mk (below_step HB.out hb); have np_ := Aside0.mk (Nat.le_trans HP.out hb.size); clear HB HP; have HB := nb_; have HP := np_; clear nb_ np_
  clear hb
  refine hK.out _ _ ⟨(blk_cell HBbx.out 0).trans rfl, (blk_cell HBbx.out 1).trans rfl, (blk_cell HBbx.out 2).trans rfl, (blk_cell HBarg.out 0).trans rfl, (blk_cell HBarg.out 1).trans rfl, (blk_cell HBarg.out 2).trans rfl⟩ (fun hHeld => ?_)
  refine norm_ (a' := ?_) ?_ ?_
  rotate_left
  · show Act.put _ (some 44) _ = _; simp only [Act.put, List.setIfInBounds_toArray, List.set_cons_zero, List.set_cons_succ, i64_w, i32_w]; rfl
  refine pure_ (i := 4) (N := some 45) (v := ?_) (a' := ?_) #[true, true, true, true, true] rfl rfl (by kernel_rfl) (fun _ _ _ h => h) (Or.inl ⟨by rfl, ?_⟩) ?_ ?_
  rotate_left
  · intro w'; go_simp; with_reducible rfl
  rotate_left
  · simp only [Act.put, List.setIfInBounds_toArray, List.set_cons_zero, List.set_cons_succ, i64_w, i32_w]; rfl
  refine done_ (by kernel_rfl) ?_
  have hcz_arg_0 : w16_.cell? ⟨loarg, 0, none⟩ = some (.int .i64 a) := (blk_cell HBarg.out 0).trans rfl; have hfz_arg_0 := blk_frozen HBarg.out 0
  have hcz_arg_1 : w16_.cell? ⟨loarg, 1, none⟩ = some (.slice A1 l1.length c1) := (blk_cell HBarg.out 1).trans rfl; have hfz_arg_1 := blk_frozen HBarg.out 1
  have hcz_arg_2 : w16_.cell? ⟨loarg, 2, none⟩ = some (.slice A2 l2.length c2) := (blk_cell HBarg.out 2).trans rfl; have hfz_arg_2 := blk_frozen HBarg.out 2
  have hcz_bw_0 : w16_.cell? ⟨lobw, 0, none⟩ = some (.slice AW R.length cW) := (blk_cell HBbw.out 0).trans rfl; have hfz_bw_0 := blk_frozen HBbw.out 0
  have hcz_bx_0 : w16_.cell? ⟨lobx, 0, none⟩ = some (.int .i64 a) := (blk_cell HBbx.out 0).trans rfl; have hfz_bx_0 := blk_frozen HBbx.out 0
  have hcz_bx_1 : w16_.cell? ⟨lobx, 1, none⟩ = some (.slice AX1 l1.length cX1) := (blk_cell HBbx.out 1).trans rfl; have hfz_bx_1 := blk_frozen HBbx.out 1
  have hcz_bx_2 : w16_.cell? ⟨lobx, 2, none⟩ = some (.slice AX2 l2.length cX2) := (blk_cell HBbx.out 2).trans rfl; have hfz_bx_2 := blk_frozen HBbx.out 2
  have hcz_bg_0 : w16_.cell? ⟨lobg, 0, none⟩ = some (.slice AG R.length cG) := (blk_cell HBbg.out 0).trans rfl; have hfz_bg_0 := blk_frozen HBbg.out 0
  have ha_ : hiarg ≤ lobw := by
    have h0_ := HOT.out
    have h1_ := HOW.out
    have h2_ := HObw.out
    have s0_ := HLT.out
    have s1_ := HLW.out
    omega
  have hnb_arg_bw : loarg ≠ lobw := by have h0_ := HHarg.out; have h1_ := HHbw.out; omega
  clear ha_
  have ha_ : hiarg ≤ lobx := by
    have h0_ := HOT.out
    have h1_ := HOW.out
    have h2_ := HObw.out
    have h3_ := HOX.out
    have h4_ := HObx.out
    have s0_ := HLT.out
    have s1_ := HLW.out
    have s2_ := HLbw.out
    have s3_ := HLX.out
    omega
  have hnb_arg_bx : loarg ≠ lobx := by have h0_ := HHarg.out; have h1_ := HHbx.out; omega
  clear ha_
  have ha_ : hiarg ≤ lobg := by
    have h0_ := HOT.out
    have h1_ := HOW.out
    have h2_ := HObw.out
    have h3_ := HOX.out
    have h4_ := HObx.out
    have h5_ := HOG.out
    have h6_ := HObg.out
    have s0_ := HLT.out
    have s1_ := HLW.out
    have s2_ := HLbw.out
    have s3_ := HLX.out
    have s4_ := HLbx.out
    have s5_ := HLG.out
    omega
  have hnb_arg_bg : loarg ≠ lobg := by have h0_ := HHarg.out; have h1_ := HHbg.out; omega
  clear ha_
  have ha_ : hiarg ≤ lobw := by
    have h0_ := HOT.out
    have h1_ := HOW.out
    have h2_ := HObw.out
    have s0_ := HLT.out
    have s1_ := HLW.out
    omega
  have hnb_bw_arg : lobw ≠ loarg := by have h0_ := HHbw.out; have h1_ := HHarg.out; omega
  clear ha_
  have ha_ : hibw ≤ lobx := by
    have h0_ := HOX.out
    have h1_ := HObx.out
    have s0_ := HLX.out
    omega
  have hnb_bw_bx : lobw ≠ lobx := by have h0_ := HHbw.out; have h1_ := HHbx.out; omega
  clear ha_
  have ha_ : hibw ≤ lobg := by
    have h0_ := HOX.out
    have h1_ := HObx.out
    have h2_ := HOG.out
    have h3_ := HObg.out
    have s0_ := HLX.out
    have s1_ := HLbx.out
    have s2_ := HLG.out
    omega
  have hnb_bw_bg : lobw ≠ lobg := by have h0_ := HHbw.out; have h1_ := HHbg.out; omega
  clear ha_
  have ha_ : hiarg ≤ lobx := by
    have h0_ := HOT.out
    have h1_ := HOW.out
    have h2_ := HObw.out
    have h3_ := HOX.out
    have h4_ := HObx.out
    have s0_ := HLT.out
    have s1_ := HLW.out
    have s2_ := HLbw.out
    have s3_ := HLX.out
    omega
  have hnb_bx_arg : lobx ≠ loarg := by have h0_ := HHbx.out; have h1_ := HHarg.out; omega
  clear ha_
  have ha_ : hibw ≤ lobx := by
    have h0_ := HOX.out
    have h1_ := HObx.out
    have s0_ := HLX.out
    omega
  have hnb_bx_bw : lobx ≠ lobw := by have h0_ := HHbx.out; have h1_ := HHbw.out; omega
  clear ha_
  have ha_ : hibx ≤ lobg := by
    have h0_ := HOG.out
    have h1_ := HObg.out
    have s0_ := HLG.out
    omega
  have hnb_bx_bg : lobx ≠ lobg := by have h0_ := HHbx.out; have h1_ := HHbg.out; omega
  clear ha_
  have ha_ : hiarg ≤ lobg := by
    have h0_ := HOT.out
    have h1_ := HOW.out
    have h2_ := HObw.out
    have h3_ := HOX.out
    have h4_ := HObx.out
    have h5_ := HOG.out
    have h6_ := HObg.out
    have s0_ := HLT.out
    have s1_ := HLW.out
    have s2_ := HLbw.out
    have s3_ := HLX.out
    have s4_ := HLbx.out
    have s5_ := HLG.out
    omega
  have hnb_bg_arg : lobg ≠ loarg := by have h0_ := HHbg.out; have h1_ := HHarg.out; omega
  clear ha_
  have ha_ : hibw ≤ lobg := by
    have h0_ := HOX.out
    have h1_ := HObx.out
    have h2_ := HOG.out
    have h3_ := HObg.out
    have s0_ := HLX.out
    have s1_ := HLbx.out
    have s2_ := HLG.out
    omega
  have hnb_bg_bw : lobg ≠ lobw := by have h0_ := HHbg.out; have h1_ := HHbw.out; omega
  clear ha_
  have ha_ : hibx ≤ lobg := by
    have h0_ := HOG.out
    have h1_ := HObg.out
    have s0_ := HLG.out
    omega
  have hnb_bg_bx : lobg ≠ lobx := by have h0_ := HHbg.out; have h1_ := HHbx.out; omega
  clear ha_
  clear HY1
  clear HY2
  go_wp2_with fail
  refine (laws_markSequence.calls k a (fun k_ => G.Span loX hiX k_ ∧ some k_ ≠ (.slice AX2 l2.length cX2 : Value).ownBlock) (fun k_ => some k_ = (.slice AX2 l2.length cX2 : Value).ownBlock) _ _ l1 l2 1 mx x2 w _ HB.out (fun _ h1_ h2_ => h1_.2 h2_) HX1.out (Kd.R_tight rfl HX2.out) FM.out).mono ?_
  rintro e w17_ ⟨rfl, hy_, hb1_, hkp0_⟩
  have hkp := Kept.mono hkp0_ (fun k_ hk_ => hk_.elim (fun h1_ => h1_.1) (fun h2_ => HX2.out.1 k_ h2_.symm)); clear hkp0_
  clear HX1
  clear HX2
  have ha_arg : hiarg ≤ loX := by
    have h0_ := HOT.out
    have h1_ := HOW.out
    have h2_ := HObw.out
    have h3_ := HOX.out
    have s0_ := HLT.out
    have s1_ := HLW.out
    have s2_ := HLbw.out
    omega
  have ha_W : hiW ≤ loX := by
    have h0_ := HObw.out
    have h1_ := HOX.out
    have s0_ := HLbw.out
    omega
  have ha_bw : hibw ≤ loX := by
    have h0_ := HOX.out
    omega
  have ha_bx : hiX ≤ lobx := by
    have h0_ := HObx.out
    omega
  have ha_G : hiX ≤ loG := by
    have h0_ := HObx.out
    have h1_ := HOG.out
    have s0_ := HLbx.out
    omega
  have ha_bg : hiX ≤ lobg := by
    have h0_ := HObx.out
    have h1_ := HOG.out
    have h2_ := HObg.out
    have s0_ := HLbx.out
    have s1_ := HLG.out
    omega
  have n0_ := Aside0.mk (blk_kept HBarg.out hkp (by have h0_ := HHarg.out; have h1_ := ha_arg; unfold G.Span; omega))
  have n1_ := Aside0.mk (G.S_marked HW.out hkp (.inl ha_W))
  have n2_ := Aside0.mk (blk_kept HBbw.out hkp (by have h0_ := HHbw.out; have h1_ := ha_bw; unfold G.Span; omega))
  have n3_ := Aside0.mk (blk_kept HBbx.out hkp (by have h0_ := HHbx.out; have h1_ := ha_bx; unfold G.Span; omega))
  have n4_ := Aside0.mk (G.S_marked HG.out hkp (.inr ha_G))
  have n5_ := Aside0.mk (blk_kept HBbg.out hkp (by have h0_ := HHbg.out; have h1_ := ha_bg; unfold G.Span; omega))
  clear HBarg; have HBarg := n0_; clear n0_
  clear HW; have HW := n1_; clear n1_
  clear HBbw; have HBbw := n2_; clear n2_
  clear HBbx; have HBbx := n3_; clear n3_
  clear HG; have HG := n4_; clear n4_
  clear HBbg; have HBbg := n5_; clear n5_
  have np_ := Aside0.mk (Nat.le_trans HP.out hkp.1); have nb_ := Aside0.mk hb1_; clear HP HB hb1_; have HP := np_; have HB := nb_; clear np_ nb_ ha_arg ha_W ha_bw ha_bx ha_G ha_bg
  clear hkp hy_
  clear hcz_arg_0
  clear hfz_arg_0
  clear hcz_arg_1
  clear hfz_arg_1
  clear hcz_arg_2
  clear hfz_arg_2
  clear hcz_bw_0
  clear hfz_bw_0
  clear hcz_bx_0
  clear hfz_bx_0
  clear hcz_bx_1
  clear hfz_bx_1
  clear hcz_bx_2
  clear hfz_bx_2
  clear hcz_bg_0
  clear hfz_bg_0
  clear hnb_arg_bw
  clear hnb_arg_bx
  clear hnb_arg_bg
  clear hnb_bw_arg
  clear hnb_bw_bx
  clear hnb_bw_bg
  clear hnb_bx_arg
  clear hnb_bx_bw
  clear hnb_bx_bg
  clear hnb_bg_arg
  clear hnb_bg_bw
  clear hnb_bg_bx
  have hcz_arg_0 : w17_.cell? ⟨loarg, 0, none⟩ = some (.int .i64 a) := (blk_cell HBarg.out 0).trans rfl; have hfz_arg_0 := blk_frozen HBarg.out 0
  have hcz_arg_1 : w17_.cell? ⟨loarg, 1, none⟩ = some (.slice A1 l1.length c1) := (blk_cell HBarg.out 1).trans rfl; have hfz_arg_1 := blk_frozen HBarg.out 1
  have hcz_arg_2 : w17_.cell? ⟨loarg, 2, none⟩ = some (.slice A2 l2.length c2) := (blk_cell HBarg.out 2).trans rfl; have hfz_arg_2 := blk_frozen HBarg.out 2
  have hcz_bw_0 : w17_.cell? ⟨lobw, 0, none⟩ = some (.slice AW R.length cW) := (blk_cell HBbw.out 0).trans rfl; have hfz_bw_0 := blk_frozen HBbw.out 0
  have hcz_bx_0 : w17_.cell? ⟨lobx, 0, none⟩ = some (.int .i64 a) := (blk_cell HBbx.out 0).trans rfl; have hfz_bx_0 := blk_frozen HBbx.out 0
  have hcz_bx_1 : w17_.cell? ⟨lobx, 1, none⟩ = some (.slice AX1 l1.length cX1) := (blk_cell HBbx.out 1).trans rfl; have hfz_bx_1 := blk_frozen HBbx.out 1
  have hcz_bx_2 : w17_.cell? ⟨lobx, 2, none⟩ = some (.slice AX2 l2.length cX2) := (blk_cell HBbx.out 2).trans rfl; have hfz_bx_2 := blk_frozen HBbx.out 2
  have hcz_bg_0 : w17_.cell? ⟨lobg, 0, none⟩ = some (.slice AG R.length cG) := (blk_cell HBbg.out 0).trans rfl; have hfz_bg_0 := blk_frozen HBbg.out 0
  have ha_ : hiarg ≤ lobw := by
    have h0_ := HOT.out
    have h1_ := HOW.out
    have h2_ := HObw.out
    have s0_ := HLT.out
    have s1_ := HLW.out
    omega
  have hnb_arg_bw : loarg ≠ lobw := by have h0_ := HHarg.out; have h1_ := HHbw.out; omega
  clear ha_
  have ha_ : hiarg ≤ lobx := by
    have h0_ := HOT.out
    have h1_ := HOW.out
    have h2_ := HObw.out
    have h3_ := HOX.out
    have h4_ := HObx.out
    have s0_ := HLT.out
    have s1_ := HLW.out
    have s2_ := HLbw.out
    have s3_ := HLX.out
    omega
  have hnb_arg_bx : loarg ≠ lobx := by have h0_ := HHarg.out; have h1_ := HHbx.out; omega
  clear ha_
  have ha_ : hiarg ≤ lobg := by
    have h0_ := HOT.out
    have h1_ := HOW.out
    have h2_ := HObw.out
    have h3_ := HOX.out
    have h4_ := HObx.out
    have h5_ := HOG.out
    have h6_ := HObg.out
    have s0_ := HLT.out
    have s1_ := HLW.out
    have s2_ := HLbw.out
    have s3_ := HLX.out
    have s4_ := HLbx.out
    have s5_ := HLG.out
    omega
  have hnb_arg_bg : loarg ≠ lobg := by have h0_ := HHarg.out; have h1_ := HHbg.out; omega
  clear ha_
  have ha_ : hiarg ≤ lobw := by
    have h0_ := HOT.out
    have h1_ := HOW.out
    have h2_ := HObw.out
    have s0_ := HLT.out
    have s1_ := HLW.out
    omega
  have hnb_bw_arg : lobw ≠ loarg := by have h0_ := HHbw.out; have h1_ := HHarg.out; omega
  clear ha_
  have ha_ : hibw ≤ lobx := by
    have h0_ := HOX.out
    have h1_ := HObx.out
    have s0_ := HLX.out
    omega
  have hnb_bw_bx : lobw ≠ lobx := by have h0_ := HHbw.out; have h1_ := HHbx.out; omega
  clear ha_
  have ha_ : hibw ≤ lobg := by
    have h0_ := HOX.out
    have h1_ := HObx.out
    have h2_ := HOG.out
    have h3_ := HObg.out
    have s0_ := HLX.out
    have s1_ := HLbx.out
    have s2_ := HLG.out
    omega
  have hnb_bw_bg : lobw ≠ lobg := by have h0_ := HHbw.out; have h1_ := HHbg.out; omega
  clear ha_
  have ha_ : hiarg ≤ lobx := by
    have h0_ := HOT.out
    have h1_ := HOW.out
    have h2_ := HObw.out
    have h3_ := HOX.out
    have h4_ := HObx.out
    have s0_ := HLT.out
    have s1_ := HLW.out
    have s2_ := HLbw.out
    have s3_ := HLX.out
    omega
  have hnb_bx_arg : lobx ≠ loarg := by have h0_ := HHbx.out; have h1_ := HHarg.out; omega
  clear ha_
  have ha_ : hibw ≤ lobx := by
    have h0_ := HOX.out
    have h1_ := HObx.out
    have s0_ := HLX.out
    omega
  have hnb_bx_bw : lobx ≠ lobw := by have h0_ := HHbx.out; have h1_ := HHbw.out; omega
  clear ha_
  have ha_ : hibx ≤ lobg := by
    have h0_ := HOG.out
    have h1_ := HObg.out
    have s0_ := HLG.out
    omega
  have hnb_bx_bg : lobx ≠ lobg := by have h0_ := HHbx.out; have h1_ := HHbg.out; omega
  clear ha_
  have ha_ : hiarg ≤ lobg := by
    have h0_ := HOT.out
    have h1_ := HOW.out
    have h2_ := HObw.out
    have h3_ := HOX.out
    have h4_ := HObx.out
    have h5_ := HOG.out
    have h6_ := HObg.out
    have s0_ := HLT.out
    have s1_ := HLW.out
    have s2_ := HLbw.out
    have s3_ := HLX.out
    have s4_ := HLbx.out
    have s5_ := HLG.out
    omega
  have hnb_bg_arg : lobg ≠ loarg := by have h0_ := HHbg.out; have h1_ := HHarg.out; omega
  clear ha_
  have ha_ : hibw ≤ lobg := by
    have h0_ := HOX.out
    have h1_ := HObx.out
    have h2_ := HOG.out
    have h3_ := HObg.out
    have s0_ := HLX.out
    have s1_ := HLbx.out
    have s2_ := HLG.out
    omega
  have hnb_bg_bw : lobg ≠ lobw := by have h0_ := HHbg.out; have h1_ := HHbw.out; omega
  clear ha_
  have ha_ : hibx ≤ lobg := by
    have h0_ := HOG.out
    have h1_ := HObg.out
    have s0_ := HLG.out
    omega
  have hnb_bg_bx : lobg ≠ lobx := by have h0_ := HHbg.out; have h1_ := HHbx.out; omega
  clear ha_
  go_wp2_with fail
  refine (laws_eqMorphism.calls k _ _ R _ _ R true _ (Kd.S_reads' HG.out).2.2 (Kd.S_reads' HG.out).2.1 (Kd.S_reads' HW.out).2.2 (Kd.S_reads' HW.out).2.1 FE.out).mono ?_
  rintro e w18_ ⟨rfl, hb⟩
  have n0_ := Aside0.mk (blk_below HBarg.out hb)
  have n1_ := Aside0.mk (Kd.S_below HW.out hb)
  have n2_ := Aside0.mk (blk_below HBbw.out hb)
  have n3_ := Aside0.mk (blk_below HBbx.out hb)
  have n4_ := Aside0.mk (Kd.S_below HG.out hb)
  have n5_ := Aside0.mk (blk_below HBbg.out hb)
  clear HBarg; have HBarg := n0_; clear n0_
  clear HW; have HW := n1_; clear n1_
  clear HBbw; have HBbw := n2_; clear n2_
  clear HBbx; have HBbx := n3_; clear n3_
  clear HG; have HG := n4_; clear n4_
  clear HBbg; have HBbg := n5_; clear n5_
  have nb_ := Aside0.mk (below_step HB.out hb); have np_ := Aside0.mk (Nat.le_trans HP.out hb.size); clear HB HP; have HB := nb_; have HP := np_; clear nb_ np_
  clear hb
  clear hcz_arg_0
  clear hfz_arg_0
  clear hcz_arg_1
  clear hfz_arg_1
  clear hcz_arg_2
  clear hfz_arg_2
  clear hcz_bw_0
  clear hfz_bw_0
  clear hcz_bx_0
  clear hfz_bx_0
  clear hcz_bx_1
  clear hfz_bx_1
  clear hcz_bx_2
  clear hfz_bx_2
  clear hcz_bg_0
  clear hfz_bg_0
  clear hnb_arg_bw
  clear hnb_arg_bx
  clear hnb_arg_bg
  clear hnb_bw_arg
  clear hnb_bw_bx
  clear hnb_bw_bg
  clear hnb_bx_arg
  clear hnb_bx_bw
  clear hnb_bx_bg
  clear hnb_bg_arg
  clear hnb_bg_bw
  clear hnb_bg_bx
  have hcz_arg_0 : w18_.cell? ⟨loarg, 0, none⟩ = some (.int .i64 a) := (blk_cell HBarg.out 0).trans rfl; have hfz_arg_0 := blk_frozen HBarg.out 0
  have hcz_arg_1 : w18_.cell? ⟨loarg, 1, none⟩ = some (.slice A1 l1.length c1) := (blk_cell HBarg.out 1).trans rfl; have hfz_arg_1 := blk_frozen HBarg.out 1
  have hcz_arg_2 : w18_.cell? ⟨loarg, 2, none⟩ = some (.slice A2 l2.length c2) := (blk_cell HBarg.out 2).trans rfl; have hfz_arg_2 := blk_frozen HBarg.out 2
  have hcz_bw_0 : w18_.cell? ⟨lobw, 0, none⟩ = some (.slice AW R.length cW) := (blk_cell HBbw.out 0).trans rfl; have hfz_bw_0 := blk_frozen HBbw.out 0
  have hcz_bx_0 : w18_.cell? ⟨lobx, 0, none⟩ = some (.int .i64 a) := (blk_cell HBbx.out 0).trans rfl; have hfz_bx_0 := blk_frozen HBbx.out 0
  have hcz_bx_1 : w18_.cell? ⟨lobx, 1, none⟩ = some (.slice AX1 l1.length cX1) := (blk_cell HBbx.out 1).trans rfl; have hfz_bx_1 := blk_frozen HBbx.out 1
  have hcz_bx_2 : w18_.cell? ⟨lobx, 2, none⟩ = some (.slice AX2 l2.length cX2) := (blk_cell HBbx.out 2).trans rfl; have hfz_bx_2 := blk_frozen HBbx.out 2
  have hcz_bg_0 : w18_.cell? ⟨lobg, 0, none⟩ = some (.slice AG R.length cG) := (blk_cell HBbg.out 0).trans rfl; have hfz_bg_0 := blk_frozen HBbg.out 0
  have ha_ : hiarg ≤ lobw := by
    have h0_ := HOT.out
    have h1_ := HOW.out
    have h2_ := HObw.out
    have s0_ := HLT.out
    have s1_ := HLW.out
    omega
  have hnb_arg_bw : loarg ≠ lobw := by have h0_ := HHarg.out; have h1_ := HHbw.out; omega
  clear ha_
  have ha_ : hiarg ≤ lobx := by
    have h0_ := HOT.out
    have h1_ := HOW.out
    have h2_ := HObw.out
    have h3_ := HOX.out
    have h4_ := HObx.out
    have s0_ := HLT.out
    have s1_ := HLW.out
    have s2_ := HLbw.out
    have s3_ := HLX.out
    omega
  have hnb_arg_bx : loarg ≠ lobx := by have h0_ := HHarg.out; have h1_ := HHbx.out; omega
  clear ha_
  have ha_ : hiarg ≤ lobg := by
    have h0_ := HOT.out
    have h1_ := HOW.out
    have h2_ := HObw.out
    have h3_ := HOX.out
    have h4_ := HObx.out
    have h5_ := HOG.out
    have h6_ := HObg.out
    have s0_ := HLT.out
    have s1_ := HLW.out
    have s2_ := HLbw.out
    have s3_ := HLX.out
    have s4_ := HLbx.out
    have s5_ := HLG.out
    omega
  have hnb_arg_bg : loarg ≠ lobg := by have h0_ := HHarg.out; have h1_ := HHbg.out; omega
  clear ha_
  have ha_ : hiarg ≤ lobw := by
    have h0_ := HOT.out
    have h1_ := HOW.out
    have h2_ := HObw.out
    have s0_ := HLT.out
    have s1_ := HLW.out
    omega
  have hnb_bw_arg : lobw ≠ loarg := by have h0_ := HHbw.out; have h1_ := HHarg.out; omega
  clear ha_
  have ha_ : hibw ≤ lobx := by
    have h0_ := HOX.out
    have h1_ := HObx.out
    have s0_ := HLX.out
    omega
  have hnb_bw_bx : lobw ≠ lobx := by have h0_ := HHbw.out; have h1_ := HHbx.out; omega
  clear ha_
  have ha_ : hibw ≤ lobg := by
    have h0_ := HOX.out
    have h1_ := HObx.out
    have h2_ := HOG.out
    have h3_ := HObg.out
    have s0_ := HLX.out
    have s1_ := HLbx.out
    have s2_ := HLG.out
    omega
  have hnb_bw_bg : lobw ≠ lobg := by have h0_ := HHbw.out; have h1_ := HHbg.out; omega
  clear ha_
  have ha_ : hiarg ≤ lobx := by
    have h0_ := HOT.out
    have h1_ := HOW.out
    have h2_ := HObw.out
    have h3_ := HOX.out
    have h4_ := HObx.out
    have s0_ := HLT.out
    have s1_ := HLW.out
    have s2_ := HLbw.out
    have s3_ := HLX.out
    omega
  have hnb_bx_arg : lobx ≠ loarg := by have h0_ := HHbx.out; have h1_ := HHarg.out; omega
  clear ha_
  have ha_ : hibw ≤ lobx := by
    have h0_ := HOX.out
    have h1_ := HObx.out
    have s0_ := HLX.out
    omega
  have hnb_bx_bw : lobx ≠ lobw := by have h0_ := HHbx.out; have h1_ := HHbw.out; omega
  clear ha_
  have ha_ : hibx ≤ lobg := by
    have h0_ := HOG.out
    have h1_ := HObg.out
    have s0_ := HLG.out
    omega
  have hnb_bx_bg : lobx ≠ lobg := by have h0_ := HHbx.out; have h1_ := HHbg.out; omega
  clear ha_
  have ha_ : hiarg ≤ lobg := by
    have h0_ := HOT.out
    have h1_ := HOW.out
    have h2_ := HObw.out
    have h3_ := HOX.out
    have h4_ := HObx.out
    have h5_ := HOG.out
    have h6_ := HObg.out
    have s0_ := HLT.out
    have s1_ := HLW.out
    have s2_ := HLbw.out
    have s3_ := HLX.out
    have s4_ := HLbx.out
    have s5_ := HLG.out
    omega
  have hnb_bg_arg : lobg ≠ loarg := by have h0_ := HHbg.out; have h1_ := HHarg.out; omega
  clear ha_
  have ha_ : hibw ≤ lobg := by
    have h0_ := HOX.out
    have h1_ := HObx.out
    have h2_ := HOG.out
    have h3_ := HObg.out
    have s0_ := HLX.out
    have s1_ := HLbx.out
    have s2_ := HLG.out
    omega
  have hnb_bg_bw : lobg ≠ lobw := by have h0_ := HHbg.out; have h1_ := HHbw.out; omega
  clear ha_
  have ha_ : hibx ≤ lobg := by
    have h0_ := HOG.out
    have h1_ := HObg.out
    have s0_ := HLG.out
    omega
  have hnb_bg_bx : lobg ≠ lobx := by have h0_ := HHbg.out; have h1_ := HHbx.out; omega
  clear ha_
  go_wp2_with fail
  refine (laws_markMorphism.calls k (G.Span loG hiG) _ R 1 mg R' w _ HB.out HG.out FMR.out).mono ?_
  rintro e w19_ ⟨rfl, hy_, hb1_, hkp0_⟩
  have hkp := Kept.mono hkp0_ (fun _ h_ => h_); clear hkp0_
  have m0_ := Aside0.mk (hy_)
  clear HG
  have ha_arg : hiarg ≤ loG := by
    have h0_ := HOT.out
    have h1_ := HOW.out
    have h2_ := HObw.out
    have h3_ := HOX.out
    have h4_ := HObx.out
    have h5_ := HOG.out
    have s0_ := HLT.out
    have s1_ := HLW.out
    have s2_ := HLbw.out
    have s3_ := HLX.out
    have s4_ := HLbx.out
    omega
  have ha_W : hiW ≤ loG := by
    have h0_ := HObw.out
    have h1_ := HOX.out
    have h2_ := HObx.out
    have h3_ := HOG.out
    have s0_ := HLbw.out
    have s1_ := HLX.out
    have s2_ := HLbx.out
    omega
  have ha_bw : hibw ≤ loG := by
    have h0_ := HOX.out
    have h1_ := HObx.out
    have h2_ := HOG.out
    have s0_ := HLX.out
    have s1_ := HLbx.out
    omega
  have ha_bx : hibx ≤ loG := by
    have h0_ := HOG.out
    omega
  have ha_bg : hiG ≤ lobg := by
    have h0_ := HObg.out
    omega
  have n0_ := Aside0.mk (blk_kept HBarg.out hkp (by have h0_ := HHarg.out; have h1_ := ha_arg; unfold G.Span; omega))
  have n1_ := Aside0.mk (G.S_marked HW.out hkp (.inl ha_W))
  have n2_ := Aside0.mk (blk_kept HBbw.out hkp (by have h0_ := HHbw.out; have h1_ := ha_bw; unfold G.Span; omega))
  have n3_ := Aside0.mk (blk_kept HBbx.out hkp (by have h0_ := HHbx.out; have h1_ := ha_bx; unfold G.Span; omega))
  have n4_ := Aside0.mk (blk_kept HBbg.out hkp (by have h0_ := HHbg.out; have h1_ := ha_bg; unfold G.Span; omega))
  clear HBarg; have HBarg := n0_; clear n0_
  clear HW; have HW := n1_; clear n1_
  clear HBbw; have HBbw := n2_; clear n2_
  clear HBbx; have HBbx := n3_; clear n3_
  clear HBbg; have HBbg := n4_; clear n4_
  have np_ := Aside0.mk (Nat.le_trans HP.out hkp.1); have nb_ := Aside0.mk hb1_; clear HP HB hb1_; have HP := np_; have HB := nb_; clear np_ nb_ ha_arg ha_W ha_bw ha_bx ha_bg
  clear hkp hy_
  have HG := m0_; clear m0_
  clear hcz_arg_0
  clear hfz_arg_0
  clear hcz_arg_1
  clear hfz_arg_1
  clear hcz_arg_2
  clear hfz_arg_2
  clear hcz_bw_0
  clear hfz_bw_0
  clear hcz_bx_0
  clear hfz_bx_0
  clear hcz_bx_1
  clear hfz_bx_1
  clear hcz_bx_2
  clear hfz_bx_2
  clear hcz_bg_0
  clear hfz_bg_0
  clear hnb_arg_bw
  clear hnb_arg_bx
  clear hnb_arg_bg
  clear hnb_bw_arg
  clear hnb_bw_bx
  clear hnb_bw_bg
  clear hnb_bx_arg
  clear hnb_bx_bw
  clear hnb_bx_bg
  clear hnb_bg_arg
  clear hnb_bg_bw
  clear hnb_bg_bx
  have hcz_arg_0 : w19_.cell? ⟨loarg, 0, none⟩ = some (.int .i64 a) := (blk_cell HBarg.out 0).trans rfl; have hfz_arg_0 := blk_frozen HBarg.out 0
  have hcz_arg_1 : w19_.cell? ⟨loarg, 1, none⟩ = some (.slice A1 l1.length c1) := (blk_cell HBarg.out 1).trans rfl; have hfz_arg_1 := blk_frozen HBarg.out 1
  have hcz_arg_2 : w19_.cell? ⟨loarg, 2, none⟩ = some (.slice A2 l2.length c2) := (blk_cell HBarg.out 2).trans rfl; have hfz_arg_2 := blk_frozen HBarg.out 2
  have hcz_bw_0 : w19_.cell? ⟨lobw, 0, none⟩ = some (.slice AW R.length cW) := (blk_cell HBbw.out 0).trans rfl; have hfz_bw_0 := blk_frozen HBbw.out 0
  have hcz_bx_0 : w19_.cell? ⟨lobx, 0, none⟩ = some (.int .i64 a) := (blk_cell HBbx.out 0).trans rfl; have hfz_bx_0 := blk_frozen HBbx.out 0
  have hcz_bx_1 : w19_.cell? ⟨lobx, 1, none⟩ = some (.slice AX1 l1.length cX1) := (blk_cell HBbx.out 1).trans rfl; have hfz_bx_1 := blk_frozen HBbx.out 1
  have hcz_bx_2 : w19_.cell? ⟨lobx, 2, none⟩ = some (.slice AX2 l2.length cX2) := (blk_cell HBbx.out 2).trans rfl; have hfz_bx_2 := blk_frozen HBbx.out 2
  have hcz_bg_0 : w19_.cell? ⟨lobg, 0, none⟩ = some (.slice AG R.length cG) := (blk_cell HBbg.out 0).trans rfl; have hfz_bg_0 := blk_frozen HBbg.out 0
  have ha_ : hiarg ≤ lobw := by
    have h0_ := HOT.out
    have h1_ := HOW.out
    have h2_ := HObw.out
    have s0_ := HLT.out
    have s1_ := HLW.out
    omega
  have hnb_arg_bw : loarg ≠ lobw := by have h0_ := HHarg.out; have h1_ := HHbw.out; omega
  clear ha_
  have ha_ : hiarg ≤ lobx := by
    have h0_ := HOT.out
    have h1_ := HOW.out
    have h2_ := HObw.out
    have h3_ := HOX.out
    have h4_ := HObx.out
    have s0_ := HLT.out
    have s1_ := HLW.out
    have s2_ := HLbw.out
    have s3_ := HLX.out
    omega
  have hnb_arg_bx : loarg ≠ lobx := by have h0_ := HHarg.out; have h1_ := HHbx.out; omega
  clear ha_
  have ha_ : hiarg ≤ lobg := by
    have h0_ := HOT.out
    have h1_ := HOW.out
    have h2_ := HObw.out
    have h3_ := HOX.out
    have h4_ := HObx.out
    have h5_ := HOG.out
    have h6_ := HObg.out
    have s0_ := HLT.out
    have s1_ := HLW.out
    have s2_ := HLbw.out
    have s3_ := HLX.out
    have s4_ := HLbx.out
    have s5_ := HLG.out
    omega
  have hnb_arg_bg : loarg ≠ lobg := by have h0_ := HHarg.out; have h1_ := HHbg.out; omega
  clear ha_
  have ha_ : hiarg ≤ lobw := by
    have h0_ := HOT.out
    have h1_ := HOW.out
    have h2_ := HObw.out
    have s0_ := HLT.out
    have s1_ := HLW.out
    omega
  have hnb_bw_arg : lobw ≠ loarg := by have h0_ := HHbw.out; have h1_ := HHarg.out; omega
  clear ha_
  have ha_ : hibw ≤ lobx := by
    have h0_ := HOX.out
    have h1_ := HObx.out
    have s0_ := HLX.out
    omega
  have hnb_bw_bx : lobw ≠ lobx := by have h0_ := HHbw.out; have h1_ := HHbx.out; omega
  clear ha_
  have ha_ : hibw ≤ lobg := by
    have h0_ := HOX.out
    have h1_ := HObx.out
    have h2_ := HOG.out
    have h3_ := HObg.out
    have s0_ := HLX.out
    have s1_ := HLbx.out
    have s2_ := HLG.out
    omega
  have hnb_bw_bg : lobw ≠ lobg := by have h0_ := HHbw.out; have h1_ := HHbg.out; omega
  clear ha_
  have ha_ : hiarg ≤ lobx := by
    have h0_ := HOT.out
    have h1_ := HOW.out
    have h2_ := HObw.out
    have h3_ := HOX.out
    have h4_ := HObx.out
    have s0_ := HLT.out
    have s1_ := HLW.out
    have s2_ := HLbw.out
    have s3_ := HLX.out
    omega
  have hnb_bx_arg : lobx ≠ loarg := by have h0_ := HHbx.out; have h1_ := HHarg.out; omega
  clear ha_
  have ha_ : hibw ≤ lobx := by
    have h0_ := HOX.out
    have h1_ := HObx.out
    have s0_ := HLX.out
    omega
  have hnb_bx_bw : lobx ≠ lobw := by have h0_ := HHbx.out; have h1_ := HHbw.out; omega
  clear ha_
  have ha_ : hibx ≤ lobg := by
    have h0_ := HOG.out
    have h1_ := HObg.out
    have s0_ := HLG.out
    omega
  have hnb_bx_bg : lobx ≠ lobg := by have h0_ := HHbx.out; have h1_ := HHbg.out; omega
  clear ha_
  have ha_ : hiarg ≤ lobg := by
    have h0_ := HOT.out
    have h1_ := HOW.out
    have h2_ := HObw.out
    have h3_ := HOX.out
    have h4_ := HObx.out
    have h5_ := HOG.out
    have h6_ := HObg.out
    have s0_ := HLT.out
    have s1_ := HLW.out
    have s2_ := HLbw.out
    have s3_ := HLX.out
    have s4_ := HLbx.out
    have s5_ := HLG.out
    omega
  have hnb_bg_arg : lobg ≠ loarg := by have h0_ := HHbg.out; have h1_ := HHarg.out; omega
  clear ha_
  have ha_ : hibw ≤ lobg := by
    have h0_ := HOX.out
    have h1_ := HObx.out
    have h2_ := HOG.out
    have h3_ := HObg.out
    have s0_ := HLX.out
    have s1_ := HLbx.out
    have s2_ := HLG.out
    omega
  have hnb_bg_bw : lobg ≠ lobw := by have h0_ := HHbg.out; have h1_ := HHbw.out; omega
  clear ha_
  have ha_ : hibx ≤ lobg := by
    have h0_ := HOG.out
    have h1_ := HObg.out
    have s0_ := HLG.out
    omega
  have hnb_bg_bx : lobg ≠ lobx := by have h0_ := HHbg.out; have h1_ := HHbx.out; omega
  clear ha_
  go_wp2_with fail
  refine (G_held k _ _ R.length R' 1 mg _ (Kd.S_reads' HG.out).2.2 (Kd.S_reads' HG.out).1 (Kd.S_reads' HG.out).2.1 FH.out).mono ?_
  rintro e w20_ ⟨rfl, hb⟩
  have n0_ := Aside0.mk (blk_below HBarg.out hb)
  have n1_ := Aside0.mk (Kd.S_below HW.out hb)
  have n2_ := Aside0.mk (blk_below HBbw.out hb)
  have n3_ := Aside0.mk (blk_below HBbx.out hb)
  have n4_ := Aside0.mk (blk_below HBbg.out hb)
  have n5_ := Aside0.mk (Kd.S_below HG.out hb)
  clear HBarg; have HBarg := n0_; clear n0_
  clear HW; have HW := n1_; clear n1_
  clear HBbw; have HBbw := n2_; clear n2_
  clear HBbx; have HBbx := n3_; clear n3_
  clear HBbg; have HBbg := n4_; clear n4_
  clear HG; have HG := n5_; clear n5_
  have nb_ := Aside0.mk (below_step HB.out hb); have np_ := Aside0.mk (Nat.le_trans HP.out hb.size); clear HB HP; have HB := nb_; have HP := np_; clear nb_ np_
  clear hb
  clear hcz_arg_0
  clear hfz_arg_0
  clear hcz_arg_1
  clear hfz_arg_1
  clear hcz_arg_2
  clear hfz_arg_2
  clear hcz_bw_0
  clear hfz_bw_0
  clear hcz_bx_0
  clear hfz_bx_0
  clear hcz_bx_1
  clear hfz_bx_1
  clear hcz_bx_2
  clear hfz_bx_2
  clear hcz_bg_0
  clear hfz_bg_0
  clear hnb_arg_bw
  clear hnb_arg_bx
  clear hnb_arg_bg
  clear hnb_bw_arg
  clear hnb_bw_bx
  clear hnb_bw_bg
  clear hnb_bx_arg
  clear hnb_bx_bw
  clear hnb_bx_bg
  clear hnb_bg_arg
  clear hnb_bg_bw
  clear hnb_bg_bx
  have hcz_arg_0 : w20_.cell? ⟨loarg, 0, none⟩ = some (.int .i64 a) := (blk_cell HBarg.out 0).trans rfl; have hfz_arg_0 := blk_frozen HBarg.out 0
  have hcz_arg_1 : w20_.cell? ⟨loarg, 1, none⟩ = some (.slice A1 l1.length c1) := (blk_cell HBarg.out 1).trans rfl; have hfz_arg_1 := blk_frozen HBarg.out 1
  have hcz_arg_2 : w20_.cell? ⟨loarg, 2, none⟩ = some (.slice A2 l2.length c2) := (blk_cell HBarg.out 2).trans rfl; have hfz_arg_2 := blk_frozen HBarg.out 2
  have hcz_bw_0 : w20_.cell? ⟨lobw, 0, none⟩ = some (.slice AW R.length cW) := (blk_cell HBbw.out 0).trans rfl; have hfz_bw_0 := blk_frozen HBbw.out 0
  have hcz_bx_0 : w20_.cell? ⟨lobx, 0, none⟩ = some (.int .i64 a) := (blk_cell HBbx.out 0).trans rfl; have hfz_bx_0 := blk_frozen HBbx.out 0
  have hcz_bx_1 : w20_.cell? ⟨lobx, 1, none⟩ = some (.slice AX1 l1.length cX1) := (blk_cell HBbx.out 1).trans rfl; have hfz_bx_1 := blk_frozen HBbx.out 1
  have hcz_bx_2 : w20_.cell? ⟨lobx, 2, none⟩ = some (.slice AX2 l2.length cX2) := (blk_cell HBbx.out 2).trans rfl; have hfz_bx_2 := blk_frozen HBbx.out 2
  have hcz_bg_0 : w20_.cell? ⟨lobg, 0, none⟩ = some (.slice AG R.length cG) := (blk_cell HBbg.out 0).trans rfl; have hfz_bg_0 := blk_frozen HBbg.out 0
  have ha_ : hiarg ≤ lobw := by
    have h0_ := HOT.out
    have h1_ := HOW.out
    have h2_ := HObw.out
    have s0_ := HLT.out
    have s1_ := HLW.out
    omega
  have hnb_arg_bw : loarg ≠ lobw := by have h0_ := HHarg.out; have h1_ := HHbw.out; omega
  clear ha_
  have ha_ : hiarg ≤ lobx := by
    have h0_ := HOT.out
    have h1_ := HOW.out
    have h2_ := HObw.out
    have h3_ := HOX.out
    have h4_ := HObx.out
    have s0_ := HLT.out
    have s1_ := HLW.out
    have s2_ := HLbw.out
    have s3_ := HLX.out
    omega
  have hnb_arg_bx : loarg ≠ lobx := by have h0_ := HHarg.out; have h1_ := HHbx.out; omega
  clear ha_
  have ha_ : hiarg ≤ lobg := by
    have h0_ := HOT.out
    have h1_ := HOW.out
    have h2_ := HObw.out
    have h3_ := HOX.out
    have h4_ := HObx.out
    have h5_ := HOG.out
    have h6_ := HObg.out
    have s0_ := HLT.out
    have s1_ := HLW.out
    have s2_ := HLbw.out
    have s3_ := HLX.out
    have s4_ := HLbx.out
    have s5_ := HLG.out
    omega
  have hnb_arg_bg : loarg ≠ lobg := by have h0_ := HHarg.out; have h1_ := HHbg.out; omega
  clear ha_
  have ha_ : hiarg ≤ lobw := by
    have h0_ := HOT.out
    have h1_ := HOW.out
    have h2_ := HObw.out
    have s0_ := HLT.out
    have s1_ := HLW.out
    omega
  have hnb_bw_arg : lobw ≠ loarg := by have h0_ := HHbw.out; have h1_ := HHarg.out; omega
  clear ha_
  have ha_ : hibw ≤ lobx := by
    have h0_ := HOX.out
    have h1_ := HObx.out
    have s0_ := HLX.out
    omega
  have hnb_bw_bx : lobw ≠ lobx := by have h0_ := HHbw.out; have h1_ := HHbx.out; omega
  clear ha_
  have ha_ : hibw ≤ lobg := by
    have h0_ := HOX.out
    have h1_ := HObx.out
    have h2_ := HOG.out
    have h3_ := HObg.out
    have s0_ := HLX.out
    have s1_ := HLbx.out
    have s2_ := HLG.out
    omega
  have hnb_bw_bg : lobw ≠ lobg := by have h0_ := HHbw.out; have h1_ := HHbg.out; omega
  clear ha_
  have ha_ : hiarg ≤ lobx := by
    have h0_ := HOT.out
    have h1_ := HOW.out
    have h2_ := HObw.out
    have h3_ := HOX.out
    have h4_ := HObx.out
    have s0_ := HLT.out
    have s1_ := HLW.out
    have s2_ := HLbw.out
    have s3_ := HLX.out
    omega
  have hnb_bx_arg : lobx ≠ loarg := by have h0_ := HHbx.out; have h1_ := HHarg.out; omega
  clear ha_
  have ha_ : hibw ≤ lobx := by
    have h0_ := HOX.out
    have h1_ := HObx.out
    have s0_ := HLX.out
    omega
  have hnb_bx_bw : lobx ≠ lobw := by have h0_ := HHbx.out; have h1_ := HHbw.out; omega
  clear ha_
  have ha_ : hibx ≤ lobg := by
    have h0_ := HOG.out
    have h1_ := HObg.out
    have s0_ := HLG.out
    omega
  have hnb_bx_bg : lobx ≠ lobg := by have h0_ := HHbx.out; have h1_ := HHbg.out; omega
  clear ha_
  have ha_ : hiarg ≤ lobg := by
    have h0_ := HOT.out
    have h1_ := HOW.out
    have h2_ := HObw.out
    have h3_ := HOX.out
    have h4_ := HObx.out
    have h5_ := HOG.out
    have h6_ := HObg.out
    have s0_ := HLT.out
    have s1_ := HLW.out
    have s2_ := HLbw.out
    have s3_ := HLX.out
    have s4_ := HLbx.out
    have s5_ := HLG.out
    omega
  have hnb_bg_arg : lobg ≠ loarg := by have h0_ := HHbg.out; have h1_ := HHarg.out; omega
  clear ha_
  have ha_ : hibw ≤ lobg := by
    have h0_ := HOX.out
    have h1_ := HObx.out
    have h2_ := HOG.out
    have h3_ := HObg.out
    have s0_ := HLX.out
    have s1_ := HLbx.out
    have s2_ := HLG.out
    omega
  have hnb_bg_bw : lobg ≠ lobw := by have h0_ := HHbg.out; have h1_ := HHbw.out; omega
  clear ha_
  have ha_ : hibx ≤ lobg := by
    have h0_ := HOG.out
    have h1_ := HObg.out
    have s0_ := HLG.out
    omega
  have hnb_bg_bx : lobg ≠ lobx := by have h0_ := HHbg.out; have h1_ := HHbx.out; omega
  clear ha_
  go_wp2_with fail
  refine (laws_toSequence.calls k a _ _ l1 _ _ l2 a l1 l2 _ (Kd.C_below HA1.out HB.out) HC1.out (Kd.C_below HA2.out HB.out) HC2.out FT.out).mono ?_
  rintro e w21_ ⟨v1_, v2_, rfl, hoU1, hoU2, hb⟩
  obtain ⟨loU, hiU, hlo_, hhi_, hp_, hl_, hs_⟩ := G.span_of hb HP.out
  have hU1 := G.S_in2 hoU1 HB.out hlo_ hhi_
  have hU2 := G.R_in hoU2 HB.out hlo_ hhi_
  have n0_ := Aside0.mk (blk_below HBarg.out hb)
  have n1_ := Aside0.mk (Kd.S_below HW.out hb)
  have n2_ := Aside0.mk (blk_below HBbw.out hb)
  have n3_ := Aside0.mk (blk_below HBbx.out hb)
  have n4_ := Aside0.mk (blk_below HBbg.out hb)
  have n5_ := Aside0.mk (Kd.S_below HG.out hb)
  clear HBarg; have HBarg := n0_; clear n0_
  clear HW; have HW := n1_; clear n1_
  clear HBbw; have HBbw := n2_; clear n2_
  clear HBbx; have HBbx := n3_; clear n3_
  clear HBbg; have HBbg := n4_; clear n4_
  clear HG; have HG := n5_; clear n5_
  have nb_ := Aside0.mk (below_step HB.out hb); have np_ := Aside0.mk (Nat.le_trans HP.out hb.size); clear HB HP; have HB := nb_; have HP := np_; clear nb_ np_
  clear hoU1 hoU2 hb hlo_ hhi_
  have HOU := Aside0.mk hp_; have HLU := Aside0.mk hl_; clear HP; have HP := Aside0.mk hs_; clear hp_ hl_ hs_
  obtain ⟨AU1, cU1, eU1⟩ := Kd.S_slice hU1; subst eU1
  have HU1 := Aside0.mk hU1; clear hU1
  obtain ⟨AU2, cU2, eU2⟩ := Kd.R_slice hU2; subst eU2
  have HU2 := Aside0.mk hU2; clear hU2
  clear hcz_arg_0
  clear hfz_arg_0
  clear hcz_arg_1
  clear hfz_arg_1
  clear hcz_arg_2
  clear hfz_arg_2
  clear hcz_bw_0
  clear hfz_bw_0
  clear hcz_bx_0
  clear hfz_bx_0
  clear hcz_bx_1
  clear hfz_bx_1
  clear hcz_bx_2
  clear hfz_bx_2
  clear hcz_bg_0
  clear hfz_bg_0
  clear hnb_arg_bw
  clear hnb_arg_bx
  clear hnb_arg_bg
  clear hnb_bw_arg
  clear hnb_bw_bx
  clear hnb_bw_bg
  clear hnb_bx_arg
  clear hnb_bx_bw
  clear hnb_bx_bg
  clear hnb_bg_arg
  clear hnb_bg_bw
  clear hnb_bg_bx
  have hcz_arg_0 : w21_.cell? ⟨loarg, 0, none⟩ = some (.int .i64 a) := (blk_cell HBarg.out 0).trans rfl; have hfz_arg_0 := blk_frozen HBarg.out 0
  have hcz_arg_1 : w21_.cell? ⟨loarg, 1, none⟩ = some (.slice A1 l1.length c1) := (blk_cell HBarg.out 1).trans rfl; have hfz_arg_1 := blk_frozen HBarg.out 1
  have hcz_arg_2 : w21_.cell? ⟨loarg, 2, none⟩ = some (.slice A2 l2.length c2) := (blk_cell HBarg.out 2).trans rfl; have hfz_arg_2 := blk_frozen HBarg.out 2
  have hcz_bw_0 : w21_.cell? ⟨lobw, 0, none⟩ = some (.slice AW R.length cW) := (blk_cell HBbw.out 0).trans rfl; have hfz_bw_0 := blk_frozen HBbw.out 0
  have hcz_bx_0 : w21_.cell? ⟨lobx, 0, none⟩ = some (.int .i64 a) := (blk_cell HBbx.out 0).trans rfl; have hfz_bx_0 := blk_frozen HBbx.out 0
  have hcz_bx_1 : w21_.cell? ⟨lobx, 1, none⟩ = some (.slice AX1 l1.length cX1) := (blk_cell HBbx.out 1).trans rfl; have hfz_bx_1 := blk_frozen HBbx.out 1
  have hcz_bx_2 : w21_.cell? ⟨lobx, 2, none⟩ = some (.slice AX2 l2.length cX2) := (blk_cell HBbx.out 2).trans rfl; have hfz_bx_2 := blk_frozen HBbx.out 2
  have hcz_bg_0 : w21_.cell? ⟨lobg, 0, none⟩ = some (.slice AG R.length cG) := (blk_cell HBbg.out 0).trans rfl; have hfz_bg_0 := blk_frozen HBbg.out 0
  have ha_ : hiarg ≤ lobw := by
    have h0_ := HOT.out
    have h1_ := HOW.out
    have h2_ := HObw.out
    have s0_ := HLT.out
    have s1_ := HLW.out
    omega
  have hnb_arg_bw : loarg ≠ lobw := by have h0_ := HHarg.out; have h1_ := HHbw.out; omega
  clear ha_
  have ha_ : hiarg ≤ lobx := by
    have h0_ := HOT.out
    have h1_ := HOW.out
    have h2_ := HObw.out
    have h3_ := HOX.out
    have h4_ := HObx.out
    have s0_ := HLT.out
    have s1_ := HLW.out
    have s2_ := HLbw.out
    have s3_ := HLX.out
    omega
  have hnb_arg_bx : loarg ≠ lobx := by have h0_ := HHarg.out; have h1_ := HHbx.out; omega
  clear ha_
  have ha_ : hiarg ≤ lobg := by
    have h0_ := HOT.out
    have h1_ := HOW.out
    have h2_ := HObw.out
    have h3_ := HOX.out
    have h4_ := HObx.out
    have h5_ := HOG.out
    have h6_ := HObg.out
    have s0_ := HLT.out
    have s1_ := HLW.out
    have s2_ := HLbw.out
    have s3_ := HLX.out
    have s4_ := HLbx.out
    have s5_ := HLG.out
    omega
  have hnb_arg_bg : loarg ≠ lobg := by have h0_ := HHarg.out; have h1_ := HHbg.out; omega
  clear ha_
  have ha_ : hiarg ≤ lobw := by
    have h0_ := HOT.out
    have h1_ := HOW.out
    have h2_ := HObw.out
    have s0_ := HLT.out
    have s1_ := HLW.out
    omega
  have hnb_bw_arg : lobw ≠ loarg := by have h0_ := HHbw.out; have h1_ := HHarg.out; omega
  clear ha_
  have ha_ : hibw ≤ lobx := by
    have h0_ := HOX.out
    have h1_ := HObx.out
    have s0_ := HLX.out
    omega
  have hnb_bw_bx : lobw ≠ lobx := by have h0_ := HHbw.out; have h1_ := HHbx.out; omega
  clear ha_
  have ha_ : hibw ≤ lobg := by
    have h0_ := HOX.out
    have h1_ := HObx.out
    have h2_ := HOG.out
    have h3_ := HObg.out
    have s0_ := HLX.out
    have s1_ := HLbx.out
    have s2_ := HLG.out
    omega
  have hnb_bw_bg : lobw ≠ lobg := by have h0_ := HHbw.out; have h1_ := HHbg.out; omega
  clear ha_
  have ha_ : hiarg ≤ lobx := by
    have h0_ := HOT.out
    have h1_ := HOW.out
    have h2_ := HObw.out
    have h3_ := HOX.out
    have h4_ := HObx.out
    have s0_ := HLT.out
    have s1_ := HLW.out
    have s2_ := HLbw.out
    have s3_ := HLX.out
    omega
  have hnb_bx_arg : lobx ≠ loarg := by have h0_ := HHbx.out; have h1_ := HHarg.out; omega
  clear ha_
  have ha_ : hibw ≤ lobx := by
    have h0_ := HOX.out
    have h1_ := HObx.out
    have s0_ := HLX.out
    omega
  have hnb_bx_bw : lobx ≠ lobw := by have h0_ := HHbx.out; have h1_ := HHbw.out; omega
  clear ha_
  have ha_ : hibx ≤ lobg := by
    have h0_ := HOG.out
    have h1_ := HObg.out
    have s0_ := HLG.out
    omega
  have hnb_bx_bg : lobx ≠ lobg := by have h0_ := HHbx.out; have h1_ := HHbg.out; omega
  clear ha_
  have ha_ : hiarg ≤ lobg := by
    have h0_ := HOT.out
    have h1_ := HOW.out
    have h2_ := HObw.out
    have h3_ := HOX.out
    have h4_ := HObx.out
    have h5_ := HOG.out
    have h6_ := HObg.out
    have s0_ := HLT.out
    have s1_ := HLW.out
    have s2_ := HLbw.out
    have s3_ := HLX.out
    have s4_ := HLbx.out
    have s5_ := HLG.out
    omega
  have hnb_bg_arg : lobg ≠ loarg := by have h0_ := HHbg.out; have h1_ := HHarg.out; omega
  clear ha_
  have ha_ : hibw ≤ lobg := by
    have h0_ := HOX.out
    have h1_ := HObx.out
    have h2_ := HOG.out
    have h3_ := HObg.out
    have s0_ := HLX.out
    have s1_ := HLbx.out
    have s2_ := HLG.out
    omega
  have hnb_bg_bw : lobg ≠ lobw := by have h0_ := HHbg.out; have h1_ := HHbw.out; omega
  clear ha_
  have ha_ : hibx ≤ lobg := by
    have h0_ := HOG.out
    have h1_ := HObg.out
    have s0_ := HLG.out
    omega
  have hnb_bg_bx : lobg ≠ lobx := by have h0_ := HHbg.out; have h1_ := HHbx.out; omega
  clear ha_
  go_wp2_with fail
  refine (impl_MorphismOf.calls k a _ _ l1 _ _ l2 R b _ (Kd.S_reads' HU1.out).2.2 (Kd.S_reads' HU1.out).2.1 (Kd.R_reads' HU2.out).2.2 (Kd.R_reads' HU2.out).2.1 FI.out).mono ?_
  rintro e w22_ ⟨v1_, rfl, hoH, hb⟩
  obtain ⟨loH, hiH, hlo_, hhi_, hp_, hl_, hs_⟩ := G.span_of hb HP.out
  have hH := G.S_in hoH HB.out hlo_ hhi_
  have n0_ := Aside0.mk (blk_below HBarg.out hb)
  have n1_ := Aside0.mk (Kd.S_below HW.out hb)
  have n2_ := Aside0.mk (blk_below HBbw.out hb)
  have n3_ := Aside0.mk (blk_below HBbx.out hb)
  have n4_ := Aside0.mk (blk_below HBbg.out hb)
  have n5_ := Aside0.mk (Kd.S_below HG.out hb)
  have n6_ := Aside0.mk (Kd.S_below HU1.out hb)
  have n7_ := Aside0.mk (Kd.R_below HU2.out hb)
  clear HBarg; have HBarg := n0_; clear n0_
  clear HW; have HW := n1_; clear n1_
  clear HBbw; have HBbw := n2_; clear n2_
  clear HBbx; have HBbx := n3_; clear n3_
  clear HBbg; have HBbg := n4_; clear n4_
  clear HG; have HG := n5_; clear n5_
  clear HU1; have HU1 := n6_; clear n6_
  clear HU2; have HU2 := n7_; clear n7_
  have nb_ := Aside0.mk (below_step HB.out hb); have np_ := Aside0.mk (Nat.le_trans HP.out hb.size); clear HB HP; have HB := nb_; have HP := np_; clear nb_ np_
  clear hoH hb hlo_ hhi_
  have HOH := Aside0.mk hp_; have HLH := Aside0.mk hl_; clear HP; have HP := Aside0.mk hs_; clear hp_ hl_ hs_
  obtain ⟨AH, cH, eH⟩ := Kd.S_slice hH; subst eH
  have HH := Aside0.mk hH; clear hH
  clear hcz_arg_0
  clear hfz_arg_0
  clear hcz_arg_1
  clear hfz_arg_1
  clear hcz_arg_2
  clear hfz_arg_2
  clear hcz_bw_0
  clear hfz_bw_0
  clear hcz_bx_0
  clear hfz_bx_0
  clear hcz_bx_1
  clear hfz_bx_1
  clear hcz_bx_2
  clear hfz_bx_2
  clear hcz_bg_0
  clear hfz_bg_0
  clear hnb_arg_bw
  clear hnb_arg_bx
  clear hnb_arg_bg
  clear hnb_bw_arg
  clear hnb_bw_bx
  clear hnb_bw_bg
  clear hnb_bx_arg
  clear hnb_bx_bw
  clear hnb_bx_bg
  clear hnb_bg_arg
  clear hnb_bg_bw
  clear hnb_bg_bx
  have hcz_arg_0 : w22_.cell? ⟨loarg, 0, none⟩ = some (.int .i64 a) := (blk_cell HBarg.out 0).trans rfl; have hfz_arg_0 := blk_frozen HBarg.out 0
  have hcz_arg_1 : w22_.cell? ⟨loarg, 1, none⟩ = some (.slice A1 l1.length c1) := (blk_cell HBarg.out 1).trans rfl; have hfz_arg_1 := blk_frozen HBarg.out 1
  have hcz_arg_2 : w22_.cell? ⟨loarg, 2, none⟩ = some (.slice A2 l2.length c2) := (blk_cell HBarg.out 2).trans rfl; have hfz_arg_2 := blk_frozen HBarg.out 2
  have hcz_bw_0 : w22_.cell? ⟨lobw, 0, none⟩ = some (.slice AW R.length cW) := (blk_cell HBbw.out 0).trans rfl; have hfz_bw_0 := blk_frozen HBbw.out 0
  have hcz_bx_0 : w22_.cell? ⟨lobx, 0, none⟩ = some (.int .i64 a) := (blk_cell HBbx.out 0).trans rfl; have hfz_bx_0 := blk_frozen HBbx.out 0
  have hcz_bx_1 : w22_.cell? ⟨lobx, 1, none⟩ = some (.slice AX1 l1.length cX1) := (blk_cell HBbx.out 1).trans rfl; have hfz_bx_1 := blk_frozen HBbx.out 1
  have hcz_bx_2 : w22_.cell? ⟨lobx, 2, none⟩ = some (.slice AX2 l2.length cX2) := (blk_cell HBbx.out 2).trans rfl; have hfz_bx_2 := blk_frozen HBbx.out 2
  have hcz_bg_0 : w22_.cell? ⟨lobg, 0, none⟩ = some (.slice AG R.length cG) := (blk_cell HBbg.out 0).trans rfl; have hfz_bg_0 := blk_frozen HBbg.out 0
  have ha_ : hiarg ≤ lobw := by
    have h0_ := HOT.out
    have h1_ := HOW.out
    have h2_ := HObw.out
    have s0_ := HLT.out
    have s1_ := HLW.out
    omega
  have hnb_arg_bw : loarg ≠ lobw := by have h0_ := HHarg.out; have h1_ := HHbw.out; omega
  clear ha_
  have ha_ : hiarg ≤ lobx := by
    have h0_ := HOT.out
    have h1_ := HOW.out
    have h2_ := HObw.out
    have h3_ := HOX.out
    have h4_ := HObx.out
    have s0_ := HLT.out
    have s1_ := HLW.out
    have s2_ := HLbw.out
    have s3_ := HLX.out
    omega
  have hnb_arg_bx : loarg ≠ lobx := by have h0_ := HHarg.out; have h1_ := HHbx.out; omega
  clear ha_
  have ha_ : hiarg ≤ lobg := by
    have h0_ := HOT.out
    have h1_ := HOW.out
    have h2_ := HObw.out
    have h3_ := HOX.out
    have h4_ := HObx.out
    have h5_ := HOG.out
    have h6_ := HObg.out
    have s0_ := HLT.out
    have s1_ := HLW.out
    have s2_ := HLbw.out
    have s3_ := HLX.out
    have s4_ := HLbx.out
    have s5_ := HLG.out
    omega
  have hnb_arg_bg : loarg ≠ lobg := by have h0_ := HHarg.out; have h1_ := HHbg.out; omega
  clear ha_
  have ha_ : hiarg ≤ lobw := by
    have h0_ := HOT.out
    have h1_ := HOW.out
    have h2_ := HObw.out
    have s0_ := HLT.out
    have s1_ := HLW.out
    omega
  have hnb_bw_arg : lobw ≠ loarg := by have h0_ := HHbw.out; have h1_ := HHarg.out; omega
  clear ha_
  have ha_ : hibw ≤ lobx := by
    have h0_ := HOX.out
    have h1_ := HObx.out
    have s0_ := HLX.out
    omega
  have hnb_bw_bx : lobw ≠ lobx := by have h0_ := HHbw.out; have h1_ := HHbx.out; omega
  clear ha_
  have ha_ : hibw ≤ lobg := by
    have h0_ := HOX.out
    have h1_ := HObx.out
    have h2_ := HOG.out
    have h3_ := HObg.out
    have s0_ := HLX.out
    have s1_ := HLbx.out
    have s2_ := HLG.out
    omega
  have hnb_bw_bg : lobw ≠ lobg := by have h0_ := HHbw.out; have h1_ := HHbg.out; omega
  clear ha_
  have ha_ : hiarg ≤ lobx := by
    have h0_ := HOT.out
    have h1_ := HOW.out
    have h2_ := HObw.out
    have h3_ := HOX.out
    have h4_ := HObx.out
    have s0_ := HLT.out
    have s1_ := HLW.out
    have s2_ := HLbw.out
    have s3_ := HLX.out
    omega
  have hnb_bx_arg : lobx ≠ loarg := by have h0_ := HHbx.out; have h1_ := HHarg.out; omega
  clear ha_
  have ha_ : hibw ≤ lobx := by
    have h0_ := HOX.out
    have h1_ := HObx.out
    have s0_ := HLX.out
    omega
  have hnb_bx_bw : lobx ≠ lobw := by have h0_ := HHbx.out; have h1_ := HHbw.out; omega
  clear ha_
  have ha_ : hibx ≤ lobg := by
    have h0_ := HOG.out
    have h1_ := HObg.out
    have s0_ := HLG.out
    omega
  have hnb_bx_bg : lobx ≠ lobg := by have h0_ := HHbx.out; have h1_ := HHbg.out; omega
  clear ha_
  have ha_ : hiarg ≤ lobg := by
    have h0_ := HOT.out
    have h1_ := HOW.out
    have h2_ := HObw.out
    have h3_ := HOX.out
    have h4_ := HObx.out
    have h5_ := HOG.out
    have h6_ := HObg.out
    have s0_ := HLT.out
    have s1_ := HLW.out
    have s2_ := HLbw.out
    have s3_ := HLX.out
    have s4_ := HLbx.out
    have s5_ := HLG.out
    omega
  have hnb_bg_arg : lobg ≠ loarg := by have h0_ := HHbg.out; have h1_ := HHarg.out; omega
  clear ha_
  have ha_ : hibw ≤ lobg := by
    have h0_ := HOX.out
    have h1_ := HObx.out
    have h2_ := HOG.out
    have h3_ := HObg.out
    have s0_ := HLX.out
    have s1_ := HLbx.out
    have s2_ := HLG.out
    omega
  have hnb_bg_bw : lobg ≠ lobw := by have h0_ := HHbg.out; have h1_ := HHbw.out; omega
  clear ha_
  have ha_ : hibx ≤ lobg := by
    have h0_ := HOG.out
    have h1_ := HObg.out
    have s0_ := HLG.out
    omega
  have hnb_bg_bx : lobg ≠ lobx := by have h0_ := HHbg.out; have h1_ := HHbx.out; omega
  clear ha_
  clear HU1
  clear HU2
  go_wp2_with (first | (
    (with_reducible refine gate_dst (N := 12) rfl ?_); refine box_event ?hg (N := 12) ?hd (cs := #[.slice none 0 0]) (t := 27) ?hr ?_; (case hd => rfl); (case hg => rfl); (case hr => first | (go_simp; done) | (go_simp; rfl))
    intro lobh hg w23_ hbox hb
    obtain ⟨hibh, hh_⟩ : ∃ h, h = lobh + 1 := ⟨_, rfl⟩
    have hp_ : hiH ≤ lobh := by rw [hg]; exact HP.out
    have hl_ : lobh ≤ hibh := by omega
    have hs_ : hibh ≤ w23_.heap.size := by rw [hh_]; exact blk_lt hbox
    have HGbh := Aside0.mk (show w.heap.size ≤ lobh from by rw [hg]; exact HB.out.size)
    have n0_ := Aside0.mk (blk_below HBarg.out hb)
    have n1_ := Aside0.mk (Kd.S_below HW.out hb)
    have n2_ := Aside0.mk (blk_below HBbw.out hb)
    have n3_ := Aside0.mk (blk_below HBbx.out hb)
    have n4_ := Aside0.mk (blk_below HBbg.out hb)
    have n5_ := Aside0.mk (Kd.S_below HG.out hb)
    have n6_ := Aside0.mk (Kd.S_below HH.out hb)
    clear HBarg; have HBarg := n0_; clear n0_
    clear HW; have HW := n1_; clear n1_
    clear HBbw; have HBbw := n2_; clear n2_
    clear HBbx; have HBbx := n3_; clear n3_
    clear HBbg; have HBbg := n4_; clear n4_
    clear HG; have HG := n5_; clear n5_
    clear HH; have HH := n6_; clear n6_
    have nb_ := Aside0.mk (below_step HB.out hb); have np_ := Aside0.mk (Nat.le_trans HP.out hb.size); clear HB HP; have HB := nb_; have HP := np_; clear nb_ np_
    have HHbh := Aside0.mk hh_
    have HObh := Aside0.mk hp_; have HLbh := Aside0.mk hl_; clear HP; have HP := Aside0.mk hs_; clear hp_ hl_ hs_
    have HBbh := Aside0.mk hbox; clear hbox hb hg hh_
    clear hcz_arg_0
    clear hfz_arg_0
    clear hcz_arg_1
    clear hfz_arg_1
    clear hcz_arg_2
    clear hfz_arg_2
    clear hcz_bw_0
    clear hfz_bw_0
    clear hcz_bx_0
    clear hfz_bx_0
    clear hcz_bx_1
    clear hfz_bx_1
    clear hcz_bx_2
    clear hfz_bx_2
    clear hcz_bg_0
    clear hfz_bg_0
    clear hnb_arg_bw
    clear hnb_arg_bx
    clear hnb_arg_bg
    clear hnb_bw_arg
    clear hnb_bw_bx
    clear hnb_bw_bg
    clear hnb_bx_arg
    clear hnb_bx_bw
    clear hnb_bx_bg
    clear hnb_bg_arg
    clear hnb_bg_bw
    clear hnb_bg_bx
    have hcz_arg_0 : w23_.cell? ⟨loarg, 0, none⟩ = some (.int .i64 a) := (blk_cell HBarg.out 0).trans rfl; have hfz_arg_0 := blk_frozen HBarg.out 0
    have hcz_arg_1 : w23_.cell? ⟨loarg, 1, none⟩ = some (.slice A1 l1.length c1) := (blk_cell HBarg.out 1).trans rfl; have hfz_arg_1 := blk_frozen HBarg.out 1
    have hcz_arg_2 : w23_.cell? ⟨loarg, 2, none⟩ = some (.slice A2 l2.length c2) := (blk_cell HBarg.out 2).trans rfl; have hfz_arg_2 := blk_frozen HBarg.out 2
    have hcz_bw_0 : w23_.cell? ⟨lobw, 0, none⟩ = some (.slice AW R.length cW) := (blk_cell HBbw.out 0).trans rfl; have hfz_bw_0 := blk_frozen HBbw.out 0
    have hcz_bx_0 : w23_.cell? ⟨lobx, 0, none⟩ = some (.int .i64 a) := (blk_cell HBbx.out 0).trans rfl; have hfz_bx_0 := blk_frozen HBbx.out 0
    have hcz_bx_1 : w23_.cell? ⟨lobx, 1, none⟩ = some (.slice AX1 l1.length cX1) := (blk_cell HBbx.out 1).trans rfl; have hfz_bx_1 := blk_frozen HBbx.out 1
    have hcz_bx_2 : w23_.cell? ⟨lobx, 2, none⟩ = some (.slice AX2 l2.length cX2) := (blk_cell HBbx.out 2).trans rfl; have hfz_bx_2 := blk_frozen HBbx.out 2
    have hcz_bg_0 : w23_.cell? ⟨lobg, 0, none⟩ = some (.slice AG R.length cG) := (blk_cell HBbg.out 0).trans rfl; have hfz_bg_0 := blk_frozen HBbg.out 0
    have hcz_bh_0 : w23_.cell? ⟨lobh, 0, none⟩ = some (.slice none 0 0) := (blk_cell HBbh.out 0).trans rfl; have hfz_bh_0 := blk_frozen HBbh.out 0
    have ha_ : hiarg ≤ lobw := by
      have h0_ := HOT.out
      have h1_ := HOW.out
      have h2_ := HObw.out
      have s0_ := HLT.out
      have s1_ := HLW.out
      omega
    have hnb_arg_bw : loarg ≠ lobw := by have h0_ := HHarg.out; have h1_ := HHbw.out; omega
    clear ha_
    have ha_ : hiarg ≤ lobx := by
      have h0_ := HOT.out
      have h1_ := HOW.out
      have h2_ := HObw.out
      have h3_ := HOX.out
      have h4_ := HObx.out
      have s0_ := HLT.out
      have s1_ := HLW.out
      have s2_ := HLbw.out
      have s3_ := HLX.out
      omega
    have hnb_arg_bx : loarg ≠ lobx := by have h0_ := HHarg.out; have h1_ := HHbx.out; omega
    clear ha_
    have ha_ : hiarg ≤ lobg := by
      have h0_ := HOT.out
      have h1_ := HOW.out
      have h2_ := HObw.out
      have h3_ := HOX.out
      have h4_ := HObx.out
      have h5_ := HOG.out
      have h6_ := HObg.out
      have s0_ := HLT.out
      have s1_ := HLW.out
      have s2_ := HLbw.out
      have s3_ := HLX.out
      have s4_ := HLbx.out
      have s5_ := HLG.out
      omega
    have hnb_arg_bg : loarg ≠ lobg := by have h0_ := HHarg.out; have h1_ := HHbg.out; omega
    clear ha_
    have ha_ : hiarg ≤ lobh := by
      have h0_ := HOT.out
      have h1_ := HOW.out
      have h2_ := HObw.out
      have h3_ := HOX.out
      have h4_ := HObx.out
      have h5_ := HOG.out
      have h6_ := HObg.out
      have h7_ := HOY.out
      have h8_ := HOU.out
      have h9_ := HOH.out
      have h10_ := HObh.out
      have s0_ := HLT.out
      have s1_ := HLW.out
      have s2_ := HLbw.out
      have s3_ := HLX.out
      have s4_ := HLbx.out
      have s5_ := HLG.out
      have s6_ := HLbg.out
      have s7_ := HLY.out
      have s8_ := HLU.out
      have s9_ := HLH.out
      omega
    have hnb_arg_bh : loarg ≠ lobh := by have h0_ := HHarg.out; have h1_ := HHbh.out; omega
    clear ha_
    have ha_ : hiarg ≤ lobw := by
      have h0_ := HOT.out
      have h1_ := HOW.out
      have h2_ := HObw.out
      have s0_ := HLT.out
      have s1_ := HLW.out
      omega
    have hnb_bw_arg : lobw ≠ loarg := by have h0_ := HHbw.out; have h1_ := HHarg.out; omega
    clear ha_
    have ha_ : hibw ≤ lobx := by
      have h0_ := HOX.out
      have h1_ := HObx.out
      have s0_ := HLX.out
      omega
    have hnb_bw_bx : lobw ≠ lobx := by have h0_ := HHbw.out; have h1_ := HHbx.out; omega
    clear ha_
    have ha_ : hibw ≤ lobg := by
      have h0_ := HOX.out
      have h1_ := HObx.out
      have h2_ := HOG.out
      have h3_ := HObg.out
      have s0_ := HLX.out
      have s1_ := HLbx.out
      have s2_ := HLG.out
      omega
    have hnb_bw_bg : lobw ≠ lobg := by have h0_ := HHbw.out; have h1_ := HHbg.out; omega
    clear ha_
    have ha_ : hibw ≤ lobh := by
      have h0_ := HOX.out
      have h1_ := HObx.out
      have h2_ := HOG.out
      have h3_ := HObg.out
      have h4_ := HOY.out
      have h5_ := HOU.out
      have h6_ := HOH.out
      have h7_ := HObh.out
      have s0_ := HLX.out
      have s1_ := HLbx.out
      have s2_ := HLG.out
      have s3_ := HLbg.out
      have s4_ := HLY.out
      have s5_ := HLU.out
      have s6_ := HLH.out
      omega
    have hnb_bw_bh : lobw ≠ lobh := by have h0_ := HHbw.out; have h1_ := HHbh.out; omega
    clear ha_
    have ha_ : hiarg ≤ lobx := by
      have h0_ := HOT.out
      have h1_ := HOW.out
      have h2_ := HObw.out
      have h3_ := HOX.out
      have h4_ := HObx.out
      have s0_ := HLT.out
      have s1_ := HLW.out
      have s2_ := HLbw.out
      have s3_ := HLX.out
      omega
    have hnb_bx_arg : lobx ≠ loarg := by have h0_ := HHbx.out; have h1_ := HHarg.out; omega
    clear ha_
    have ha_ : hibw ≤ lobx := by
      have h0_ := HOX.out
      have h1_ := HObx.out
      have s0_ := HLX.out
      omega
    have hnb_bx_bw : lobx ≠ lobw := by have h0_ := HHbx.out; have h1_ := HHbw.out; omega
    clear ha_
    have ha_ : hibx ≤ lobg := by
      have h0_ := HOG.out
      have h1_ := HObg.out
      have s0_ := HLG.out
      omega
    have hnb_bx_bg : lobx ≠ lobg := by have h0_ := HHbx.out; have h1_ := HHbg.out; omega
    clear ha_
    have ha_ : hibx ≤ lobh := by
      have h0_ := HOG.out
      have h1_ := HObg.out
      have h2_ := HOY.out
      have h3_ := HOU.out
      have h4_ := HOH.out
      have h5_ := HObh.out
      have s0_ := HLG.out
      have s1_ := HLbg.out
      have s2_ := HLY.out
      have s3_ := HLU.out
      have s4_ := HLH.out
      omega
    have hnb_bx_bh : lobx ≠ lobh := by have h0_ := HHbx.out; have h1_ := HHbh.out; omega
    clear ha_
    have ha_ : hiarg ≤ lobg := by
      have h0_ := HOT.out
      have h1_ := HOW.out
      have h2_ := HObw.out
      have h3_ := HOX.out
      have h4_ := HObx.out
      have h5_ := HOG.out
      have h6_ := HObg.out
      have s0_ := HLT.out
      have s1_ := HLW.out
      have s2_ := HLbw.out
      have s3_ := HLX.out
      have s4_ := HLbx.out
      have s5_ := HLG.out
      omega
    have hnb_bg_arg : lobg ≠ loarg := by have h0_ := HHbg.out; have h1_ := HHarg.out; omega
    clear ha_
    have ha_ : hibw ≤ lobg := by
      have h0_ := HOX.out
      have h1_ := HObx.out
      have h2_ := HOG.out
      have h3_ := HObg.out
      have s0_ := HLX.out
      have s1_ := HLbx.out
      have s2_ := HLG.out
      omega
    have hnb_bg_bw : lobg ≠ lobw := by have h0_ := HHbg.out; have h1_ := HHbw.out; omega
    clear ha_
    have ha_ : hibx ≤ lobg := by
      have h0_ := HOG.out
      have h1_ := HObg.out
      have s0_ := HLG.out
      omega
    have hnb_bg_bx : lobg ≠ lobx := by have h0_ := HHbg.out; have h1_ := HHbx.out; omega
    clear ha_
    have ha_ : hibg ≤ lobh := by
      have h0_ := HOY.out
      have h1_ := HOU.out
      have h2_ := HOH.out
      have h3_ := HObh.out
      have s0_ := HLY.out
      have s1_ := HLU.out
      have s2_ := HLH.out
      omega
    have hnb_bg_bh : lobg ≠ lobh := by have h0_ := HHbg.out; have h1_ := HHbh.out; omega
    clear ha_
    have ha_ : hiarg ≤ lobh := by
      have h0_ := HOT.out
      have h1_ := HOW.out
      have h2_ := HObw.out
      have h3_ := HOX.out
      have h4_ := HObx.out
      have h5_ := HOG.out
      have h6_ := HObg.out
      have h7_ := HOY.out
      have h8_ := HOU.out
      have h9_ := HOH.out
      have h10_ := HObh.out
      have s0_ := HLT.out
      have s1_ := HLW.out
      have s2_ := HLbw.out
      have s3_ := HLX.out
      have s4_ := HLbx.out
      have s5_ := HLG.out
      have s6_ := HLbg.out
      have s7_ := HLY.out
      have s8_ := HLU.out
      have s9_ := HLH.out
      omega
    have hnb_bh_arg : lobh ≠ loarg := by have h0_ := HHbh.out; have h1_ := HHarg.out; omega
    clear ha_
    have ha_ : hibw ≤ lobh := by
      have h0_ := HOX.out
      have h1_ := HObx.out
      have h2_ := HOG.out
      have h3_ := HObg.out
      have h4_ := HOY.out
      have h5_ := HOU.out
      have h6_ := HOH.out
      have h7_ := HObh.out
      have s0_ := HLX.out
      have s1_ := HLbx.out
      have s2_ := HLG.out
      have s3_ := HLbg.out
      have s4_ := HLY.out
      have s5_ := HLU.out
      have s6_ := HLH.out
      omega
    have hnb_bh_bw : lobh ≠ lobw := by have h0_ := HHbh.out; have h1_ := HHbw.out; omega
    clear ha_
    have ha_ : hibx ≤ lobh := by
      have h0_ := HOG.out
      have h1_ := HObg.out
      have h2_ := HOY.out
      have h3_ := HOU.out
      have h4_ := HOH.out
      have h5_ := HObh.out
      have s0_ := HLG.out
      have s1_ := HLbg.out
      have s2_ := HLY.out
      have s3_ := HLU.out
      have s4_ := HLH.out
      omega
    have hnb_bh_bx : lobh ≠ lobx := by have h0_ := HHbh.out; have h1_ := HHbx.out; omega
    clear ha_
    have ha_ : hibg ≤ lobh := by
      have h0_ := HOY.out
      have h1_ := HOU.out
      have h2_ := HOH.out
      have h3_ := HObh.out
      have s0_ := HLY.out
      have s1_ := HLU.out
      have s2_ := HLH.out
      omega
    have hnb_bh_bg : lobh ≠ lobg := by have h0_ := HHbh.out; have h1_ := HHbg.out; omega
    clear ha_))
  refine G.genC (F := fun w1 => Kept w23_ w1 (G.Span lobh hibh) ∧ Below w.heap.size w w1 ∧ w1.heap[lobh]? = some (.cells #[.slice AH R.length cH] 27 (0, 0))) ⟨?k0, ?k1, ?k2⟩ ?_
  case k0 => exact (by have hh_ := HHbh.out; repeat (first | exact Kept.refl _ _ | refine Kept.setCell ?_ (.inl ⟨Nat.le_refl _, by show lobh < hibh; omega⟩) _ | refine Kept.drewN ?_ _ | refine Kept.drew ?_))
  case k1 => exact (by repeat (first | (with_reducible first | exact HB.out | apply below_drew1 | apply pw_below_drewN | refine below_set ?_ HGbh.out) | exact HB.out))
  case k2 => exact (by (with_reducible repeat (first | refine blk_drewN ?_ _ | refine blk_drew ?_)); refine blk_put (cs := #[.slice none 0 0]) ?_ 0 _ rfl; (with_reducible repeat (first | refine blk_drewN ?_ _ | refine blk_drew ?_)); exact HBbh.out)
  rintro w24_ ⟨hkp, hb1_, hbk_⟩
  clear HBbh
  have ha_arg : hiarg ≤ lobh := by
    have h0_ := HOT.out
    have h1_ := HOW.out
    have h2_ := HObw.out
    have h3_ := HOX.out
    have h4_ := HObx.out
    have h5_ := HOG.out
    have h6_ := HObg.out
    have h7_ := HOY.out
    have h8_ := HOU.out
    have h9_ := HOH.out
    have h10_ := HObh.out
    have s0_ := HLT.out
    have s1_ := HLW.out
    have s2_ := HLbw.out
    have s3_ := HLX.out
    have s4_ := HLbx.out
    have s5_ := HLG.out
    have s6_ := HLbg.out
    have s7_ := HLY.out
    have s8_ := HLU.out
    have s9_ := HLH.out
    omega
  have ha_W : hiW ≤ lobh := by
    have h0_ := HObw.out
    have h1_ := HOX.out
    have h2_ := HObx.out
    have h3_ := HOG.out
    have h4_ := HObg.out
    have h5_ := HOY.out
    have h6_ := HOU.out
    have h7_ := HOH.out
    have h8_ := HObh.out
    have s0_ := HLbw.out
    have s1_ := HLX.out
    have s2_ := HLbx.out
    have s3_ := HLG.out
    have s4_ := HLbg.out
    have s5_ := HLY.out
    have s6_ := HLU.out
    have s7_ := HLH.out
    omega
  have ha_bw : hibw ≤ lobh := by
    have h0_ := HOX.out
    have h1_ := HObx.out
    have h2_ := HOG.out
    have h3_ := HObg.out
    have h4_ := HOY.out
    have h5_ := HOU.out
    have h6_ := HOH.out
    have h7_ := HObh.out
    have s0_ := HLX.out
    have s1_ := HLbx.out
    have s2_ := HLG.out
    have s3_ := HLbg.out
    have s4_ := HLY.out
    have s5_ := HLU.out
    have s6_ := HLH.out
    omega
  have ha_bx : hibx ≤ lobh := by
    have h0_ := HOG.out
    have h1_ := HObg.out
    have h2_ := HOY.out
    have h3_ := HOU.out
    have h4_ := HOH.out
    have h5_ := HObh.out
    have s0_ := HLG.out
    have s1_ := HLbg.out
    have s2_ := HLY.out
    have s3_ := HLU.out
    have s4_ := HLH.out
    omega
  have ha_bg : hibg ≤ lobh := by
    have h0_ := HOY.out
    have h1_ := HOU.out
    have h2_ := HOH.out
    have h3_ := HObh.out
    have s0_ := HLY.out
    have s1_ := HLU.out
    have s2_ := HLH.out
    omega
  have ha_G : hiG ≤ lobh := by
    have h0_ := HObg.out
    have h1_ := HOY.out
    have h2_ := HOU.out
    have h3_ := HOH.out
    have h4_ := HObh.out
    have s0_ := HLbg.out
    have s1_ := HLY.out
    have s2_ := HLU.out
    have s3_ := HLH.out
    omega
  have ha_H : hiH ≤ lobh := by
    have h0_ := HObh.out
    omega
  have n0_ := Aside0.mk (blk_kept HBarg.out hkp (by have h0_ := HHarg.out; have h1_ := ha_arg; unfold G.Span; omega))
  have n1_ := Aside0.mk (G.S_marked HW.out hkp (.inl ha_W))
  have n2_ := Aside0.mk (blk_kept HBbw.out hkp (by have h0_ := HHbw.out; have h1_ := ha_bw; unfold G.Span; omega))
  have n3_ := Aside0.mk (blk_kept HBbx.out hkp (by have h0_ := HHbx.out; have h1_ := ha_bx; unfold G.Span; omega))
  have n4_ := Aside0.mk (blk_kept HBbg.out hkp (by have h0_ := HHbg.out; have h1_ := ha_bg; unfold G.Span; omega))
  have n5_ := Aside0.mk (G.S_marked HG.out hkp (.inl ha_G))
  have n6_ := Aside0.mk (G.S_marked HH.out hkp (.inl ha_H))
  clear HBarg; have HBarg := n0_; clear n0_
  clear HW; have HW := n1_; clear n1_
  clear HBbw; have HBbw := n2_; clear n2_
  clear HBbx; have HBbx := n3_; clear n3_
  clear HBbg; have HBbg := n4_; clear n4_
  clear HG; have HG := n5_; clear n5_
  clear HH; have HH := n6_; clear n6_
  have np_ := Aside0.mk (Nat.le_trans HP.out hkp.1); have nb_ := Aside0.mk hb1_; clear HP HB hb1_; have HP := np_; have HB := nb_; clear np_ nb_ ha_arg ha_W ha_bw ha_bx ha_bg ha_G ha_H
  have HBbh := Aside0.mk hbk_; clear hbk_ hkp
  clear hcz_arg_0
  clear hfz_arg_0
  clear hcz_arg_1
  clear hfz_arg_1
  clear hcz_arg_2
  clear hfz_arg_2
  clear hcz_bw_0
  clear hfz_bw_0
  clear hcz_bx_0
  clear hfz_bx_0
  clear hcz_bx_1
  clear hfz_bx_1
  clear hcz_bx_2
  clear hfz_bx_2
  clear hcz_bg_0
  clear hfz_bg_0
  clear hcz_bh_0
  clear hfz_bh_0
  clear hnb_arg_bw
  clear hnb_arg_bx
  clear hnb_arg_bg
  clear hnb_arg_bh
  clear hnb_bw_arg
  clear hnb_bw_bx
  clear hnb_bw_bg
  clear hnb_bw_bh
  clear hnb_bx_arg
  clear hnb_bx_bw
  clear hnb_bx_bg
  clear hnb_bx_bh
  clear hnb_bg_arg
  clear hnb_bg_bw
  clear hnb_bg_bx
  clear hnb_bg_bh
  clear hnb_bh_arg
  clear hnb_bh_bw
  clear hnb_bh_bx
  clear hnb_bh_bg
  have hcz_arg_0 : w24_.cell? ⟨loarg, 0, none⟩ = some (.int .i64 a) := (blk_cell HBarg.out 0).trans rfl; have hfz_arg_0 := blk_frozen HBarg.out 0
  have hcz_arg_1 : w24_.cell? ⟨loarg, 1, none⟩ = some (.slice A1 l1.length c1) := (blk_cell HBarg.out 1).trans rfl; have hfz_arg_1 := blk_frozen HBarg.out 1
  have hcz_arg_2 : w24_.cell? ⟨loarg, 2, none⟩ = some (.slice A2 l2.length c2) := (blk_cell HBarg.out 2).trans rfl; have hfz_arg_2 := blk_frozen HBarg.out 2
  have hcz_bw_0 : w24_.cell? ⟨lobw, 0, none⟩ = some (.slice AW R.length cW) := (blk_cell HBbw.out 0).trans rfl; have hfz_bw_0 := blk_frozen HBbw.out 0
  have hcz_bx_0 : w24_.cell? ⟨lobx, 0, none⟩ = some (.int .i64 a) := (blk_cell HBbx.out 0).trans rfl; have hfz_bx_0 := blk_frozen HBbx.out 0
  have hcz_bx_1 : w24_.cell? ⟨lobx, 1, none⟩ = some (.slice AX1 l1.length cX1) := (blk_cell HBbx.out 1).trans rfl; have hfz_bx_1 := blk_frozen HBbx.out 1
  have hcz_bx_2 : w24_.cell? ⟨lobx, 2, none⟩ = some (.slice AX2 l2.length cX2) := (blk_cell HBbx.out 2).trans rfl; have hfz_bx_2 := blk_frozen HBbx.out 2
  have hcz_bg_0 : w24_.cell? ⟨lobg, 0, none⟩ = some (.slice AG R.length cG) := (blk_cell HBbg.out 0).trans rfl; have hfz_bg_0 := blk_frozen HBbg.out 0
  have hcz_bh_0 : w24_.cell? ⟨lobh, 0, none⟩ = some (.slice AH R.length cH) := (blk_cell HBbh.out 0).trans rfl; have hfz_bh_0 := blk_frozen HBbh.out 0
  have ha_ : hiarg ≤ lobw := by
    have h0_ := HOT.out
    have h1_ := HOW.out
    have h2_ := HObw.out
    have s0_ := HLT.out
    have s1_ := HLW.out
    omega
  have hnb_arg_bw : loarg ≠ lobw := by have h0_ := HHarg.out; have h1_ := HHbw.out; omega
  clear ha_
  have ha_ : hiarg ≤ lobx := by
    have h0_ := HOT.out
    have h1_ := HOW.out
    have h2_ := HObw.out
    have h3_ := HOX.out
    have h4_ := HObx.out
    have s0_ := HLT.out
    have s1_ := HLW.out
    have s2_ := HLbw.out
    have s3_ := HLX.out
    omega
  have hnb_arg_bx : loarg ≠ lobx := by have h0_ := HHarg.out; have h1_ := HHbx.out; omega
  clear ha_
  have ha_ : hiarg ≤ lobg := by
    have h0_ := HOT.out
    have h1_ := HOW.out
    have h2_ := HObw.out
    have h3_ := HOX.out
    have h4_ := HObx.out
    have h5_ := HOG.out
    have h6_ := HObg.out
    have s0_ := HLT.out
    have s1_ := HLW.out
    have s2_ := HLbw.out
    have s3_ := HLX.out
    have s4_ := HLbx.out
    have s5_ := HLG.out
    omega
  have hnb_arg_bg : loarg ≠ lobg := by have h0_ := HHarg.out; have h1_ := HHbg.out; omega
  clear ha_
  have ha_ : hiarg ≤ lobh := by
    have h0_ := HOT.out
    have h1_ := HOW.out
    have h2_ := HObw.out
    have h3_ := HOX.out
    have h4_ := HObx.out
    have h5_ := HOG.out
    have h6_ := HObg.out
    have h7_ := HOY.out
    have h8_ := HOU.out
    have h9_ := HOH.out
    have h10_ := HObh.out
    have s0_ := HLT.out
    have s1_ := HLW.out
    have s2_ := HLbw.out
    have s3_ := HLX.out
    have s4_ := HLbx.out
    have s5_ := HLG.out
    have s6_ := HLbg.out
    have s7_ := HLY.out
    have s8_ := HLU.out
    have s9_ := HLH.out
    omega
  have hnb_arg_bh : loarg ≠ lobh := by have h0_ := HHarg.out; have h1_ := HHbh.out; omega
  clear ha_
  have ha_ : hiarg ≤ lobw := by
    have h0_ := HOT.out
    have h1_ := HOW.out
    have h2_ := HObw.out
    have s0_ := HLT.out
    have s1_ := HLW.out
    omega
  have hnb_bw_arg : lobw ≠ loarg := by have h0_ := HHbw.out; have h1_ := HHarg.out; omega
  clear ha_
  have ha_ : hibw ≤ lobx := by
    have h0_ := HOX.out
    have h1_ := HObx.out
    have s0_ := HLX.out
    omega
  have hnb_bw_bx : lobw ≠ lobx := by have h0_ := HHbw.out; have h1_ := HHbx.out; omega
  clear ha_
  have ha_ : hibw ≤ lobg := by
    have h0_ := HOX.out
    have h1_ := HObx.out
    have h2_ := HOG.out
    have h3_ := HObg.out
    have s0_ := HLX.out
    have s1_ := HLbx.out
    have s2_ := HLG.out
    omega
  have hnb_bw_bg : lobw ≠ lobg := by have h0_ := HHbw.out; have h1_ := HHbg.out; omega
  clear ha_
  have ha_ : hibw ≤ lobh := by
    have h0_ := HOX.out
    have h1_ := HObx.out
    have h2_ := HOG.out
    have h3_ := HObg.out
    have h4_ := HOY.out
    have h5_ := HOU.out
    have h6_ := HOH.out
    have h7_ := HObh.out
    have s0_ := HLX.out
    have s1_ := HLbx.out
    have s2_ := HLG.out
    have s3_ := HLbg.out
    have s4_ := HLY.out
    have s5_ := HLU.out
    have s6_ := HLH.out
    omega
  have hnb_bw_bh : lobw ≠ lobh := by have h0_ := HHbw.out; have h1_ := HHbh.out; omega
  clear ha_
  have ha_ : hiarg ≤ lobx := by
    have h0_ := HOT.out
    have h1_ := HOW.out
    have h2_ := HObw.out
    have h3_ := HOX.out
    have h4_ := HObx.out
    have s0_ := HLT.out
    have s1_ := HLW.out
    have s2_ := HLbw.out
    have s3_ := HLX.out
    omega
  have hnb_bx_arg : lobx ≠ loarg := by have h0_ := HHbx.out; have h1_ := HHarg.out; omega
  clear ha_
  have ha_ : hibw ≤ lobx := by
    have h0_ := HOX.out
    have h1_ := HObx.out
    have s0_ := HLX.out
    omega
  have hnb_bx_bw : lobx ≠ lobw := by have h0_ := HHbx.out; have h1_ := HHbw.out; omega
  clear ha_
  have ha_ : hibx ≤ lobg := by
    have h0_ := HOG.out
    have h1_ := HObg.out
    have s0_ := HLG.out
    omega
  have hnb_bx_bg : lobx ≠ lobg := by have h0_ := HHbx.out; have h1_ := HHbg.out; omega
  clear ha_
  have ha_ : hibx ≤ lobh := by
    have h0_ := HOG.out
    have h1_ := HObg.out
    have h2_ := HOY.out
    have h3_ := HOU.out
    have h4_ := HOH.out
    have h5_ := HObh.out
    have s0_ := HLG.out
    have s1_ := HLbg.out
    have s2_ := HLY.out
    have s3_ := HLU.out
    have s4_ := HLH.out
    omega
  have hnb_bx_bh : lobx ≠ lobh := by have h0_ := HHbx.out; have h1_ := HHbh.out; omega
  clear ha_
  have ha_ : hiarg ≤ lobg := by
    have h0_ := HOT.out
    have h1_ := HOW.out
    have h2_ := HObw.out
    have h3_ := HOX.out
    have h4_ := HObx.out
    have h5_ := HOG.out
    have h6_ := HObg.out
    have s0_ := HLT.out
    have s1_ := HLW.out
    have s2_ := HLbw.out
    have s3_ := HLX.out
    have s4_ := HLbx.out
    have s5_ := HLG.out
    omega
  have hnb_bg_arg : lobg ≠ loarg := by have h0_ := HHbg.out; have h1_ := HHarg.out; omega
  clear ha_
  have ha_ : hibw ≤ lobg := by
    have h0_ := HOX.out
    have h1_ := HObx.out
    have h2_ := HOG.out
    have h3_ := HObg.out
    have s0_ := HLX.out
    have s1_ := HLbx.out
    have s2_ := HLG.out
    omega
  have hnb_bg_bw : lobg ≠ lobw := by have h0_ := HHbg.out; have h1_ := HHbw.out; omega
  clear ha_
  have ha_ : hibx ≤ lobg := by
    have h0_ := HOG.out
    have h1_ := HObg.out
    have s0_ := HLG.out
    omega
  have hnb_bg_bx : lobg ≠ lobx := by have h0_ := HHbg.out; have h1_ := HHbx.out; omega
  clear ha_
  have ha_ : hibg ≤ lobh := by
    have h0_ := HOY.out
    have h1_ := HOU.out
    have h2_ := HOH.out
    have h3_ := HObh.out
    have s0_ := HLY.out
    have s1_ := HLU.out
    have s2_ := HLH.out
    omega
  have hnb_bg_bh : lobg ≠ lobh := by have h0_ := HHbg.out; have h1_ := HHbh.out; omega
  clear ha_
  have ha_ : hiarg ≤ lobh := by
    have h0_ := HOT.out
    have h1_ := HOW.out
    have h2_ := HObw.out
    have h3_ := HOX.out
    have h4_ := HObx.out
    have h5_ := HOG.out
    have h6_ := HObg.out
    have h7_ := HOY.out
    have h8_ := HOU.out
    have h9_ := HOH.out
    have h10_ := HObh.out
    have s0_ := HLT.out
    have s1_ := HLW.out
    have s2_ := HLbw.out
    have s3_ := HLX.out
    have s4_ := HLbx.out
    have s5_ := HLG.out
    have s6_ := HLbg.out
    have s7_ := HLY.out
    have s8_ := HLU.out
    have s9_ := HLH.out
    omega
  have hnb_bh_arg : lobh ≠ loarg := by have h0_ := HHbh.out; have h1_ := HHarg.out; omega
  clear ha_
  have ha_ : hibw ≤ lobh := by
    have h0_ := HOX.out
    have h1_ := HObx.out
    have h2_ := HOG.out
    have h3_ := HObg.out
    have h4_ := HOY.out
    have h5_ := HOU.out
    have h6_ := HOH.out
    have h7_ := HObh.out
    have s0_ := HLX.out
    have s1_ := HLbx.out
    have s2_ := HLG.out
    have s3_ := HLbg.out
    have s4_ := HLY.out
    have s5_ := HLU.out
    have s6_ := HLH.out
    omega
  have hnb_bh_bw : lobh ≠ lobw := by have h0_ := HHbh.out; have h1_ := HHbw.out; omega
  clear ha_
  have ha_ : hibx ≤ lobh := by
    have h0_ := HOG.out
    have h1_ := HObg.out
    have h2_ := HOY.out
    have h3_ := HOU.out
    have h4_ := HOH.out
    have h5_ := HObh.out
    have s0_ := HLG.out
    have s1_ := HLbg.out
    have s2_ := HLY.out
    have s3_ := HLU.out
    have s4_ := HLH.out
    omega
  have hnb_bh_bx : lobh ≠ lobx := by have h0_ := HHbh.out; have h1_ := HHbx.out; omega
  clear ha_
  have ha_ : hibg ≤ lobh := by
    have h0_ := HOY.out
    have h1_ := HOU.out
    have h2_ := HOH.out
    have h3_ := HObh.out
    have s0_ := HLY.out
    have s1_ := HLU.out
    have s2_ := HLH.out
    omega
  have hnb_bh_bg : lobh ≠ lobg := by have h0_ := HHbh.out; have h1_ := HHbg.out; omega
  clear ha_
  refine (laws_eqMorphism.calls k _ _ R _ _ R true _ (Kd.S_reads' HH.out).2.2 (Kd.S_reads' HH.out).2.1 (Kd.S_reads' HW.out).2.2 (Kd.S_reads' HW.out).2.1 FE.out).mono ?_
  rintro e w25_ ⟨rfl, hb⟩
  have n0_ := Aside0.mk (blk_below HBarg.out hb)
  have n1_ := Aside0.mk (Kd.S_below HW.out hb)
  have n2_ := Aside0.mk (blk_below HBbw.out hb)
  have n3_ := Aside0.mk (blk_below HBbx.out hb)
  have n4_ := Aside0.mk (blk_below HBbg.out hb)
  have n5_ := Aside0.mk (Kd.S_below HG.out hb)
  have n6_ := Aside0.mk (Kd.S_below HH.out hb)
  have n7_ := Aside0.mk (blk_below HBbh.out hb)
  clear HBarg; have HBarg := n0_; clear n0_
  clear HW; have HW := n1_; clear n1_
  clear HBbw; have HBbw := n2_; clear n2_
  clear HBbx; have HBbx := n3_; clear n3_
  clear HBbg; have HBbg := n4_; clear n4_
  clear HG; have HG := n5_; clear n5_
  clear HH; have HH := n6_; clear n6_
  clear HBbh; have HBbh := n7_; clear n7_
  have nb_ := Aside0.mk (below_step HB.out hb); have np_ := Aside0.mk (Nat.le_trans HP.out hb.size); clear HB HP; have HB := nb_; have HP := np_; clear nb_ np_
  clear hb
  clear hcz_arg_0
  clear hfz_arg_0
  clear hcz_arg_1
  clear hfz_arg_1
  clear hcz_arg_2
  clear hfz_arg_2
  clear hcz_bw_0
  clear hfz_bw_0
  clear hcz_bx_0
  clear hfz_bx_0
  clear hcz_bx_1
  clear hfz_bx_1
  clear hcz_bx_2
  clear hfz_bx_2
  clear hcz_bg_0
  clear hfz_bg_0
  clear hcz_bh_0
  clear hfz_bh_0
  clear hnb_arg_bw
  clear hnb_arg_bx
  clear hnb_arg_bg
  clear hnb_arg_bh
  clear hnb_bw_arg
  clear hnb_bw_bx
  clear hnb_bw_bg
  clear hnb_bw_bh
  clear hnb_bx_arg
  clear hnb_bx_bw
  clear hnb_bx_bg
  clear hnb_bx_bh
  clear hnb_bg_arg
  clear hnb_bg_bw
  clear hnb_bg_bx
  clear hnb_bg_bh
  clear hnb_bh_arg
  clear hnb_bh_bw
  clear hnb_bh_bx
  clear hnb_bh_bg
  have hcz_arg_0 : w25_.cell? ⟨loarg, 0, none⟩ = some (.int .i64 a) := (blk_cell HBarg.out 0).trans rfl; have hfz_arg_0 := blk_frozen HBarg.out 0
  have hcz_arg_1 : w25_.cell? ⟨loarg, 1, none⟩ = some (.slice A1 l1.length c1) := (blk_cell HBarg.out 1).trans rfl; have hfz_arg_1 := blk_frozen HBarg.out 1
  have hcz_arg_2 : w25_.cell? ⟨loarg, 2, none⟩ = some (.slice A2 l2.length c2) := (blk_cell HBarg.out 2).trans rfl; have hfz_arg_2 := blk_frozen HBarg.out 2
  have hcz_bw_0 : w25_.cell? ⟨lobw, 0, none⟩ = some (.slice AW R.length cW) := (blk_cell HBbw.out 0).trans rfl; have hfz_bw_0 := blk_frozen HBbw.out 0
  have hcz_bx_0 : w25_.cell? ⟨lobx, 0, none⟩ = some (.int .i64 a) := (blk_cell HBbx.out 0).trans rfl; have hfz_bx_0 := blk_frozen HBbx.out 0
  have hcz_bx_1 : w25_.cell? ⟨lobx, 1, none⟩ = some (.slice AX1 l1.length cX1) := (blk_cell HBbx.out 1).trans rfl; have hfz_bx_1 := blk_frozen HBbx.out 1
  have hcz_bx_2 : w25_.cell? ⟨lobx, 2, none⟩ = some (.slice AX2 l2.length cX2) := (blk_cell HBbx.out 2).trans rfl; have hfz_bx_2 := blk_frozen HBbx.out 2
  have hcz_bg_0 : w25_.cell? ⟨lobg, 0, none⟩ = some (.slice AG R.length cG) := (blk_cell HBbg.out 0).trans rfl; have hfz_bg_0 := blk_frozen HBbg.out 0
  have hcz_bh_0 : w25_.cell? ⟨lobh, 0, none⟩ = some (.slice AH R.length cH) := (blk_cell HBbh.out 0).trans rfl; have hfz_bh_0 := blk_frozen HBbh.out 0
  have ha_ : hiarg ≤ lobw := by
    have h0_ := HOT.out
    have h1_ := HOW.out
    have h2_ := HObw.out
    have s0_ := HLT.out
    have s1_ := HLW.out
    omega
  have hnb_arg_bw : loarg ≠ lobw := by have h0_ := HHarg.out; have h1_ := HHbw.out; omega
  clear ha_
  have ha_ : hiarg ≤ lobx := by
    have h0_ := HOT.out
    have h1_ := HOW.out
    have h2_ := HObw.out
    have h3_ := HOX.out
    have h4_ := HObx.out
    have s0_ := HLT.out
    have s1_ := HLW.out
    have s2_ := HLbw.out
    have s3_ := HLX.out
    omega
  have hnb_arg_bx : loarg ≠ lobx := by have h0_ := HHarg.out; have h1_ := HHbx.out; omega
  clear ha_
  have ha_ : hiarg ≤ lobg := by
    have h0_ := HOT.out
    have h1_ := HOW.out
    have h2_ := HObw.out
    have h3_ := HOX.out
    have h4_ := HObx.out
    have h5_ := HOG.out
    have h6_ := HObg.out
    have s0_ := HLT.out
    have s1_ := HLW.out
    have s2_ := HLbw.out
    have s3_ := HLX.out
    have s4_ := HLbx.out
    have s5_ := HLG.out
    omega
  have hnb_arg_bg : loarg ≠ lobg := by have h0_ := HHarg.out; have h1_ := HHbg.out; omega
  clear ha_
  have ha_ : hiarg ≤ lobh := by
    have h0_ := HOT.out
    have h1_ := HOW.out
    have h2_ := HObw.out
    have h3_ := HOX.out
    have h4_ := HObx.out
    have h5_ := HOG.out
    have h6_ := HObg.out
    have h7_ := HOY.out
    have h8_ := HOU.out
    have h9_ := HOH.out
    have h10_ := HObh.out
    have s0_ := HLT.out
    have s1_ := HLW.out
    have s2_ := HLbw.out
    have s3_ := HLX.out
    have s4_ := HLbx.out
    have s5_ := HLG.out
    have s6_ := HLbg.out
    have s7_ := HLY.out
    have s8_ := HLU.out
    have s9_ := HLH.out
    omega
  have hnb_arg_bh : loarg ≠ lobh := by have h0_ := HHarg.out; have h1_ := HHbh.out; omega
  clear ha_
  have ha_ : hiarg ≤ lobw := by
    have h0_ := HOT.out
    have h1_ := HOW.out
    have h2_ := HObw.out
    have s0_ := HLT.out
    have s1_ := HLW.out
    omega
  have hnb_bw_arg : lobw ≠ loarg := by have h0_ := HHbw.out; have h1_ := HHarg.out; omega
  clear ha_
  have ha_ : hibw ≤ lobx := by
    have h0_ := HOX.out
    have h1_ := HObx.out
    have s0_ := HLX.out
    omega
  have hnb_bw_bx : lobw ≠ lobx := by have h0_ := HHbw.out; have h1_ := HHbx.out; omega
  clear ha_
  have ha_ : hibw ≤ lobg := by
    have h0_ := HOX.out
    have h1_ := HObx.out
    have h2_ := HOG.out
    have h3_ := HObg.out
    have s0_ := HLX.out
    have s1_ := HLbx.out
    have s2_ := HLG.out
    omega
  have hnb_bw_bg : lobw ≠ lobg := by have h0_ := HHbw.out; have h1_ := HHbg.out; omega
  clear ha_
  have ha_ : hibw ≤ lobh := by
    have h0_ := HOX.out
    have h1_ := HObx.out
    have h2_ := HOG.out
    have h3_ := HObg.out
    have h4_ := HOY.out
    have h5_ := HOU.out
    have h6_ := HOH.out
    have h7_ := HObh.out
    have s0_ := HLX.out
    have s1_ := HLbx.out
    have s2_ := HLG.out
    have s3_ := HLbg.out
    have s4_ := HLY.out
    have s5_ := HLU.out
    have s6_ := HLH.out
    omega
  have hnb_bw_bh : lobw ≠ lobh := by have h0_ := HHbw.out; have h1_ := HHbh.out; omega
  clear ha_
  have ha_ : hiarg ≤ lobx := by
    have h0_ := HOT.out
    have h1_ := HOW.out
    have h2_ := HObw.out
    have h3_ := HOX.out
    have h4_ := HObx.out
    have s0_ := HLT.out
    have s1_ := HLW.out
    have s2_ := HLbw.out
    have s3_ := HLX.out
    omega
  have hnb_bx_arg : lobx ≠ loarg := by have h0_ := HHbx.out; have h1_ := HHarg.out; omega
  clear ha_
  have ha_ : hibw ≤ lobx := by
    have h0_ := HOX.out
    have h1_ := HObx.out
    have s0_ := HLX.out
    omega
  have hnb_bx_bw : lobx ≠ lobw := by have h0_ := HHbx.out; have h1_ := HHbw.out; omega
  clear ha_
  have ha_ : hibx ≤ lobg := by
    have h0_ := HOG.out
    have h1_ := HObg.out
    have s0_ := HLG.out
    omega
  have hnb_bx_bg : lobx ≠ lobg := by have h0_ := HHbx.out; have h1_ := HHbg.out; omega
  clear ha_
  have ha_ : hibx ≤ lobh := by
    have h0_ := HOG.out
    have h1_ := HObg.out
    have h2_ := HOY.out
    have h3_ := HOU.out
    have h4_ := HOH.out
    have h5_ := HObh.out
    have s0_ := HLG.out
    have s1_ := HLbg.out
    have s2_ := HLY.out
    have s3_ := HLU.out
    have s4_ := HLH.out
    omega
  have hnb_bx_bh : lobx ≠ lobh := by have h0_ := HHbx.out; have h1_ := HHbh.out; omega
  clear ha_
  have ha_ : hiarg ≤ lobg := by
    have h0_ := HOT.out
    have h1_ := HOW.out
    have h2_ := HObw.out
    have h3_ := HOX.out
    have h4_ := HObx.out
    have h5_ := HOG.out
    have h6_ := HObg.out
    have s0_ := HLT.out
    have s1_ := HLW.out
    have s2_ := HLbw.out
    have s3_ := HLX.out
    have s4_ := HLbx.out
    have s5_ := HLG.out
    omega
  have hnb_bg_arg : lobg ≠ loarg := by have h0_ := HHbg.out; have h1_ := HHarg.out; omega
  clear ha_
  have ha_ : hibw ≤ lobg := by
    have h0_ := HOX.out
    have h1_ := HObx.out
    have h2_ := HOG.out
    have h3_ := HObg.out
    have s0_ := HLX.out
    have s1_ := HLbx.out
    have s2_ := HLG.out
    omega
  have hnb_bg_bw : lobg ≠ lobw := by have h0_ := HHbg.out; have h1_ := HHbw.out; omega
  clear ha_
  have ha_ : hibx ≤ lobg := by
    have h0_ := HOG.out
    have h1_ := HObg.out
    have s0_ := HLG.out
    omega
  have hnb_bg_bx : lobg ≠ lobx := by have h0_ := HHbg.out; have h1_ := HHbx.out; omega
  clear ha_
  have ha_ : hibg ≤ lobh := by
    have h0_ := HOY.out
    have h1_ := HOU.out
    have h2_ := HOH.out
    have h3_ := HObh.out
    have s0_ := HLY.out
    have s1_ := HLU.out
    have s2_ := HLH.out
    omega
  have hnb_bg_bh : lobg ≠ lobh := by have h0_ := HHbg.out; have h1_ := HHbh.out; omega
  clear ha_
  have ha_ : hiarg ≤ lobh := by
    have h0_ := HOT.out
    have h1_ := HOW.out
    have h2_ := HObw.out
    have h3_ := HOX.out
    have h4_ := HObx.out
    have h5_ := HOG.out
    have h6_ := HObg.out
    have h7_ := HOY.out
    have h8_ := HOU.out
    have h9_ := HOH.out
    have h10_ := HObh.out
    have s0_ := HLT.out
    have s1_ := HLW.out
    have s2_ := HLbw.out
    have s3_ := HLX.out
    have s4_ := HLbx.out
    have s5_ := HLG.out
    have s6_ := HLbg.out
    have s7_ := HLY.out
    have s8_ := HLU.out
    have s9_ := HLH.out
    omega
  have hnb_bh_arg : lobh ≠ loarg := by have h0_ := HHbh.out; have h1_ := HHarg.out; omega
  clear ha_
  have ha_ : hibw ≤ lobh := by
    have h0_ := HOX.out
    have h1_ := HObx.out
    have h2_ := HOG.out
    have h3_ := HObg.out
    have h4_ := HOY.out
    have h5_ := HOU.out
    have h6_ := HOH.out
    have h7_ := HObh.out
    have s0_ := HLX.out
    have s1_ := HLbx.out
    have s2_ := HLG.out
    have s3_ := HLbg.out
    have s4_ := HLY.out
    have s5_ := HLU.out
    have s6_ := HLH.out
    omega
  have hnb_bh_bw : lobh ≠ lobw := by have h0_ := HHbh.out; have h1_ := HHbw.out; omega
  clear ha_
  have ha_ : hibx ≤ lobh := by
    have h0_ := HOG.out
    have h1_ := HObg.out
    have h2_ := HOY.out
    have h3_ := HOU.out
    have h4_ := HOH.out
    have h5_ := HObh.out
    have s0_ := HLG.out
    have s1_ := HLbg.out
    have s2_ := HLY.out
    have s3_ := HLU.out
    have s4_ := HLH.out
    omega
  have hnb_bh_bx : lobh ≠ lobx := by have h0_ := HHbh.out; have h1_ := HHbx.out; omega
  clear ha_
  have ha_ : hibg ≤ lobh := by
    have h0_ := HOY.out
    have h1_ := HOU.out
    have h2_ := HOH.out
    have h3_ := HObh.out
    have s0_ := HLY.out
    have s1_ := HLU.out
    have s2_ := HLH.out
    omega
  have hnb_bh_bg : lobh ≠ lobg := by have h0_ := HHbh.out; have h1_ := HHbg.out; omega
  clear ha_
  go_wp2_with fail
  refine (G_held k _ _ R.length R' 1 mg _ (Kd.S_reads' HG.out).2.2 (Kd.S_reads' HG.out).1 (Kd.S_reads' HG.out).2.1 FH.out).mono ?_
  rintro e w26_ ⟨rfl, hb⟩
  have n0_ := Aside0.mk (blk_below HBarg.out hb)
  have n1_ := Aside0.mk (Kd.S_below HW.out hb)
  have n2_ := Aside0.mk (blk_below HBbw.out hb)
  have n3_ := Aside0.mk (blk_below HBbx.out hb)
  have n4_ := Aside0.mk (blk_below HBbg.out hb)
  have n5_ := Aside0.mk (Kd.S_below HG.out hb)
  have n6_ := Aside0.mk (Kd.S_below HH.out hb)
  have n7_ := Aside0.mk (blk_below HBbh.out hb)
  clear HBarg; have HBarg := n0_; clear n0_
  clear HW; have HW := n1_; clear n1_
  clear HBbw; have HBbw := n2_; clear n2_
  clear HBbx; have HBbx := n3_; clear n3_
  clear HBbg; have HBbg := n4_; clear n4_
  clear HG; have HG := n5_; clear n5_
  clear HH; have HH := n6_; clear n6_
  clear HBbh; have HBbh := n7_; clear n7_
  have nb_ := Aside0.mk (below_step HB.out hb); have np_ := Aside0.mk (Nat.le_trans HP.out hb.size); clear HB HP; have HB := nb_; have HP := np_; clear nb_ np_
  clear hb
  clear hcz_arg_0
  clear hfz_arg_0
  clear hcz_arg_1
  clear hfz_arg_1
  clear hcz_arg_2
  clear hfz_arg_2
  clear hcz_bw_0
  clear hfz_bw_0
  clear hcz_bx_0
  clear hfz_bx_0
  clear hcz_bx_1
  clear hfz_bx_1
  clear hcz_bx_2
  clear hfz_bx_2
  clear hcz_bg_0
  clear hfz_bg_0
  clear hcz_bh_0
  clear hfz_bh_0
  clear hnb_arg_bw
  clear hnb_arg_bx
  clear hnb_arg_bg
  clear hnb_arg_bh
  clear hnb_bw_arg
  clear hnb_bw_bx
  clear hnb_bw_bg
  clear hnb_bw_bh
  clear hnb_bx_arg
  clear hnb_bx_bw
  clear hnb_bx_bg
  clear hnb_bx_bh
  clear hnb_bg_arg
  clear hnb_bg_bw
  clear hnb_bg_bx
  clear hnb_bg_bh
  clear hnb_bh_arg
  clear hnb_bh_bw
  clear hnb_bh_bx
  clear hnb_bh_bg
  have hcz_arg_0 : w26_.cell? ⟨loarg, 0, none⟩ = some (.int .i64 a) := (blk_cell HBarg.out 0).trans rfl; have hfz_arg_0 := blk_frozen HBarg.out 0
  have hcz_arg_1 : w26_.cell? ⟨loarg, 1, none⟩ = some (.slice A1 l1.length c1) := (blk_cell HBarg.out 1).trans rfl; have hfz_arg_1 := blk_frozen HBarg.out 1
  have hcz_arg_2 : w26_.cell? ⟨loarg, 2, none⟩ = some (.slice A2 l2.length c2) := (blk_cell HBarg.out 2).trans rfl; have hfz_arg_2 := blk_frozen HBarg.out 2
  have hcz_bw_0 : w26_.cell? ⟨lobw, 0, none⟩ = some (.slice AW R.length cW) := (blk_cell HBbw.out 0).trans rfl; have hfz_bw_0 := blk_frozen HBbw.out 0
  have hcz_bx_0 : w26_.cell? ⟨lobx, 0, none⟩ = some (.int .i64 a) := (blk_cell HBbx.out 0).trans rfl; have hfz_bx_0 := blk_frozen HBbx.out 0
  have hcz_bx_1 : w26_.cell? ⟨lobx, 1, none⟩ = some (.slice AX1 l1.length cX1) := (blk_cell HBbx.out 1).trans rfl; have hfz_bx_1 := blk_frozen HBbx.out 1
  have hcz_bx_2 : w26_.cell? ⟨lobx, 2, none⟩ = some (.slice AX2 l2.length cX2) := (blk_cell HBbx.out 2).trans rfl; have hfz_bx_2 := blk_frozen HBbx.out 2
  have hcz_bg_0 : w26_.cell? ⟨lobg, 0, none⟩ = some (.slice AG R.length cG) := (blk_cell HBbg.out 0).trans rfl; have hfz_bg_0 := blk_frozen HBbg.out 0
  have hcz_bh_0 : w26_.cell? ⟨lobh, 0, none⟩ = some (.slice AH R.length cH) := (blk_cell HBbh.out 0).trans rfl; have hfz_bh_0 := blk_frozen HBbh.out 0
  have ha_ : hiarg ≤ lobw := by
    have h0_ := HOT.out
    have h1_ := HOW.out
    have h2_ := HObw.out
    have s0_ := HLT.out
    have s1_ := HLW.out
    omega
  have hnb_arg_bw : loarg ≠ lobw := by have h0_ := HHarg.out; have h1_ := HHbw.out; omega
  clear ha_
  have ha_ : hiarg ≤ lobx := by
    have h0_ := HOT.out
    have h1_ := HOW.out
    have h2_ := HObw.out
    have h3_ := HOX.out
    have h4_ := HObx.out
    have s0_ := HLT.out
    have s1_ := HLW.out
    have s2_ := HLbw.out
    have s3_ := HLX.out
    omega
  have hnb_arg_bx : loarg ≠ lobx := by have h0_ := HHarg.out; have h1_ := HHbx.out; omega
  clear ha_
  have ha_ : hiarg ≤ lobg := by
    have h0_ := HOT.out
    have h1_ := HOW.out
    have h2_ := HObw.out
    have h3_ := HOX.out
    have h4_ := HObx.out
    have h5_ := HOG.out
    have h6_ := HObg.out
    have s0_ := HLT.out
    have s1_ := HLW.out
    have s2_ := HLbw.out
    have s3_ := HLX.out
    have s4_ := HLbx.out
    have s5_ := HLG.out
    omega
  have hnb_arg_bg : loarg ≠ lobg := by have h0_ := HHarg.out; have h1_ := HHbg.out; omega
  clear ha_
  have ha_ : hiarg ≤ lobh := by
    have h0_ := HOT.out
    have h1_ := HOW.out
    have h2_ := HObw.out
    have h3_ := HOX.out
    have h4_ := HObx.out
    have h5_ := HOG.out
    have h6_ := HObg.out
    have h7_ := HOY.out
    have h8_ := HOU.out
    have h9_ := HOH.out
    have h10_ := HObh.out
    have s0_ := HLT.out
    have s1_ := HLW.out
    have s2_ := HLbw.out
    have s3_ := HLX.out
    have s4_ := HLbx.out
    have s5_ := HLG.out
    have s6_ := HLbg.out
    have s7_ := HLY.out
    have s8_ := HLU.out
    have s9_ := HLH.out
    omega
  have hnb_arg_bh : loarg ≠ lobh := by have h0_ := HHarg.out; have h1_ := HHbh.out; omega
  clear ha_
  have ha_ : hiarg ≤ lobw := by
    have h0_ := HOT.out
    have h1_ := HOW.out
    have h2_ := HObw.out
    have s0_ := HLT.out
    have s1_ := HLW.out
    omega
  have hnb_bw_arg : lobw ≠ loarg := by have h0_ := HHbw.out; have h1_ := HHarg.out; omega
  clear ha_
  have ha_ : hibw ≤ lobx := by
    have h0_ := HOX.out
    have h1_ := HObx.out
    have s0_ := HLX.out
    omega
  have hnb_bw_bx : lobw ≠ lobx := by have h0_ := HHbw.out; have h1_ := HHbx.out; omega
  clear ha_
  have ha_ : hibw ≤ lobg := by
    have h0_ := HOX.out
    have h1_ := HObx.out
    have h2_ := HOG.out
    have h3_ := HObg.out
    have s0_ := HLX.out
    have s1_ := HLbx.out
    have s2_ := HLG.out
    omega
  have hnb_bw_bg : lobw ≠ lobg := by have h0_ := HHbw.out; have h1_ := HHbg.out; omega
  clear ha_
  have ha_ : hibw ≤ lobh := by
    have h0_ := HOX.out
    have h1_ := HObx.out
    have h2_ := HOG.out
    have h3_ := HObg.out
    have h4_ := HOY.out
    have h5_ := HOU.out
    have h6_ := HOH.out
    have h7_ := HObh.out
    have s0_ := HLX.out
    have s1_ := HLbx.out
    have s2_ := HLG.out
    have s3_ := HLbg.out
    have s4_ := HLY.out
    have s5_ := HLU.out
    have s6_ := HLH.out
    omega
  have hnb_bw_bh : lobw ≠ lobh := by have h0_ := HHbw.out; have h1_ := HHbh.out; omega
  clear ha_
  have ha_ : hiarg ≤ lobx := by
    have h0_ := HOT.out
    have h1_ := HOW.out
    have h2_ := HObw.out
    have h3_ := HOX.out
    have h4_ := HObx.out
    have s0_ := HLT.out
    have s1_ := HLW.out
    have s2_ := HLbw.out
    have s3_ := HLX.out
    omega
  have hnb_bx_arg : lobx ≠ loarg := by have h0_ := HHbx.out; have h1_ := HHarg.out; omega
  clear ha_
  have ha_ : hibw ≤ lobx := by
    have h0_ := HOX.out
    have h1_ := HObx.out
    have s0_ := HLX.out
    omega
  have hnb_bx_bw : lobx ≠ lobw := by have h0_ := HHbx.out; have h1_ := HHbw.out; omega
  clear ha_
  have ha_ : hibx ≤ lobg := by
    have h0_ := HOG.out
    have h1_ := HObg.out
    have s0_ := HLG.out
    omega
  have hnb_bx_bg : lobx ≠ lobg := by have h0_ := HHbx.out; have h1_ := HHbg.out; omega
  clear ha_
  have ha_ : hibx ≤ lobh := by
    have h0_ := HOG.out
    have h1_ := HObg.out
    have h2_ := HOY.out
    have h3_ := HOU.out
    have h4_ := HOH.out
    have h5_ := HObh.out
    have s0_ := HLG.out
    have s1_ := HLbg.out
    have s2_ := HLY.out
    have s3_ := HLU.out
    have s4_ := HLH.out
    omega
  have hnb_bx_bh : lobx ≠ lobh := by have h0_ := HHbx.out; have h1_ := HHbh.out; omega
  clear ha_
  have ha_ : hiarg ≤ lobg := by
    have h0_ := HOT.out
    have h1_ := HOW.out
    have h2_ := HObw.out
    have h3_ := HOX.out
    have h4_ := HObx.out
    have h5_ := HOG.out
    have h6_ := HObg.out
    have s0_ := HLT.out
    have s1_ := HLW.out
    have s2_ := HLbw.out
    have s3_ := HLX.out
    have s4_ := HLbx.out
    have s5_ := HLG.out
    omega
  have hnb_bg_arg : lobg ≠ loarg := by have h0_ := HHbg.out; have h1_ := HHarg.out; omega
  clear ha_
  have ha_ : hibw ≤ lobg := by
    have h0_ := HOX.out
    have h1_ := HObx.out
    have h2_ := HOG.out
    have h3_ := HObg.out
    have s0_ := HLX.out
    have s1_ := HLbx.out
    have s2_ := HLG.out
    omega
  have hnb_bg_bw : lobg ≠ lobw := by have h0_ := HHbg.out; have h1_ := HHbw.out; omega
  clear ha_
  have ha_ : hibx ≤ lobg := by
    have h0_ := HOG.out
    have h1_ := HObg.out
    have s0_ := HLG.out
    omega
  have hnb_bg_bx : lobg ≠ lobx := by have h0_ := HHbg.out; have h1_ := HHbx.out; omega
  clear ha_
  have ha_ : hibg ≤ lobh := by
    have h0_ := HOY.out
    have h1_ := HOU.out
    have h2_ := HOH.out
    have h3_ := HObh.out
    have s0_ := HLY.out
    have s1_ := HLU.out
    have s2_ := HLH.out
    omega
  have hnb_bg_bh : lobg ≠ lobh := by have h0_ := HHbg.out; have h1_ := HHbh.out; omega
  clear ha_
  have ha_ : hiarg ≤ lobh := by
    have h0_ := HOT.out
    have h1_ := HOW.out
    have h2_ := HObw.out
    have h3_ := HOX.out
    have h4_ := HObx.out
    have h5_ := HOG.out
    have h6_ := HObg.out
    have h7_ := HOY.out
    have h8_ := HOU.out
    have h9_ := HOH.out
    have h10_ := HObh.out
    have s0_ := HLT.out
    have s1_ := HLW.out
    have s2_ := HLbw.out
    have s3_ := HLX.out
    have s4_ := HLbx.out
    have s5_ := HLG.out
    have s6_ := HLbg.out
    have s7_ := HLY.out
    have s8_ := HLU.out
    have s9_ := HLH.out
    omega
  have hnb_bh_arg : lobh ≠ loarg := by have h0_ := HHbh.out; have h1_ := HHarg.out; omega
  clear ha_
  have ha_ : hibw ≤ lobh := by
    have h0_ := HOX.out
    have h1_ := HObx.out
    have h2_ := HOG.out
    have h3_ := HObg.out
    have h4_ := HOY.out
    have h5_ := HOU.out
    have h6_ := HOH.out
    have h7_ := HObh.out
    have s0_ := HLX.out
    have s1_ := HLbx.out
    have s2_ := HLG.out
    have s3_ := HLbg.out
    have s4_ := HLY.out
    have s5_ := HLU.out
    have s6_ := HLH.out
    omega
  have hnb_bh_bw : lobh ≠ lobw := by have h0_ := HHbh.out; have h1_ := HHbw.out; omega
  clear ha_
  have ha_ : hibx ≤ lobh := by
    have h0_ := HOG.out
    have h1_ := HObg.out
    have h2_ := HOY.out
    have h3_ := HOU.out
    have h4_ := HOH.out
    have h5_ := HObh.out
    have s0_ := HLG.out
    have s1_ := HLbg.out
    have s2_ := HLY.out
    have s3_ := HLU.out
    have s4_ := HLH.out
    omega
  have hnb_bh_bx : lobh ≠ lobx := by have h0_ := HHbh.out; have h1_ := HHbx.out; omega
  clear ha_
  have ha_ : hibg ≤ lobh := by
    have h0_ := HOY.out
    have h1_ := HOU.out
    have h2_ := HOH.out
    have h3_ := HObh.out
    have s0_ := HLY.out
    have s1_ := HLU.out
    have s2_ := HLH.out
    omega
  have hnb_bh_bg : lobh ≠ lobg := by have h0_ := HHbh.out; have h1_ := HHbg.out; omega
  clear ha_
  go_wp2
  go_ret
  exact ⟨rfl, HB.out⟩

set_option maxHeartbeats 4000000 in
set_option maxRecDepth 100000 in
theorem laws_MorphismOf.neg (k : Nat) (a : Int) (A1 : Option Addr) (c1 : Nat) (l1 : List (List Int)) (A2 : Option Addr) (c2 : Nat) (l2 : List Int) (t : Int) (w : World) (hr1 : Kd.C (Kd.slice 3 (Kd.int .i64)) w A1 l1.length l1) (hc1 : l1.length ≤ c1) (hr2 : Kd.C (Kd.int .i64) w A2 l2.length l2) (hc2 : l2.length ≤ c2) (hZ : laws_szSequence.f k a l1 l2 1048576 = some t) (ht : t < 0) :
    Calls Try.prog 6 #[.agg #[.int .i64 a, .slice A1 l1.length c1, .slice A2 l2.length c2]] w fun e w' => e = .returned (.bool true) ∧ Below w.heap.size w w' := by
  have HA1 := Aside0.mk hr1; have HC1 := Aside0.mk hc1; have HA2 := Aside0.mk hr2; have HC2 := Aside0.mk hc2; have FZ := Aside0.mk hZ
  have HB := Aside0.mk (Below.refl w.heap.size w); have HP := Aside0.mk (Nat.le_refl w.heap.size)
  have hq0 : decide (t < 0) = true := by simp; omega
  clear hr1 hc1 hr2 hc2 hZ ht
  have hu0 := Try.underlying47
  go_enter Try.func6, Try.ntmps6
  go_wp2_with (first | (
    (with_reducible refine gate_dst (N := 1) rfl ?_); refine box_event ?hg (N := 1) ?hd (cs := #[.int .i64 a, .slice A1 l1.length c1, .slice A2 l2.length c2]) (t := 47) ?hr ?_; (case hd => rfl); (case hg => rfl); (case hr => first | (go_simp; done) | (go_simp; rfl))
    intro loarg hg w1_ hbox hb
    obtain ⟨hiarg, hh_⟩ : ∃ h, h = loarg + 1 := ⟨_, rfl⟩
    have hp_ : w.heap.size ≤ loarg := by rw [hg]; exact HP.out
    have hl_ : loarg ≤ hiarg := by omega
    have hs_ : hiarg ≤ w1_.heap.size := by rw [hh_]; exact blk_lt hbox
    have HGarg := Aside0.mk (show w.heap.size ≤ loarg from by rw [hg]; exact HB.out.size)
    have nb_ := Aside0.mk (below_step HB.out hb); have np_ := Aside0.mk (Nat.le_trans HP.out hb.size); clear HB HP; have HB := nb_; have HP := np_; clear nb_ np_
    have HHarg := Aside0.mk hh_
    have HOarg := Aside0.mk hp_; have HLarg := Aside0.mk hl_; clear HP; have HP := Aside0.mk hs_; clear hp_ hl_ hs_
    have HBarg := Aside0.mk hbox; clear hbox hb hg hh_
    have hcz_arg_0 : w1_.cell? ⟨loarg, 0, none⟩ = some (.int .i64 a) := (blk_cell HBarg.out 0).trans rfl; have hfz_arg_0 := blk_frozen HBarg.out 0
    have hcz_arg_1 : w1_.cell? ⟨loarg, 1, none⟩ = some (.slice A1 l1.length c1) := (blk_cell HBarg.out 1).trans rfl; have hfz_arg_1 := blk_frozen HBarg.out 1
    have hcz_arg_2 : w1_.cell? ⟨loarg, 2, none⟩ = some (.slice A2 l2.length c2) := (blk_cell HBarg.out 2).trans rfl; have hfz_arg_2 := blk_frozen HBarg.out 2))
  refine (laws_szSequence.calls k a _ _ l1 _ _ l2 1048576 t _ (Kd.C_below HA1.out HB.out) HC1.out (Kd.C_below HA2.out HB.out) HC2.out FZ.out).mono ?_
  rintro e w2_ ⟨rfl, hb⟩
  have n0_ := Aside0.mk (blk_below HBarg.out hb)
  clear HBarg; have HBarg := n0_; clear n0_
  have nb_ := Aside0.mk (below_step HB.out hb); have np_ := Aside0.mk (Nat.le_trans HP.out hb.size); clear HB HP; have HB := nb_; have HP := np_; clear nb_ np_
  clear hb
  clear hcz_arg_0
  clear hfz_arg_0
  clear hcz_arg_1
  clear hfz_arg_1
  clear hcz_arg_2
  clear hfz_arg_2
  have hcz_arg_0 : w2_.cell? ⟨loarg, 0, none⟩ = some (.int .i64 a) := (blk_cell HBarg.out 0).trans rfl; have hfz_arg_0 := blk_frozen HBarg.out 0
  have hcz_arg_1 : w2_.cell? ⟨loarg, 1, none⟩ = some (.slice A1 l1.length c1) := (blk_cell HBarg.out 1).trans rfl; have hfz_arg_1 := blk_frozen HBarg.out 1
  have hcz_arg_2 : w2_.cell? ⟨loarg, 2, none⟩ = some (.slice A2 l2.length c2) := (blk_cell HBarg.out 2).trans rfl; have hfz_arg_2 := blk_frozen HBarg.out 2
  go_wp2
  go_ret
  exact ⟨rfl, HB.out⟩

end Go.Proofs.Ytolikggioekalaa.PFnExactMorphismOf
