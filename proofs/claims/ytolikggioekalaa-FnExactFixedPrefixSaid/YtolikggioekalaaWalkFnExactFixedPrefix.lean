/- The law FnExactFixedPrefix, walked call by call: where its pure parts answer as told, it answers true. No condition beyond those written. -/
import Derived.Test.YtolikggioekalaaMFnExactFixedPrefixx0
import Derived.Test.YtolikggioekalaaMFnExactFixedPrefixx1
import Derived.Test.YtolikggioekalaaMFnExactFixedPrefixx2
import Derived.Test.YtolikggioekalaaMFnExactFixedPrefixx3
import Derived.Test.YtolikggioekalaaMFnExactFixedPrefixx4
import Derived.Test.YtolikggioekalaaMFnExactFixedPrefixx5
import Derived.Test.YtolikggioekalaaMFnExactFixedPrefixx6
import Derived.Test.YtolikggioekalaaMFnExactFixedPrefixx7
import Derived.Test.YtolikggioekalaaGLaw
import Derived.Test.YtolikggioekalaaGLaw2
namespace Go.Proofs.Ytolikggioekalaa.PFnExactFixedPrefix
open Go.RowKit Go.Proofs.YtolikggioekalaaW.PrintWords Go.Proofs.YtolikggioekalaaW.PrintLast Go.Proofs.YtolikggioekalaaW.PrintMore
set_option linter.unusedVariables false
set_option linter.unusedSimpArgs false

/-- The check of marks, by whatever name the length goes. -/
theorem G_held (k : Nat) (A0 : Option Addr) (c0 n : Nat) (l0 : List Int) (a1 r : Int) (w : World) (hr0 : Kd.C (Kd.int .i64) w A0 l0.length l0) (hn : n = l0.length) (hc0 : n ≤ c0) (h : laws_heldIntS.f k l0 a1 = some r) :
    Calls Try.prog 30 #[.slice A0 n c0, .int .i64 a1] w fun e w' => e = .returned (.int .i64 r) ∧ Drawn0 w w' := by
  subst hn
  exact laws_heldIntS.calls k A0 c0 l0 a1 r w hr0 hc0 h

set_option maxHeartbeats 16000000 in
set_option maxRecDepth 100000 in
theorem laws_FixedPrefix.neg (k : Nat) (A1 : Option Addr) (c1 : Nat) (l1 : List (List Int)) (a n : Int) (t : Int) (w : World) (hr1 : Kd.C (Kd.slice 3 (Kd.int .i64)) w A1 l1.length l1) (hc1 : l1.length ≤ c1) (hZ : laws_szMorphism.f k l1 1048576 = some t) (ht : t < 0) :
    Calls Try.prog 7 #[.agg #[.slice A1 l1.length c1], .int .i64 a, .int .i64 n] w fun e w' => e = .returned (.bool true) ∧ Below w.heap.size w w' := by
  have FZ := Aside0.mk hZ
  have hq0 : decide (t < 0) = true := by simp; omega
  clear hZ ht
  have HA1 := Aside0.mk hr1; have HC1 := Aside0.mk hc1
  have HB := Aside0.mk (Below.refl w.heap.size w); have HP := Aside0.mk (Nat.le_refl w.heap.size)
  clear hr1 hc1
  have hu0 := Try.underlying24; have hu1 := Try.underlying27
  go_enter Try.func7, Try.ntmps7
  go_wp2_with (first | (
    (with_reducible refine gate_dst (N := 3) rfl ?_); refine box_event ?hg (N := 3) ?hd (cs := #[.slice A1 l1.length c1]) (t := 24) ?hr ?_; (case hd => rfl); (case hg => rfl); (case hr => first | (go_simp; done) | (go_simp; rfl))
    intro loarg hg w1_ hbox hb
    obtain ⟨hiarg, hh_⟩ : ∃ h, h = loarg + 1 := ⟨_, rfl⟩
    have hp_ : w.heap.size ≤ loarg := by rw [hg]; exact HP.out
    have hl_ : loarg ≤ hiarg := by omega
    have hs_ : hiarg ≤ w1_.heap.size := by rw [hh_]; exact blk_lt hbox
    have HGarg := Aside0.mk (show w.heap.size ≤ loarg from by rw [hg]; exact HB.out.size)
    have nb_ := Aside0.mk (below_step HB.out hb); have np_ := Aside0.mk (Nat.le_trans HP.out hb.size); clear HB HP; have HB := nb_; have HP := np_; clear nb_ np_
    have HHarg := Aside0.mk hh_
    have HOarg := Aside0.mk hp_; have HLarg := Aside0.mk hl_; clear HP; have HP := Aside0.mk hs_; clear hp_ hl_ hs_
    have HBarg := Aside0.mk hbox; clear hbox hb hg hh_
    have hcz_arg_0 : w1_.cell? ⟨loarg, 0, none⟩ = some (.slice A1 l1.length c1) := (blk_cell HBarg.out 0).trans rfl; have hfz_arg_0 := blk_frozen HBarg.out 0))
  refine (laws_szMorphism.calls k _ _ l1 1048576 t _ (Kd.C_below HA1.out HB.out) HC1.out FZ.out).mono ?_
  rintro e w2_ ⟨rfl, hb⟩
  have n0_ := Aside0.mk (blk_below HBarg.out hb)
  clear HBarg; have HBarg := n0_; clear n0_
  have nb_ := Aside0.mk (below_step HB.out hb); have np_ := Aside0.mk (Nat.le_trans HP.out hb.size); clear HB HP; have HB := nb_; have HP := np_; clear nb_ np_
  clear hb
  clear hcz_arg_0
  clear hfz_arg_0
  have hcz_arg_0 : w2_.cell? ⟨loarg, 0, none⟩ = some (.slice A1 l1.length c1) := (blk_cell HBarg.out 0).trans rfl; have hfz_arg_0 := blk_frozen HBarg.out 0
  go_wp2
  go_ret
  exact ⟨rfl, HB.out⟩

set_option maxHeartbeats 16000000 in
set_option maxRecDepth 100000 in
theorem laws_FixedPrefix.calls (k : Nat) (A1 : Option Addr) (c1 : Nat) (l1 : List (List Int)) (a n : Int) (R R' : List Int) (b : Bool) (t mx mg : Int) (x1 : List (List Int)) (w : World) (hr1 : Kd.C (Kd.slice 3 (Kd.int .i64)) w A1 l1.length l1) (hc1 : l1.length ≤ c1) (ht : 0 ≤ t) (hmx : 0 ≤ mx) (hmg : 0 ≤ mg) (hFZ : laws_szMorphism.f k l1 1048576 = some t) (hFT : laws_toMorphism.f k l1 = some l1) (hFS : spec_FixedPrefix.f k l1 a n = some (R, b)) (hFI : impl_FixedPrefix.f k l1 a n = some (R, b)) (hFE : laws_eqIntS.f k R R = some true) (hFQ : laws_eqMorphism.f k l1 l1 = some true) (hFM : laws_markMorphism.f k l1 1 = some (mx, x1)) (hFMR : laws_markIntS.f k R 1 = some (mg, R')) (hFH : laws_heldIntS.f k R' 1 = some mg) :
    Calls Try.prog 7 #[.agg #[.slice A1 l1.length c1], .int .i64 a, .int .i64 n] w fun e w' => e = .returned (.bool true) ∧ Below w.heap.size w w' := by
  have FZ := Aside0.mk hFZ; have FT := Aside0.mk hFT; have FS := Aside0.mk hFS; have FI := Aside0.mk hFI; have FE := Aside0.mk hFE; have FQ := Aside0.mk hFQ; have FM := Aside0.mk hFM; have FMR := Aside0.mk hFMR; have FH := Aside0.mk hFH
  clear hFZ hFT hFS hFI hFE hFQ hFM hFMR hFH
  have hq0 : decide (t < 0) = false := by simp; omega
  have hq1 : decide (mx < 0) = false := by simp; omega
  have hq2 : decide (mg < 0) = false := by simp; omega
  clear ht hmx hmg
  have HA1 := Aside0.mk hr1; have HC1 := Aside0.mk hc1
  have HB := Aside0.mk (Below.refl w.heap.size w); have HP := Aside0.mk (Nat.le_refl w.heap.size)
  clear hr1 hc1
  have hu0 := Try.underlying24; have hu1 := Try.underlying27
  go_enter Try.func7, Try.ntmps7
  go_wp2_with (first | (
    (with_reducible refine gate_dst (N := 3) rfl ?_); refine box_event ?hg (N := 3) ?hd (cs := #[.slice A1 l1.length c1]) (t := 24) ?hr ?_; (case hd => rfl); (case hg => rfl); (case hr => first | (go_simp; done) | (go_simp; rfl))
    intro loarg hg w1_ hbox hb
    obtain ⟨hiarg, hh_⟩ : ∃ h, h = loarg + 1 := ⟨_, rfl⟩
    have hp_ : w.heap.size ≤ loarg := by rw [hg]; exact HP.out
    have hl_ : loarg ≤ hiarg := by omega
    have hs_ : hiarg ≤ w1_.heap.size := by rw [hh_]; exact blk_lt hbox
    have HGarg := Aside0.mk (show w.heap.size ≤ loarg from by rw [hg]; exact HB.out.size)
    have nb_ := Aside0.mk (below_step HB.out hb); have np_ := Aside0.mk (Nat.le_trans HP.out hb.size); clear HB HP; have HB := nb_; have HP := np_; clear nb_ np_
    have HHarg := Aside0.mk hh_
    have HOarg := Aside0.mk hp_; have HLarg := Aside0.mk hl_; clear HP; have HP := Aside0.mk hs_; clear hp_ hl_ hs_
    have HBarg := Aside0.mk hbox; clear hbox hb hg hh_
    have hcz_arg_0 : w1_.cell? ⟨loarg, 0, none⟩ = some (.slice A1 l1.length c1) := (blk_cell HBarg.out 0).trans rfl; have hfz_arg_0 := blk_frozen HBarg.out 0))
  refine (laws_szMorphism.calls k _ _ l1 1048576 t _ (Kd.C_below HA1.out HB.out) HC1.out FZ.out).mono ?_
  rintro e w2_ ⟨rfl, hb⟩
  have n0_ := Aside0.mk (blk_below HBarg.out hb)
  clear HBarg; have HBarg := n0_; clear n0_
  have nb_ := Aside0.mk (below_step HB.out hb); have np_ := Aside0.mk (Nat.le_trans HP.out hb.size); clear HB HP; have HB := nb_; have HP := np_; clear nb_ np_
  clear hb
  clear hcz_arg_0
  clear hfz_arg_0
  have hcz_arg_0 : w2_.cell? ⟨loarg, 0, none⟩ = some (.slice A1 l1.length c1) := (blk_cell HBarg.out 0).trans rfl; have hfz_arg_0 := blk_frozen HBarg.out 0
  go_wp2_with fail
  refine (laws_toMorphism.calls k _ _ l1 l1 _ (Kd.C_below HA1.out HB.out) HC1.out FT.out).mono ?_
  rintro e w3_ ⟨v1_, rfl, hoT, hb⟩
  obtain ⟨loT, hiT, hlo_, hhi_, hp_, hl_, hs_⟩ := G.span_of hb HP.out
  have hT := G.S_in hoT HB.out hlo_ hhi_
  have n0_ := Aside0.mk (blk_below HBarg.out hb)
  clear HBarg; have HBarg := n0_; clear n0_
  have nb_ := Aside0.mk (below_step HB.out hb); have np_ := Aside0.mk (Nat.le_trans HP.out hb.size); clear HB HP; have HB := nb_; have HP := np_; clear nb_ np_
  clear hoT hb hlo_ hhi_
  have HOT := Aside0.mk hp_; have HLT := Aside0.mk hl_; clear HP; have HP := Aside0.mk hs_; clear hp_ hl_ hs_
  obtain ⟨AT, cT, eT⟩ := Kd.S_slice hT; subst eT
  have HT := Aside0.mk hT; clear hT
  clear hcz_arg_0
  clear hfz_arg_0
  have hcz_arg_0 : w3_.cell? ⟨loarg, 0, none⟩ = some (.slice A1 l1.length c1) := (blk_cell HBarg.out 0).trans rfl; have hfz_arg_0 := blk_frozen HBarg.out 0
  go_wp2_with fail
  refine (spec_FixedPrefix.calls k _ _ l1 a n R b _ (Kd.S_reads' HT.out).2.2 (Kd.S_reads' HT.out).2.1 FS.out).mono ?_
  rintro e w4_ ⟨v1_, rfl, hoW, hb⟩
  obtain ⟨loW, hiW, hlo_, hhi_, hp_, hl_, hs_⟩ := G.span_of hb HP.out
  have hW := G.R_in hoW HB.out hlo_ hhi_
  have n0_ := Aside0.mk (blk_below HBarg.out hb)
  have n1_ := Aside0.mk (Kd.S_below HT.out hb)
  clear HBarg; have HBarg := n0_; clear n0_
  clear HT; have HT := n1_; clear n1_
  have nb_ := Aside0.mk (below_step HB.out hb); have np_ := Aside0.mk (Nat.le_trans HP.out hb.size); clear HB HP; have HB := nb_; have HP := np_; clear nb_ np_
  clear hoW hb hlo_ hhi_
  have HOW := Aside0.mk hp_; have HLW := Aside0.mk hl_; clear HP; have HP := Aside0.mk hs_; clear hp_ hl_ hs_
  obtain ⟨AW, cW, eW⟩ := Kd.R_slice hW; subst eW
  have HW := Aside0.mk hW; clear hW
  clear hcz_arg_0
  clear hfz_arg_0
  have hcz_arg_0 : w4_.cell? ⟨loarg, 0, none⟩ = some (.slice A1 l1.length c1) := (blk_cell HBarg.out 0).trans rfl; have hfz_arg_0 := blk_frozen HBarg.out 0
  clear HT
  go_wp2_with fail
  refine (laws_toMorphism.calls k _ _ l1 l1 _ (Kd.C_below HA1.out HB.out) HC1.out FT.out).mono ?_
  rintro e w5_ ⟨v1_, rfl, hoX, hb⟩
  obtain ⟨loX, hiX, hlo_, hhi_, hp_, hl_, hs_⟩ := G.span_of hb HP.out
  have hX := G.S_in hoX HB.out hlo_ hhi_
  have n0_ := Aside0.mk (blk_below HBarg.out hb)
  have n1_ := Aside0.mk (Kd.R_below HW.out hb)
  clear HBarg; have HBarg := n0_; clear n0_
  clear HW; have HW := n1_; clear n1_
  have nb_ := Aside0.mk (below_step HB.out hb); have np_ := Aside0.mk (Nat.le_trans HP.out hb.size); clear HB HP; have HB := nb_; have HP := np_; clear nb_ np_
  clear hoX hb hlo_ hhi_
  have HOX := Aside0.mk hp_; have HLX := Aside0.mk hl_; clear HP; have HP := Aside0.mk hs_; clear hp_ hl_ hs_
  obtain ⟨AX, cX, eX⟩ := Kd.S_slice hX; subst eX
  have HX := Aside0.mk hX; clear hX
  clear hcz_arg_0
  clear hfz_arg_0
  have hcz_arg_0 : w5_.cell? ⟨loarg, 0, none⟩ = some (.slice A1 l1.length c1) := (blk_cell HBarg.out 0).trans rfl; have hfz_arg_0 := blk_frozen HBarg.out 0
  go_wp2_with (first | (
    (with_reducible refine gate_dst (N := 10) rfl ?_); refine box_event ?hg (N := 10) ?hd (cs := #[.slice none 0 0]) (t := 27) ?hr ?_; (case hd => rfl); (case hg => rfl); (case hr => first | (go_simp; done) | (go_simp; rfl))
    intro lobx hg w6_ hbox hb
    obtain ⟨hibx, hh_⟩ : ∃ h, h = lobx + 1 := ⟨_, rfl⟩
    have hp_ : hiX ≤ lobx := by rw [hg]; exact HP.out
    have hl_ : lobx ≤ hibx := by omega
    have hs_ : hibx ≤ w6_.heap.size := by rw [hh_]; exact blk_lt hbox
    have HGbx := Aside0.mk (show w.heap.size ≤ lobx from by rw [hg]; exact HB.out.size)
    have n0_ := Aside0.mk (blk_below HBarg.out hb)
    have n1_ := Aside0.mk (Kd.R_below HW.out hb)
    have n2_ := Aside0.mk (Kd.S_below HX.out hb)
    clear HBarg; have HBarg := n0_; clear n0_
    clear HW; have HW := n1_; clear n1_
    clear HX; have HX := n2_; clear n2_
    have nb_ := Aside0.mk (below_step HB.out hb); have np_ := Aside0.mk (Nat.le_trans HP.out hb.size); clear HB HP; have HB := nb_; have HP := np_; clear nb_ np_
    have HHbx := Aside0.mk hh_
    have HObx := Aside0.mk hp_; have HLbx := Aside0.mk hl_; clear HP; have HP := Aside0.mk hs_; clear hp_ hl_ hs_
    have HBbx := Aside0.mk hbox; clear hbox hb hg hh_
    clear hcz_arg_0
    clear hfz_arg_0
    have hcz_arg_0 : w6_.cell? ⟨loarg, 0, none⟩ = some (.slice A1 l1.length c1) := (blk_cell HBarg.out 0).trans rfl; have hfz_arg_0 := blk_frozen HBarg.out 0
    have hcz_bx_0 : w6_.cell? ⟨lobx, 0, none⟩ = some (.slice none 0 0) := (blk_cell HBbx.out 0).trans rfl; have hfz_bx_0 := blk_frozen HBbx.out 0
    have ha_ : hiarg ≤ lobx := by
      have h0_ := HOT.out
      have h1_ := HOW.out
      have h2_ := HOX.out
      have h3_ := HObx.out
      have s0_ := HLT.out
      have s1_ := HLW.out
      have s2_ := HLX.out
      omega
    have hnb_arg_bx : loarg ≠ lobx := by have h0_ := HHarg.out; have h1_ := HHbx.out; omega
    clear ha_
    have ha_ : hiarg ≤ lobx := by
      have h0_ := HOT.out
      have h1_ := HOW.out
      have h2_ := HOX.out
      have h3_ := HObx.out
      have s0_ := HLT.out
      have s1_ := HLW.out
      have s2_ := HLX.out
      omega
    have hnb_bx_arg : lobx ≠ loarg := by have h0_ := HHbx.out; have h1_ := HHarg.out; omega
    clear ha_))
  refine G.genC (F := fun w1 => Kept w6_ w1 (G.Span lobx hibx) ∧ Below w.heap.size w w1 ∧ w1.heap[lobx]? = some (.cells #[.slice AX l1.length cX] 27 (0, 0))) ⟨?k0, ?k1, ?k2⟩ ?_
  case k0 => exact (by have hh_ := HHbx.out; repeat (first | exact Kept.refl _ _ | refine Kept.setCell ?_ (.inl ⟨Nat.le_refl _, by show lobx < hibx; omega⟩) _ | refine Kept.drewN ?_ _ | refine Kept.drew ?_))
  case k1 => exact (by repeat (first | (with_reducible first | exact HB.out | apply below_drew1 | apply pw_below_drewN | refine below_set ?_ HGbx.out) | exact HB.out))
  case k2 => exact (by (with_reducible repeat (first | refine blk_drewN ?_ _ | refine blk_drew ?_)); refine blk_put (cs := #[.slice none 0 0]) ?_ 0 _ rfl; (with_reducible repeat (first | refine blk_drewN ?_ _ | refine blk_drew ?_)); exact HBbx.out)
  rintro w7_ ⟨hkp, hb1_, hbk_⟩
  clear HBbx
  have ha_arg : hiarg ≤ lobx := by
    have h0_ := HOT.out
    have h1_ := HOW.out
    have h2_ := HOX.out
    have h3_ := HObx.out
    have s0_ := HLT.out
    have s1_ := HLW.out
    have s2_ := HLX.out
    omega
  have ha_W : hiW ≤ lobx := by
    have h0_ := HOX.out
    have h1_ := HObx.out
    have s0_ := HLX.out
    omega
  have ha_X : hiX ≤ lobx := by
    have h0_ := HObx.out
    omega
  have n0_ := Aside0.mk (blk_kept HBarg.out hkp (by have h0_ := HHarg.out; have h1_ := ha_arg; unfold G.Span; omega))
  have n1_ := Aside0.mk (G.R_marked HW.out hkp (.inl ha_W))
  have n2_ := Aside0.mk (G.S_marked HX.out hkp (.inl ha_X))
  clear HBarg; have HBarg := n0_; clear n0_
  clear HW; have HW := n1_; clear n1_
  clear HX; have HX := n2_; clear n2_
  have np_ := Aside0.mk (Nat.le_trans HP.out hkp.1); have nb_ := Aside0.mk hb1_; clear HP HB hb1_; have HP := np_; have HB := nb_; clear np_ nb_ ha_arg ha_W ha_X
  have HBbx := Aside0.mk hbk_; clear hbk_ hkp
  clear hcz_arg_0
  clear hfz_arg_0
  clear hcz_bx_0
  clear hfz_bx_0
  clear hnb_arg_bx
  clear hnb_bx_arg
  have hcz_arg_0 : w7_.cell? ⟨loarg, 0, none⟩ = some (.slice A1 l1.length c1) := (blk_cell HBarg.out 0).trans rfl; have hfz_arg_0 := blk_frozen HBarg.out 0
  have hcz_bx_0 : w7_.cell? ⟨lobx, 0, none⟩ = some (.slice AX l1.length cX) := (blk_cell HBbx.out 0).trans rfl; have hfz_bx_0 := blk_frozen HBbx.out 0
  have ha_ : hiarg ≤ lobx := by
    have h0_ := HOT.out
    have h1_ := HOW.out
    have h2_ := HOX.out
    have h3_ := HObx.out
    have s0_ := HLT.out
    have s1_ := HLW.out
    have s2_ := HLX.out
    omega
  have hnb_arg_bx : loarg ≠ lobx := by have h0_ := HHarg.out; have h1_ := HHbx.out; omega
  clear ha_
  have ha_ : hiarg ≤ lobx := by
    have h0_ := HOT.out
    have h1_ := HOW.out
    have h2_ := HOX.out
    have h3_ := HObx.out
    have s0_ := HLT.out
    have s1_ := HLW.out
    have s2_ := HLX.out
    omega
  have hnb_bx_arg : lobx ≠ loarg := by have h0_ := HHbx.out; have h1_ := HHarg.out; omega
  clear ha_
  refine (impl_FixedPrefix.calls k _ _ l1 a n R b _ (Kd.S_reads' HX.out).2.2 (Kd.S_reads' HX.out).2.1 FI.out).mono ?_
  rintro e w8_ ⟨v1_, rfl, hoG, hb⟩
  obtain ⟨loG, hiG, hlo_, hhi_, hp_, hl_, hs_⟩ := G.span_of hb HP.out
  have hG := G.R_in hoG HB.out hlo_ hhi_
  have n0_ := Aside0.mk (blk_below HBarg.out hb)
  have n1_ := Aside0.mk (Kd.R_below HW.out hb)
  have n2_ := Aside0.mk (Kd.S_below HX.out hb)
  have n3_ := Aside0.mk (blk_below HBbx.out hb)
  clear HBarg; have HBarg := n0_; clear n0_
  clear HW; have HW := n1_; clear n1_
  clear HX; have HX := n2_; clear n2_
  clear HBbx; have HBbx := n3_; clear n3_
  have nb_ := Aside0.mk (below_step HB.out hb); have np_ := Aside0.mk (Nat.le_trans HP.out hb.size); clear HB HP; have HB := nb_; have HP := np_; clear nb_ np_
  clear hoG hb hlo_ hhi_
  have HOG := Aside0.mk hp_; have HLG := Aside0.mk hl_; clear HP; have HP := Aside0.mk hs_; clear hp_ hl_ hs_
  obtain ⟨AG, cG, eG⟩ := Kd.R_slice hG; subst eG
  have HG := Aside0.mk hG; clear hG
  clear hcz_arg_0
  clear hfz_arg_0
  clear hcz_bx_0
  clear hfz_bx_0
  clear hnb_arg_bx
  clear hnb_bx_arg
  have hcz_arg_0 : w8_.cell? ⟨loarg, 0, none⟩ = some (.slice A1 l1.length c1) := (blk_cell HBarg.out 0).trans rfl; have hfz_arg_0 := blk_frozen HBarg.out 0
  have hcz_bx_0 : w8_.cell? ⟨lobx, 0, none⟩ = some (.slice AX l1.length cX) := (blk_cell HBbx.out 0).trans rfl; have hfz_bx_0 := blk_frozen HBbx.out 0
  have ha_ : hiarg ≤ lobx := by
    have h0_ := HOT.out
    have h1_ := HOW.out
    have h2_ := HOX.out
    have h3_ := HObx.out
    have s0_ := HLT.out
    have s1_ := HLW.out
    have s2_ := HLX.out
    omega
  have hnb_arg_bx : loarg ≠ lobx := by have h0_ := HHarg.out; have h1_ := HHbx.out; omega
  clear ha_
  have ha_ : hiarg ≤ lobx := by
    have h0_ := HOT.out
    have h1_ := HOW.out
    have h2_ := HOX.out
    have h3_ := HObx.out
    have s0_ := HLT.out
    have s1_ := HLW.out
    have s2_ := HLX.out
    omega
  have hnb_bx_arg : lobx ≠ loarg := by have h0_ := HHbx.out; have h1_ := HHarg.out; omega
  clear ha_
  go_wp2_with fail
  refine (laws_eqIntS.calls k _ _ R _ _ R true _ (Kd.R_reads' HG.out).2.2 (Kd.R_reads' HG.out).2.1 (Kd.R_reads' HW.out).2.2 (Kd.R_reads' HW.out).2.1 FE.out).mono ?_
  rintro e w9_ ⟨rfl, hd⟩
  have hb := G.drawn_below hd
  clear hd
  have n0_ := Aside0.mk (blk_below HBarg.out hb)
  have n1_ := Aside0.mk (Kd.R_below HW.out hb)
  have n2_ := Aside0.mk (Kd.S_below HX.out hb)
  have n3_ := Aside0.mk (blk_below HBbx.out hb)
  have n4_ := Aside0.mk (Kd.R_below HG.out hb)
  clear HBarg; have HBarg := n0_; clear n0_
  clear HW; have HW := n1_; clear n1_
  clear HX; have HX := n2_; clear n2_
  clear HBbx; have HBbx := n3_; clear n3_
  clear HG; have HG := n4_; clear n4_
  have nb_ := Aside0.mk (below_step HB.out hb); have np_ := Aside0.mk (Nat.le_trans HP.out hb.size); clear HB HP; have HB := nb_; have HP := np_; clear nb_ np_
  clear hb
  clear hcz_arg_0
  clear hfz_arg_0
  clear hcz_bx_0
  clear hfz_bx_0
  clear hnb_arg_bx
  clear hnb_bx_arg
  have hcz_arg_0 : w9_.cell? ⟨loarg, 0, none⟩ = some (.slice A1 l1.length c1) := (blk_cell HBarg.out 0).trans rfl; have hfz_arg_0 := blk_frozen HBarg.out 0
  have hcz_bx_0 : w9_.cell? ⟨lobx, 0, none⟩ = some (.slice AX l1.length cX) := (blk_cell HBbx.out 0).trans rfl; have hfz_bx_0 := blk_frozen HBbx.out 0
  have ha_ : hiarg ≤ lobx := by
    have h0_ := HOT.out
    have h1_ := HOW.out
    have h2_ := HOX.out
    have h3_ := HObx.out
    have s0_ := HLT.out
    have s1_ := HLW.out
    have s2_ := HLX.out
    omega
  have hnb_arg_bx : loarg ≠ lobx := by have h0_ := HHarg.out; have h1_ := HHbx.out; omega
  clear ha_
  have ha_ : hiarg ≤ lobx := by
    have h0_ := HOT.out
    have h1_ := HOW.out
    have h2_ := HOX.out
    have h3_ := HObx.out
    have s0_ := HLT.out
    have s1_ := HLW.out
    have s2_ := HLX.out
    omega
  have hnb_bx_arg : lobx ≠ loarg := by have h0_ := HHbx.out; have h1_ := HHarg.out; omega
  clear ha_
  go_wp2_with fail
  clear hcz_arg_0
  clear hfz_arg_0
  clear hcz_bx_0
  clear hfz_bx_0
  clear hnb_arg_bx
  clear hnb_bx_arg
  have n0_ := Aside0.mk (blk_drew HBarg.out)
  have n1_ := Aside0.mk (Kd.R_drew HW.out)
  have n2_ := Aside0.mk (Kd.S_drew HX.out)
  have n3_ := Aside0.mk (blk_drew HBbx.out)
  have n4_ := Aside0.mk (Kd.R_drew HG.out)
  clear HBarg; have HBarg := n0_; clear n0_
  clear HW; have HW := n1_; clear n1_
  clear HX; have HX := n2_; clear n2_
  clear HBbx; have HBbx := n3_; clear n3_
  clear HG; have HG := n4_; clear n4_
  have nb_ := Aside0.mk (below_drew1 HB.out); have np_ := Aside0.mk (show hiG ≤ w9_.drew.heap.size from HP.out); clear HB HP; have HB := nb_; have HP := np_; clear nb_ np_
  refine start_ (n := 5) (S := fun w' => w'.cell? ⟨lobx, 0, none⟩ = some (.slice AX l1.length cX) ∧ w'.cell? ⟨loarg, 0, none⟩ = some (.slice A1 l1.length c1)) (ds := []) #[false, false, false, false, false] (by kernel_rfl) rfl rfl ⟨(blk_cell HBbx.out 0).trans rfl, (blk_cell HBarg.out 0).trans rfl⟩ (fun hHeld => ?_)
  generalize w9_.drew = w10_ at HBarg HW HX HBbx HG HB HP hHeld ⊢
  refine take_ (i := 0) (N := some 49) (v := ?_) (a' := ?_) #[true, false, false, false, false] rfl rfl (by kernel_rfl) (fun _ _ _ h => h) (Or.inl ⟨by rfl, ?_⟩) hHeld ?_ ?_
  rotate_left
  · rintro w' ⟨s0, s1⟩; go_simp; with_reducible rfl
  rotate_left
  · simp only [Act.put, List.setIfInBounds_toArray, List.set_cons_zero, List.set_cons_succ, i64_w, i32_w]; rfl
  refine take_ (i := 1) (N := some 50) (v := ?_) (a' := ?_) #[true, true, false, false, false] rfl rfl (by kernel_rfl) (fun _ _ _ h => h) (Or.inl ⟨by rfl, ?_⟩) hHeld ?_ ?_
  rotate_left
  · rintro w' ⟨s0, s1⟩; go_simp; with_reducible rfl
  rotate_left
  · simp only [Act.put, List.setIfInBounds_toArray, List.set_cons_zero, List.set_cons_succ, i64_w, i32_w]; rfl
  refine one_ (i := 2) (N := some 51) #[true, true, true, false, false] rfl rfl (by kernel_rfl) (by decide) (fun K hK => ?_)
  refine goes_ Try.func17 (by kernel_rfl) rfl #[.agg #[.slice A1 l1.length c1]] (by rfl) rfl rfl (by (try simp only [List.map_toArray, List.map_cons, List.map_nil]); first | done | rfl | (simp only [List.length_drop, List.length_take]; rfl)) ?_
  refine (laws_toMorphism.calls k _ _ l1 l1 _ (Kd.C_below HA1.out HB.out) HC1.out FT.out).mono ?_
  rintro e w11_ ⟨v1_, rfl, hoY, hb⟩
  refine ⟨_, rfl, ?_⟩
  obtain ⟨loY, hiY, hlo_, hhi_, hp_, hl_, hs_⟩ := G.span_of hb HP.out
  have hY := G.S_in hoY HB.out hlo_ hhi_
  have n0_ := Aside0.mk (blk_below HBarg.out hb)
  have n1_ := Aside0.mk (Kd.R_below HW.out hb)
  have n2_ := Aside0.mk (Kd.S_below HX.out hb)
  have n3_ := Aside0.mk (blk_below HBbx.out hb)
  have n4_ := Aside0.mk (Kd.R_below HG.out hb)
  clear HBarg; have HBarg := n0_; clear n0_
  clear HW; have HW := n1_; clear n1_
  clear HX; have HX := n2_; clear n2_
  clear HBbx; have HBbx := n3_; clear n3_
  clear HG; have HG := n4_; clear n4_
  have nb_ := Aside0.mk (below_step HB.out hb); have np_ := Aside0.mk (Nat.le_trans HP.out hb.size); clear HB HP; have HB := nb_; have HP := np_; clear nb_ np_
  clear hoY hb hlo_ hhi_
  have HOY := Aside0.mk hp_; have HLY := Aside0.mk hl_; clear HP; have HP := Aside0.mk hs_; clear hp_ hl_ hs_
  obtain ⟨AY, cY, eY⟩ := Kd.S_slice hY; subst eY
  have HY := Aside0.mk hY; clear hY
  refine hK.out _ _ ⟨(blk_cell HBbx.out 0).trans rfl, (blk_cell HBarg.out 0).trans rfl⟩ (fun hHeld => ?_)
  refine norm_ (a' := ?_) ?_ ?_
  rotate_left
  · show Act.put _ (some 51) _ = _; simp only [Act.put, List.setIfInBounds_toArray, List.set_cons_zero, List.set_cons_succ, i64_w, i32_w]; rfl
  refine one_ (i := 3) (N := some 52) #[true, true, true, true, false] rfl rfl (by kernel_rfl) (by decide) (fun K hK => ?_)
  refine goes_ Try.func19 (by kernel_rfl) rfl #[.agg #[.slice AX l1.length cX], .agg #[.slice AY l1.length cY]] (by rfl) rfl rfl (by (try simp only [List.map_toArray, List.map_cons, List.map_nil]); first | done | rfl | (simp only [List.length_drop, List.length_take]; rfl)) ?_
  refine (laws_eqMorphism.calls k _ _ l1 _ _ l1 true _ (Kd.S_reads' HX.out).2.2 (Kd.S_reads' HX.out).2.1 (Kd.S_reads' HY.out).2.2 (Kd.S_reads' HY.out).2.1 FQ.out).mono ?_
  rintro e w12_ ⟨rfl, hb⟩
  refine ⟨_, rfl, ?_⟩
  have n0_ := Aside0.mk (blk_below HBarg.out hb)
  have n1_ := Aside0.mk (Kd.R_below HW.out hb)
  have n2_ := Aside0.mk (Kd.S_below HX.out hb)
  have n3_ := Aside0.mk (blk_below HBbx.out hb)
  have n4_ := Aside0.mk (Kd.R_below HG.out hb)
  have n5_ := Aside0.mk (Kd.S_below HY.out hb)
  clear HBarg; have HBarg := n0_; clear n0_
  clear HW; have HW := n1_; clear n1_
  clear HX; have HX := n2_; clear n2_
  clear HBbx; have HBbx := n3_; clear n3_
  clear HG; have HG := n4_; clear n4_
  clear HY; have HY := n5_; clear n5_
  have nb_ := Aside0.mk (below_step HB.out hb); have np_ := Aside0.mk (Nat.le_trans HP.out hb.size); clear HB HP; have HB := nb_; have HP := np_; clear nb_ np_
  clear hb
  refine hK.out _ _ ⟨(blk_cell HBbx.out 0).trans rfl, (blk_cell HBarg.out 0).trans rfl⟩ (fun hHeld => ?_)
  refine norm_ (a' := ?_) ?_ ?_
  rotate_left
  · show Act.put _ (some 52) _ = _; simp only [Act.put, List.setIfInBounds_toArray, List.set_cons_zero, List.set_cons_succ, i64_w, i32_w]; rfl
  refine pure_ (i := 4) (N := some 53) (v := ?_) (a' := ?_) #[true, true, true, true, true] rfl rfl (by kernel_rfl) (fun _ _ _ h => h) (Or.inl ⟨by rfl, ?_⟩) ?_ ?_
  rotate_left
  · intro w'; go_simp; with_reducible rfl
  rotate_left
  · simp only [Act.put, List.setIfInBounds_toArray, List.set_cons_zero, List.set_cons_succ, i64_w, i32_w]; rfl
  refine done_ (by kernel_rfl) ?_
  have hcz_arg_0 : w12_.cell? ⟨loarg, 0, none⟩ = some (.slice A1 l1.length c1) := (blk_cell HBarg.out 0).trans rfl; have hfz_arg_0 := blk_frozen HBarg.out 0
  have hcz_bx_0 : w12_.cell? ⟨lobx, 0, none⟩ = some (.slice AX l1.length cX) := (blk_cell HBbx.out 0).trans rfl; have hfz_bx_0 := blk_frozen HBbx.out 0
  have ha_ : hiarg ≤ lobx := by
    have h0_ := HOT.out
    have h1_ := HOW.out
    have h2_ := HOX.out
    have h3_ := HObx.out
    have s0_ := HLT.out
    have s1_ := HLW.out
    have s2_ := HLX.out
    omega
  have hnb_arg_bx : loarg ≠ lobx := by have h0_ := HHarg.out; have h1_ := HHbx.out; omega
  clear ha_
  have ha_ : hiarg ≤ lobx := by
    have h0_ := HOT.out
    have h1_ := HOW.out
    have h2_ := HOX.out
    have h3_ := HObx.out
    have s0_ := HLT.out
    have s1_ := HLW.out
    have s2_ := HLX.out
    omega
  have hnb_bx_arg : lobx ≠ loarg := by have h0_ := HHbx.out; have h1_ := HHarg.out; omega
  clear ha_
  clear HY
  go_wp2_with fail
  refine (laws_markMorphism.calls k (G.Span loX hiX) _ l1 1 mx x1 w _ HB.out HX.out FM.out).mono ?_
  rintro e w13_ ⟨rfl, hy_, hb1_, hkp0_⟩
  have hkp := Kept.mono hkp0_ (fun _ h_ => h_); clear hkp0_
  clear HX
  have ha_arg : hiarg ≤ loX := by
    have h0_ := HOT.out
    have h1_ := HOW.out
    have h2_ := HOX.out
    have s0_ := HLT.out
    have s1_ := HLW.out
    omega
  have ha_W : hiW ≤ loX := by
    have h0_ := HOX.out
    omega
  have ha_bx : hiX ≤ lobx := by
    have h0_ := HObx.out
    omega
  have ha_G : hiX ≤ loG := by
    have h0_ := HObx.out
    have h1_ := HOG.out
    have s0_ := HLbx.out
    omega
  have n0_ := Aside0.mk (blk_kept HBarg.out hkp (by have h0_ := HHarg.out; have h1_ := ha_arg; unfold G.Span; omega))
  have n1_ := Aside0.mk (G.R_marked HW.out hkp (.inl ha_W))
  have n2_ := Aside0.mk (blk_kept HBbx.out hkp (by have h0_ := HHbx.out; have h1_ := ha_bx; unfold G.Span; omega))
  have n3_ := Aside0.mk (G.R_marked HG.out hkp (.inr ha_G))
  clear HBarg; have HBarg := n0_; clear n0_
  clear HW; have HW := n1_; clear n1_
  clear HBbx; have HBbx := n2_; clear n2_
  clear HG; have HG := n3_; clear n3_
  have np_ := Aside0.mk (Nat.le_trans HP.out hkp.1); have nb_ := Aside0.mk hb1_; clear HP HB hb1_; have HP := np_; have HB := nb_; clear np_ nb_ ha_arg ha_W ha_bx ha_G
  clear hkp hy_
  clear hcz_arg_0
  clear hfz_arg_0
  clear hcz_bx_0
  clear hfz_bx_0
  clear hnb_arg_bx
  clear hnb_bx_arg
  have hcz_arg_0 : w13_.cell? ⟨loarg, 0, none⟩ = some (.slice A1 l1.length c1) := (blk_cell HBarg.out 0).trans rfl; have hfz_arg_0 := blk_frozen HBarg.out 0
  have hcz_bx_0 : w13_.cell? ⟨lobx, 0, none⟩ = some (.slice AX l1.length cX) := (blk_cell HBbx.out 0).trans rfl; have hfz_bx_0 := blk_frozen HBbx.out 0
  have ha_ : hiarg ≤ lobx := by
    have h0_ := HOT.out
    have h1_ := HOW.out
    have h2_ := HOX.out
    have h3_ := HObx.out
    have s0_ := HLT.out
    have s1_ := HLW.out
    have s2_ := HLX.out
    omega
  have hnb_arg_bx : loarg ≠ lobx := by have h0_ := HHarg.out; have h1_ := HHbx.out; omega
  clear ha_
  have ha_ : hiarg ≤ lobx := by
    have h0_ := HOT.out
    have h1_ := HOW.out
    have h2_ := HOX.out
    have h3_ := HObx.out
    have s0_ := HLT.out
    have s1_ := HLW.out
    have s2_ := HLX.out
    omega
  have hnb_bx_arg : lobx ≠ loarg := by have h0_ := HHbx.out; have h1_ := HHarg.out; omega
  clear ha_
  go_wp2_with fail
  refine (laws_eqIntS.calls k _ _ R _ _ R true _ (Kd.R_reads' HG.out).2.2 (Kd.R_reads' HG.out).2.1 (Kd.R_reads' HW.out).2.2 (Kd.R_reads' HW.out).2.1 FE.out).mono ?_
  rintro e w14_ ⟨rfl, hd⟩
  have hb := G.drawn_below hd
  clear hd
  have n0_ := Aside0.mk (blk_below HBarg.out hb)
  have n1_ := Aside0.mk (Kd.R_below HW.out hb)
  have n2_ := Aside0.mk (blk_below HBbx.out hb)
  have n3_ := Aside0.mk (Kd.R_below HG.out hb)
  clear HBarg; have HBarg := n0_; clear n0_
  clear HW; have HW := n1_; clear n1_
  clear HBbx; have HBbx := n2_; clear n2_
  clear HG; have HG := n3_; clear n3_
  have nb_ := Aside0.mk (below_step HB.out hb); have np_ := Aside0.mk (Nat.le_trans HP.out hb.size); clear HB HP; have HB := nb_; have HP := np_; clear nb_ np_
  clear hb
  clear hcz_arg_0
  clear hfz_arg_0
  clear hcz_bx_0
  clear hfz_bx_0
  clear hnb_arg_bx
  clear hnb_bx_arg
  have hcz_arg_0 : w14_.cell? ⟨loarg, 0, none⟩ = some (.slice A1 l1.length c1) := (blk_cell HBarg.out 0).trans rfl; have hfz_arg_0 := blk_frozen HBarg.out 0
  have hcz_bx_0 : w14_.cell? ⟨lobx, 0, none⟩ = some (.slice AX l1.length cX) := (blk_cell HBbx.out 0).trans rfl; have hfz_bx_0 := blk_frozen HBbx.out 0
  have ha_ : hiarg ≤ lobx := by
    have h0_ := HOT.out
    have h1_ := HOW.out
    have h2_ := HOX.out
    have h3_ := HObx.out
    have s0_ := HLT.out
    have s1_ := HLW.out
    have s2_ := HLX.out
    omega
  have hnb_arg_bx : loarg ≠ lobx := by have h0_ := HHarg.out; have h1_ := HHbx.out; omega
  clear ha_
  have ha_ : hiarg ≤ lobx := by
    have h0_ := HOT.out
    have h1_ := HOW.out
    have h2_ := HOX.out
    have h3_ := HObx.out
    have s0_ := HLT.out
    have s1_ := HLW.out
    have s2_ := HLX.out
    omega
  have hnb_bx_arg : lobx ≠ loarg := by have h0_ := HHbx.out; have h1_ := HHarg.out; omega
  clear ha_
  go_wp2_with fail
  refine (laws_markIntS.calls k (G.Span loG hiG) _ R 1 mg R' w _ HB.out HG.out FMR.out).mono ?_
  rintro e w15_ ⟨rfl, hy_, hb1_, hkp0_⟩
  have hkp := Kept.mono hkp0_ (fun _ h_ => h_); clear hkp0_
  have m0_ := Aside0.mk (G.R_marked' rfl HG.out hy_)
  clear HG
  have ha_arg : hiarg ≤ loG := by
    have h0_ := HOT.out
    have h1_ := HOW.out
    have h2_ := HOX.out
    have h3_ := HObx.out
    have h4_ := HOG.out
    have s0_ := HLT.out
    have s1_ := HLW.out
    have s2_ := HLX.out
    have s3_ := HLbx.out
    omega
  have ha_W : hiW ≤ loG := by
    have h0_ := HOX.out
    have h1_ := HObx.out
    have h2_ := HOG.out
    have s0_ := HLX.out
    have s1_ := HLbx.out
    omega
  have ha_bx : hibx ≤ loG := by
    have h0_ := HOG.out
    omega
  have n0_ := Aside0.mk (blk_kept HBarg.out hkp (by have h0_ := HHarg.out; have h1_ := ha_arg; unfold G.Span; omega))
  have n1_ := Aside0.mk (G.R_marked HW.out hkp (.inl ha_W))
  have n2_ := Aside0.mk (blk_kept HBbx.out hkp (by have h0_ := HHbx.out; have h1_ := ha_bx; unfold G.Span; omega))
  clear HBarg; have HBarg := n0_; clear n0_
  clear HW; have HW := n1_; clear n1_
  clear HBbx; have HBbx := n2_; clear n2_
  have np_ := Aside0.mk (Nat.le_trans HP.out hkp.1); have nb_ := Aside0.mk hb1_; clear HP HB hb1_; have HP := np_; have HB := nb_; clear np_ nb_ ha_arg ha_W ha_bx
  clear hkp hy_
  have HG := m0_; clear m0_
  clear hcz_arg_0
  clear hfz_arg_0
  clear hcz_bx_0
  clear hfz_bx_0
  clear hnb_arg_bx
  clear hnb_bx_arg
  have hcz_arg_0 : w15_.cell? ⟨loarg, 0, none⟩ = some (.slice A1 l1.length c1) := (blk_cell HBarg.out 0).trans rfl; have hfz_arg_0 := blk_frozen HBarg.out 0
  have hcz_bx_0 : w15_.cell? ⟨lobx, 0, none⟩ = some (.slice AX l1.length cX) := (blk_cell HBbx.out 0).trans rfl; have hfz_bx_0 := blk_frozen HBbx.out 0
  have ha_ : hiarg ≤ lobx := by
    have h0_ := HOT.out
    have h1_ := HOW.out
    have h2_ := HOX.out
    have h3_ := HObx.out
    have s0_ := HLT.out
    have s1_ := HLW.out
    have s2_ := HLX.out
    omega
  have hnb_arg_bx : loarg ≠ lobx := by have h0_ := HHarg.out; have h1_ := HHbx.out; omega
  clear ha_
  have ha_ : hiarg ≤ lobx := by
    have h0_ := HOT.out
    have h1_ := HOW.out
    have h2_ := HOX.out
    have h3_ := HObx.out
    have s0_ := HLT.out
    have s1_ := HLW.out
    have s2_ := HLX.out
    omega
  have hnb_bx_arg : lobx ≠ loarg := by have h0_ := HHbx.out; have h1_ := HHarg.out; omega
  clear ha_
  go_wp2_with fail
  refine (G_held k _ _ R.length R' 1 mg _ (Kd.R_reads' HG.out).2.2 (Kd.R_reads' HG.out).1 (Kd.R_reads' HG.out).2.1 FH.out).mono ?_
  rintro e w16_ ⟨rfl, hd⟩
  have hb := G.drawn_below hd
  clear hd
  have n0_ := Aside0.mk (blk_below HBarg.out hb)
  have n1_ := Aside0.mk (Kd.R_below HW.out hb)
  have n2_ := Aside0.mk (blk_below HBbx.out hb)
  have n3_ := Aside0.mk (Kd.R_below HG.out hb)
  clear HBarg; have HBarg := n0_; clear n0_
  clear HW; have HW := n1_; clear n1_
  clear HBbx; have HBbx := n2_; clear n2_
  clear HG; have HG := n3_; clear n3_
  have nb_ := Aside0.mk (below_step HB.out hb); have np_ := Aside0.mk (Nat.le_trans HP.out hb.size); clear HB HP; have HB := nb_; have HP := np_; clear nb_ np_
  clear hb
  clear hcz_arg_0
  clear hfz_arg_0
  clear hcz_bx_0
  clear hfz_bx_0
  clear hnb_arg_bx
  clear hnb_bx_arg
  have hcz_arg_0 : w16_.cell? ⟨loarg, 0, none⟩ = some (.slice A1 l1.length c1) := (blk_cell HBarg.out 0).trans rfl; have hfz_arg_0 := blk_frozen HBarg.out 0
  have hcz_bx_0 : w16_.cell? ⟨lobx, 0, none⟩ = some (.slice AX l1.length cX) := (blk_cell HBbx.out 0).trans rfl; have hfz_bx_0 := blk_frozen HBbx.out 0
  have ha_ : hiarg ≤ lobx := by
    have h0_ := HOT.out
    have h1_ := HOW.out
    have h2_ := HOX.out
    have h3_ := HObx.out
    have s0_ := HLT.out
    have s1_ := HLW.out
    have s2_ := HLX.out
    omega
  have hnb_arg_bx : loarg ≠ lobx := by have h0_ := HHarg.out; have h1_ := HHbx.out; omega
  clear ha_
  have ha_ : hiarg ≤ lobx := by
    have h0_ := HOT.out
    have h1_ := HOW.out
    have h2_ := HOX.out
    have h3_ := HObx.out
    have s0_ := HLT.out
    have s1_ := HLW.out
    have s2_ := HLX.out
    omega
  have hnb_bx_arg : lobx ≠ loarg := by have h0_ := HHbx.out; have h1_ := HHarg.out; omega
  clear ha_
  go_wp2_with fail
  refine (laws_toMorphism.calls k _ _ l1 l1 _ (Kd.C_below HA1.out HB.out) HC1.out FT.out).mono ?_
  rintro e w17_ ⟨v1_, rfl, hoU, hb⟩
  obtain ⟨loU, hiU, hlo_, hhi_, hp_, hl_, hs_⟩ := G.span_of hb HP.out
  have hU := G.S_in hoU HB.out hlo_ hhi_
  have n0_ := Aside0.mk (blk_below HBarg.out hb)
  have n1_ := Aside0.mk (Kd.R_below HW.out hb)
  have n2_ := Aside0.mk (blk_below HBbx.out hb)
  have n3_ := Aside0.mk (Kd.R_below HG.out hb)
  clear HBarg; have HBarg := n0_; clear n0_
  clear HW; have HW := n1_; clear n1_
  clear HBbx; have HBbx := n2_; clear n2_
  clear HG; have HG := n3_; clear n3_
  have nb_ := Aside0.mk (below_step HB.out hb); have np_ := Aside0.mk (Nat.le_trans HP.out hb.size); clear HB HP; have HB := nb_; have HP := np_; clear nb_ np_
  clear hoU hb hlo_ hhi_
  have HOU := Aside0.mk hp_; have HLU := Aside0.mk hl_; clear HP; have HP := Aside0.mk hs_; clear hp_ hl_ hs_
  obtain ⟨AU, cU, eU⟩ := Kd.S_slice hU; subst eU
  have HU := Aside0.mk hU; clear hU
  clear hcz_arg_0
  clear hfz_arg_0
  clear hcz_bx_0
  clear hfz_bx_0
  clear hnb_arg_bx
  clear hnb_bx_arg
  have hcz_arg_0 : w17_.cell? ⟨loarg, 0, none⟩ = some (.slice A1 l1.length c1) := (blk_cell HBarg.out 0).trans rfl; have hfz_arg_0 := blk_frozen HBarg.out 0
  have hcz_bx_0 : w17_.cell? ⟨lobx, 0, none⟩ = some (.slice AX l1.length cX) := (blk_cell HBbx.out 0).trans rfl; have hfz_bx_0 := blk_frozen HBbx.out 0
  have ha_ : hiarg ≤ lobx := by
    have h0_ := HOT.out
    have h1_ := HOW.out
    have h2_ := HOX.out
    have h3_ := HObx.out
    have s0_ := HLT.out
    have s1_ := HLW.out
    have s2_ := HLX.out
    omega
  have hnb_arg_bx : loarg ≠ lobx := by have h0_ := HHarg.out; have h1_ := HHbx.out; omega
  clear ha_
  have ha_ : hiarg ≤ lobx := by
    have h0_ := HOT.out
    have h1_ := HOW.out
    have h2_ := HOX.out
    have h3_ := HObx.out
    have s0_ := HLT.out
    have s1_ := HLW.out
    have s2_ := HLX.out
    omega
  have hnb_bx_arg : lobx ≠ loarg := by have h0_ := HHbx.out; have h1_ := HHarg.out; omega
  clear ha_
  go_wp2_with fail
  refine (impl_FixedPrefix.calls k _ _ l1 a n R b _ (Kd.S_reads' HU.out).2.2 (Kd.S_reads' HU.out).2.1 FI.out).mono ?_
  rintro e w18_ ⟨v1_, rfl, hoH, hb⟩
  obtain ⟨loH, hiH, hlo_, hhi_, hp_, hl_, hs_⟩ := G.span_of hb HP.out
  have hH := G.R_in hoH HB.out hlo_ hhi_
  have n0_ := Aside0.mk (blk_below HBarg.out hb)
  have n1_ := Aside0.mk (Kd.R_below HW.out hb)
  have n2_ := Aside0.mk (blk_below HBbx.out hb)
  have n3_ := Aside0.mk (Kd.R_below HG.out hb)
  have n4_ := Aside0.mk (Kd.S_below HU.out hb)
  clear HBarg; have HBarg := n0_; clear n0_
  clear HW; have HW := n1_; clear n1_
  clear HBbx; have HBbx := n2_; clear n2_
  clear HG; have HG := n3_; clear n3_
  clear HU; have HU := n4_; clear n4_
  have nb_ := Aside0.mk (below_step HB.out hb); have np_ := Aside0.mk (Nat.le_trans HP.out hb.size); clear HB HP; have HB := nb_; have HP := np_; clear nb_ np_
  clear hoH hb hlo_ hhi_
  have HOH := Aside0.mk hp_; have HLH := Aside0.mk hl_; clear HP; have HP := Aside0.mk hs_; clear hp_ hl_ hs_
  obtain ⟨AH, cH, eH⟩ := Kd.R_slice hH; subst eH
  have HH := Aside0.mk hH; clear hH
  clear hcz_arg_0
  clear hfz_arg_0
  clear hcz_bx_0
  clear hfz_bx_0
  clear hnb_arg_bx
  clear hnb_bx_arg
  have hcz_arg_0 : w18_.cell? ⟨loarg, 0, none⟩ = some (.slice A1 l1.length c1) := (blk_cell HBarg.out 0).trans rfl; have hfz_arg_0 := blk_frozen HBarg.out 0
  have hcz_bx_0 : w18_.cell? ⟨lobx, 0, none⟩ = some (.slice AX l1.length cX) := (blk_cell HBbx.out 0).trans rfl; have hfz_bx_0 := blk_frozen HBbx.out 0
  have ha_ : hiarg ≤ lobx := by
    have h0_ := HOT.out
    have h1_ := HOW.out
    have h2_ := HOX.out
    have h3_ := HObx.out
    have s0_ := HLT.out
    have s1_ := HLW.out
    have s2_ := HLX.out
    omega
  have hnb_arg_bx : loarg ≠ lobx := by have h0_ := HHarg.out; have h1_ := HHbx.out; omega
  clear ha_
  have ha_ : hiarg ≤ lobx := by
    have h0_ := HOT.out
    have h1_ := HOW.out
    have h2_ := HOX.out
    have h3_ := HObx.out
    have s0_ := HLT.out
    have s1_ := HLW.out
    have s2_ := HLX.out
    omega
  have hnb_bx_arg : lobx ≠ loarg := by have h0_ := HHbx.out; have h1_ := HHarg.out; omega
  clear ha_
  clear HU
  go_wp2_with fail
  refine (laws_eqIntS.calls k _ _ R _ _ R true _ (Kd.R_reads' HH.out).2.2 (Kd.R_reads' HH.out).2.1 (Kd.R_reads' HW.out).2.2 (Kd.R_reads' HW.out).2.1 FE.out).mono ?_
  rintro e w19_ ⟨rfl, hd⟩
  have hb := G.drawn_below hd
  clear hd
  have n0_ := Aside0.mk (blk_below HBarg.out hb)
  have n1_ := Aside0.mk (Kd.R_below HW.out hb)
  have n2_ := Aside0.mk (blk_below HBbx.out hb)
  have n3_ := Aside0.mk (Kd.R_below HG.out hb)
  have n4_ := Aside0.mk (Kd.R_below HH.out hb)
  clear HBarg; have HBarg := n0_; clear n0_
  clear HW; have HW := n1_; clear n1_
  clear HBbx; have HBbx := n2_; clear n2_
  clear HG; have HG := n3_; clear n3_
  clear HH; have HH := n4_; clear n4_
  have nb_ := Aside0.mk (below_step HB.out hb); have np_ := Aside0.mk (Nat.le_trans HP.out hb.size); clear HB HP; have HB := nb_; have HP := np_; clear nb_ np_
  clear hb
  clear hcz_arg_0
  clear hfz_arg_0
  clear hcz_bx_0
  clear hfz_bx_0
  clear hnb_arg_bx
  clear hnb_bx_arg
  have hcz_arg_0 : w19_.cell? ⟨loarg, 0, none⟩ = some (.slice A1 l1.length c1) := (blk_cell HBarg.out 0).trans rfl; have hfz_arg_0 := blk_frozen HBarg.out 0
  have hcz_bx_0 : w19_.cell? ⟨lobx, 0, none⟩ = some (.slice AX l1.length cX) := (blk_cell HBbx.out 0).trans rfl; have hfz_bx_0 := blk_frozen HBbx.out 0
  have ha_ : hiarg ≤ lobx := by
    have h0_ := HOT.out
    have h1_ := HOW.out
    have h2_ := HOX.out
    have h3_ := HObx.out
    have s0_ := HLT.out
    have s1_ := HLW.out
    have s2_ := HLX.out
    omega
  have hnb_arg_bx : loarg ≠ lobx := by have h0_ := HHarg.out; have h1_ := HHbx.out; omega
  clear ha_
  have ha_ : hiarg ≤ lobx := by
    have h0_ := HOT.out
    have h1_ := HOW.out
    have h2_ := HOX.out
    have h3_ := HObx.out
    have s0_ := HLT.out
    have s1_ := HLW.out
    have s2_ := HLX.out
    omega
  have hnb_bx_arg : lobx ≠ loarg := by have h0_ := HHbx.out; have h1_ := HHarg.out; omega
  clear ha_
  go_wp2_with fail
  refine (G_held k _ _ R.length R' 1 mg _ (Kd.R_reads' HG.out).2.2 (Kd.R_reads' HG.out).1 (Kd.R_reads' HG.out).2.1 FH.out).mono ?_
  rintro e w20_ ⟨rfl, hd⟩
  have hb := G.drawn_below hd
  clear hd
  have n0_ := Aside0.mk (blk_below HBarg.out hb)
  have n1_ := Aside0.mk (Kd.R_below HW.out hb)
  have n2_ := Aside0.mk (blk_below HBbx.out hb)
  have n3_ := Aside0.mk (Kd.R_below HG.out hb)
  have n4_ := Aside0.mk (Kd.R_below HH.out hb)
  clear HBarg; have HBarg := n0_; clear n0_
  clear HW; have HW := n1_; clear n1_
  clear HBbx; have HBbx := n2_; clear n2_
  clear HG; have HG := n3_; clear n3_
  clear HH; have HH := n4_; clear n4_
  have nb_ := Aside0.mk (below_step HB.out hb); have np_ := Aside0.mk (Nat.le_trans HP.out hb.size); clear HB HP; have HB := nb_; have HP := np_; clear nb_ np_
  clear hb
  clear hcz_arg_0
  clear hfz_arg_0
  clear hcz_bx_0
  clear hfz_bx_0
  clear hnb_arg_bx
  clear hnb_bx_arg
  have hcz_arg_0 : w20_.cell? ⟨loarg, 0, none⟩ = some (.slice A1 l1.length c1) := (blk_cell HBarg.out 0).trans rfl; have hfz_arg_0 := blk_frozen HBarg.out 0
  have hcz_bx_0 : w20_.cell? ⟨lobx, 0, none⟩ = some (.slice AX l1.length cX) := (blk_cell HBbx.out 0).trans rfl; have hfz_bx_0 := blk_frozen HBbx.out 0
  have ha_ : hiarg ≤ lobx := by
    have h0_ := HOT.out
    have h1_ := HOW.out
    have h2_ := HOX.out
    have h3_ := HObx.out
    have s0_ := HLT.out
    have s1_ := HLW.out
    have s2_ := HLX.out
    omega
  have hnb_arg_bx : loarg ≠ lobx := by have h0_ := HHarg.out; have h1_ := HHbx.out; omega
  clear ha_
  have ha_ : hiarg ≤ lobx := by
    have h0_ := HOT.out
    have h1_ := HOW.out
    have h2_ := HOX.out
    have h3_ := HObx.out
    have s0_ := HLT.out
    have s1_ := HLW.out
    have s2_ := HLX.out
    omega
  have hnb_bx_arg : lobx ≠ loarg := by have h0_ := HHbx.out; have h1_ := HHarg.out; omega
  clear ha_
  go_wp2
  go_ret
  exact ⟨rfl, HB.out⟩

end Go.Proofs.Ytolikggioekalaa.PFnExactFixedPrefix
