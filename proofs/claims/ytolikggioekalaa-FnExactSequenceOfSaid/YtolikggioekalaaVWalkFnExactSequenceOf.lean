/- The law FnExactSequenceOf, walked call by call: where its pure parts answer as told, it answers true. No condition beyond those written. -/
import Derived.Test.YtolikggioekalaaVMFnExactSequenceOfx0
import Derived.Test.YtolikggioekalaaVMFnExactSequenceOfx1
import Derived.Test.YtolikggioekalaaVMFnExactSequenceOfx2
import Derived.Test.YtolikggioekalaaVMFnExactSequenceOfx3
import Derived.Test.YtolikggioekalaaVMFnExactSequenceOfx4
import Derived.Test.YtolikggioekalaaVMFnExactSequenceOfx5
import Derived.Test.YtolikggioekalaaVMFnExactSequenceOfx6
import Derived.Test.YtolikggioekalaaVMFnExactSequenceOfx7
import Derived.Test.YtolikggioekalaaVMFnExactSequenceOfx8
import Derived.Test.YtolikggioekalaaVMFnExactSequenceOfx9
import Derived.Test.YtolikggioekalaaVGLaw
import Derived.Test.YtolikggioekalaaVGLaw2
namespace Go.Proofs.Ytolikggioekalaa.PFnExactSequenceOf
open Go.RowKit Go.Proofs.YtolikggioekalaaW.PrintWords Go.Proofs.YtolikggioekalaaW.PrintLast Go.Proofs.YtolikggioekalaaW.PrintMore
set_option linter.unusedVariables false
set_option linter.unusedSimpArgs false

/-- The check of marks, by whatever name the lengths go. -/
theorem G_held (k : Nat) (b : Int) (A1 : Option Addr) (c1 n1 : Nat) (l1 : List (List Int)) (A2 : Option Addr) (c2 n2 : Nat) (l2 : List Int) (a1 r : Int) (w : World) (hr1 : Kd.C (Kd.slice 3 (Kd.int .i64)) w A1 l1.length l1) (hn1 : n1 = l1.length) (hc1 : n1 ≤ c1) (hr2 : Kd.C (Kd.int .i64) w A2 l2.length l2) (hn2 : n2 = l2.length) (hc2 : n2 ≤ c2) (h : laws_heldSequence.f k b l1 l2 a1 = some r) :
    Calls Try.prog 43 #[.agg #[.int .i64 b, .slice A1 n1 c1, .slice A2 n2 c2], .int .i64 a1] w fun e w' => e = .returned (.int .i64 r) ∧ Below w.heap.size w w' := by
  subst hn1 hn2
  exact laws_heldSequence.calls k b A1 c1 l1 A2 c2 l2 a1 r w hr1 hc1 hr2 hc2 h

set_option maxHeartbeats 16000000 in
set_option maxRecDepth 100000 in
theorem laws_SequenceOf.long (k : Nat) (A1 : Option Addr) (c1 : Nat) (l1 : List (List Int)) (A2 : Option Addr) (c2 : Nat) (l2 : List Int) (w : World) (h : 1048576 < l2.length) :
    Calls Try.prog 8 #[.agg #[.slice A1 l1.length c1], .slice A2 l2.length c2] w fun e w' => e = .returned (.bool true) ∧ Below w.heap.size w w' := by
  have h' : decide ((l2.length : Int) > 1048576) = true := by simp; omega
  go_enter Try.func8, Try.ntmps8
  go_wp2
  go_ret
  exact ⟨rfl, below_alloc (Below.refl _ _) _⟩

set_option maxHeartbeats 16000000 in
set_option maxRecDepth 100000 in
theorem laws_SequenceOf.neg (k : Nat) (A1 : Option Addr) (c1 : Nat) (l1 : List (List Int)) (A2 : Option Addr) (c2 : Nat) (l2 : List Int) (t : Int) (w : World) (hr1 : Kd.C (Kd.slice 3 (Kd.int .i64)) w A1 l1.length l1) (hc1 : l1.length ≤ c1) (hr2 : Kd.C (Kd.int .i64) w A2 l2.length l2) (hc2 : l2.length ≤ c2) (hl : l2.length ≤ 1048576) (hZ : laws_szMorphism.f k l1 1048576 = some t) (ht : t < 0) :
    Calls Try.prog 8 #[.agg #[.slice A1 l1.length c1], .slice A2 l2.length c2] w fun e w' => e = .returned (.bool true) ∧ Below w.heap.size w w' := by
  have FZ := Aside0.mk hZ
  have hq0 : decide (t < 0) = true := by simp; omega
  have hq3 : decide ((l2.length : Int) > 1048576) = false := by simp; omega
  clear hZ ht hl
  have HA1 := Aside0.mk hr1; have HC1 := Aside0.mk hc1; have HA2 := Aside0.mk hr2; have HC2 := Aside0.mk hc2
  have HB := Aside0.mk (Below.refl w.heap.size w); have HP := Aside0.mk (Nat.le_refl w.heap.size)
  clear hr1 hc1 hr2 hc2
  have hu0 := Try.underlying24; have hu1 := Try.underlying27; have hu2 := Try.underlying51
  go_enter Try.func8, Try.ntmps8
  go_wp2_with (first | (
    (with_reducible refine gate_dst (N := 2) rfl ?_); refine box_event ?hg (N := 2) ?hd (cs := #[.slice A1 l1.length c1]) (t := 24) ?hr ?_; (case hd => rfl); (case hg => rfl); (case hr => first | (go_simp; done) | (go_simp; rfl))
    intro loarg hg w1_ hbox hb
    obtain ⟨hiarg, hh_⟩ : ∃ h, h = loarg + 1 := ⟨_, rfl⟩
    have hp_ : w.heap.size ≤ loarg := by rw [hg]; exact HP.out
    have hl_ : loarg ≤ hiarg := by omega
    have hs_ : hiarg ≤ w1_.heap.size := by rw [hh_]; exact blk_lt hbox
    have HGarg := Aside0.mk (show w.heap.size ≤ loarg from by rw [hg]; exact HB.out.size)
    have nb_ := Aside0.mk (below_step HB.out hb); have np_ := Aside0.mk (Nat.le_trans HP.out hb.size); clear HB HP; have HB := nb_; have HP := np_; clear nb_ np_
    have HHarg := Aside0.mk hh_
    have HOarg := Aside0.mk hp_; have HLarg := Aside0.mk hl_; clear HP; have HP := Aside0.mk hs_; clear hp_ hl_ hs_
    have HBarg := Aside0.mk hbox; clear hbox hb hg hh_
    have hcz_arg_0 : w1_.cell? ⟨loarg, 0, none⟩ = some (.slice A1 l1.length c1) := (blk_cell HBarg.out 0).trans rfl; have hfz_arg_0 := blk_frozen HBarg.out 0))
  refine (laws_szMorphism.calls k _ _ l1 1048576 t _ (Kd.C_below HA1.out HB.out) HC1.out FZ.out).mono ?_
  rintro e w2_ ⟨rfl, hb⟩
  have n0_ := Aside0.mk (blk_below HBarg.out hb)
  clear HBarg; have HBarg := n0_; clear n0_
  have nb_ := Aside0.mk (below_step HB.out hb); have np_ := Aside0.mk (Nat.le_trans HP.out hb.size); clear HB HP; have HB := nb_; have HP := np_; clear nb_ np_
  clear hb
  clear hcz_arg_0
  clear hfz_arg_0
  have hcz_arg_0 : w2_.cell? ⟨loarg, 0, none⟩ = some (.slice A1 l1.length c1) := (blk_cell HBarg.out 0).trans rfl; have hfz_arg_0 := blk_frozen HBarg.out 0
  go_wp2
  go_ret
  exact ⟨rfl, HB.out⟩

set_option maxHeartbeats 16000000 in
set_option maxRecDepth 100000 in
theorem laws_SequenceOf.calls (k : Nat) (A1 : Option Addr) (c1 : Nat) (l1 : List (List Int)) (A2 : Option Addr) (c2 : Nat) (l2 : List Int) (rb : Int) (R1 R1' : List (List Int)) (R2 R2' : List Int) (b : Bool) (t m1 m2 mh mg : Int) (x1 : List (List Int)) (x2 : List Int) (w : World) (hr1 : Kd.C (Kd.slice 3 (Kd.int .i64)) w A1 l1.length l1) (hc1 : l1.length ≤ c1) (hr2 : Kd.C (Kd.int .i64) w A2 l2.length l2) (hc2 : l2.length ≤ c2) (hl : l2.length ≤ 1048576)
    (ht : 0 ≤ t) (hm2 : 0 ≤ m2) (hmg : 0 ≤ mg) (hFZ : laws_szMorphism.f k l1 1048576 = some t) (hFT1 : laws_toMorphism.f k l1 = some l1) (hFT2 : laws_toIntS.f k l2 = some l2) (hFS : spec_SequenceOf.f k l1 l2 = some (rb, R1, R2, b)) (hFI : impl_SequenceOf.f k l1 l2 = some (rb, R1, R2, b)) (hFE : laws_eqSequence.f k rb R1 R2 rb R1 R2 = some true) (hFQ1 : laws_eqMorphism.f k l1 l1 = some true) (hFQ2 : laws_eqIntS.f k l2 l2 = some true) (hFM1 : laws_markMorphism.f k l1 1 = some (m1, x1)) (hFM2 : laws_markIntS.f k l2 m1 = some (m2, x2)) (hFMR1 : laws_markIntSS.f k R1 1 = some (mh, R1')) (hFMR2 : laws_markIntS.f k R2 mh = some (mg, R2')) (hFH : laws_heldSequence.f k rb R1' R2' 1 = some mg) :
    Calls Try.prog 8 #[.agg #[.slice A1 l1.length c1], .slice A2 l2.length c2] w fun e w' => e = .returned (.bool true) ∧ Below w.heap.size w w' := by
  have FZ := Aside0.mk hFZ; have FT1 := Aside0.mk hFT1; have FT2 := Aside0.mk hFT2; have FS := Aside0.mk hFS; have FI := Aside0.mk hFI; have FE := Aside0.mk hFE; have FQ1 := Aside0.mk hFQ1; have FQ2 := Aside0.mk hFQ2; have FM1 := Aside0.mk hFM1; have FM2 := Aside0.mk hFM2; have FMR1 := Aside0.mk hFMR1; have FMR2 := Aside0.mk hFMR2; have FH := Aside0.mk hFH
  clear hFZ hFT1 hFT2 hFS hFI hFE hFQ1 hFQ2 hFM1 hFM2 hFMR1 hFMR2 hFH
  have hq0 : decide (t < 0) = false := by simp; omega
  have hq1 : decide (m2 < 0) = false := by simp; omega
  have hq2 : decide (mg < 0) = false := by simp; omega
  have hq3 : decide ((l2.length : Int) > 1048576) = false := by simp; omega
  clear ht hm2 hmg hl
  have HA1 := Aside0.mk hr1; have HC1 := Aside0.mk hc1; have HA2 := Aside0.mk hr2; have HC2 := Aside0.mk hc2
  have HB := Aside0.mk (Below.refl w.heap.size w); have HP := Aside0.mk (Nat.le_refl w.heap.size)
  clear hr1 hc1 hr2 hc2
  have hu0 := Try.underlying24; have hu1 := Try.underlying27; have hu2 := Try.underlying51
  go_enter Try.func8, Try.ntmps8
  go_wp2_with (first | (
    (with_reducible refine gate_dst (N := 2) rfl ?_); refine box_event ?hg (N := 2) ?hd (cs := #[.slice A1 l1.length c1]) (t := 24) ?hr ?_; (case hd => rfl); (case hg => rfl); (case hr => first | (go_simp; done) | (go_simp; rfl))
    intro loarg hg w1_ hbox hb
    obtain ⟨hiarg, hh_⟩ : ∃ h, h = loarg + 1 := ⟨_, rfl⟩
    have hp_ : w.heap.size ≤ loarg := by rw [hg]; exact HP.out
    have hl_ : loarg ≤ hiarg := by omega
    have hs_ : hiarg ≤ w1_.heap.size := by rw [hh_]; exact blk_lt hbox
    have HGarg := Aside0.mk (show w.heap.size ≤ loarg from by rw [hg]; exact HB.out.size)
    have nb_ := Aside0.mk (below_step HB.out hb); have np_ := Aside0.mk (Nat.le_trans HP.out hb.size); clear HB HP; have HB := nb_; have HP := np_; clear nb_ np_
    have HHarg := Aside0.mk hh_
    have HOarg := Aside0.mk hp_; have HLarg := Aside0.mk hl_; clear HP; have HP := Aside0.mk hs_; clear hp_ hl_ hs_
    have HBarg := Aside0.mk hbox; clear hbox hb hg hh_
    have hcz_arg_0 : w1_.cell? ⟨loarg, 0, none⟩ = some (.slice A1 l1.length c1) := (blk_cell HBarg.out 0).trans rfl; have hfz_arg_0 := blk_frozen HBarg.out 0))
  refine (laws_szMorphism.calls k _ _ l1 1048576 t _ (Kd.C_below HA1.out HB.out) HC1.out FZ.out).mono ?_
  rintro e w2_ ⟨rfl, hb⟩
  have n0_ := Aside0.mk (blk_below HBarg.out hb)
  clear HBarg; have HBarg := n0_; clear n0_
  have nb_ := Aside0.mk (below_step HB.out hb); have np_ := Aside0.mk (Nat.le_trans HP.out hb.size); clear HB HP; have HB := nb_; have HP := np_; clear nb_ np_
  clear hb
  clear hcz_arg_0
  clear hfz_arg_0
  have hcz_arg_0 : w2_.cell? ⟨loarg, 0, none⟩ = some (.slice A1 l1.length c1) := (blk_cell HBarg.out 0).trans rfl; have hfz_arg_0 := blk_frozen HBarg.out 0
  go_wp2_with fail
  refine (laws_toMorphism.calls k _ _ l1 l1 _ (Kd.C_below HA1.out HB.out) HC1.out FT1.out).mono ?_
  rintro e w3_ ⟨v1_, rfl, hoT1, hb⟩
  obtain ⟨loT1, hiT1, hlo_, hhi_, hp_, hl_, hs_⟩ := G.span_of hb HP.out
  have hT1 := G.S_in hoT1 HB.out hlo_ hhi_
  have n0_ := Aside0.mk (blk_below HBarg.out hb)
  clear HBarg; have HBarg := n0_; clear n0_
  have nb_ := Aside0.mk (below_step HB.out hb); have np_ := Aside0.mk (Nat.le_trans HP.out hb.size); clear HB HP; have HB := nb_; have HP := np_; clear nb_ np_
  clear hoT1 hb hlo_ hhi_
  have HOT1 := Aside0.mk hp_; have HLT1 := Aside0.mk hl_; clear HP; have HP := Aside0.mk hs_; clear hp_ hl_ hs_
  obtain ⟨AT1, cT1, eT1⟩ := Kd.S_slice hT1; subst eT1
  have HT1 := Aside0.mk hT1; clear hT1
  clear hcz_arg_0
  clear hfz_arg_0
  have hcz_arg_0 : w3_.cell? ⟨loarg, 0, none⟩ = some (.slice A1 l1.length c1) := (blk_cell HBarg.out 0).trans rfl; have hfz_arg_0 := blk_frozen HBarg.out 0
  go_wp2_with fail
  refine (laws_toIntS.calls k _ _ l2 l2 _ (Kd.C_below HA2.out HB.out) HC2.out FT2.out).mono ?_
  rintro e w4_ ⟨v1_, rfl, hoT2, hb⟩
  obtain ⟨loT2, hiT2, hlo_, hhi_, hp_, hl_, hs_⟩ := G.span_of hb HP.out
  have hT2 := G.R_in hoT2 HB.out hlo_ hhi_
  have n0_ := Aside0.mk (blk_below HBarg.out hb)
  have n1_ := Aside0.mk (Kd.S_below HT1.out hb)
  clear HBarg; have HBarg := n0_; clear n0_
  clear HT1; have HT1 := n1_; clear n1_
  have nb_ := Aside0.mk (below_step HB.out hb); have np_ := Aside0.mk (Nat.le_trans HP.out hb.size); clear HB HP; have HB := nb_; have HP := np_; clear nb_ np_
  clear hoT2 hb hlo_ hhi_
  have HOT2 := Aside0.mk hp_; have HLT2 := Aside0.mk hl_; clear HP; have HP := Aside0.mk hs_; clear hp_ hl_ hs_
  obtain ⟨AT2, cT2, eT2⟩ := Kd.R_slice hT2; subst eT2
  have HT2 := Aside0.mk hT2; clear hT2
  clear hcz_arg_0
  clear hfz_arg_0
  have hcz_arg_0 : w4_.cell? ⟨loarg, 0, none⟩ = some (.slice A1 l1.length c1) := (blk_cell HBarg.out 0).trans rfl; have hfz_arg_0 := blk_frozen HBarg.out 0
  go_wp2_with fail
  refine (spec_SequenceOf.calls k _ _ l1 _ _ l2 rb R1 R2 b _ (Kd.S_reads' HT1.out).2.2 (Kd.S_reads' HT1.out).2.1 (Kd.R_reads' HT2.out).2.2 (Kd.R_reads' HT2.out).2.1 FS.out).mono ?_
  rintro e w5_ ⟨v1_, v2_, rfl, hoW1, hoW2, hb⟩
  obtain ⟨loW, hiW, hlo_, hhi_, hp_, hl_, hs_⟩ := G.span_of hb HP.out
  have hW1 := G.S_in2 hoW1 HB.out hlo_ hhi_
  have hW2 := G.R_in hoW2 HB.out hlo_ hhi_
  have n0_ := Aside0.mk (blk_below HBarg.out hb)
  have n1_ := Aside0.mk (Kd.S_below HT1.out hb)
  have n2_ := Aside0.mk (Kd.R_below HT2.out hb)
  clear HBarg; have HBarg := n0_; clear n0_
  clear HT1; have HT1 := n1_; clear n1_
  clear HT2; have HT2 := n2_; clear n2_
  have nb_ := Aside0.mk (below_step HB.out hb); have np_ := Aside0.mk (Nat.le_trans HP.out hb.size); clear HB HP; have HB := nb_; have HP := np_; clear nb_ np_
  clear hoW1 hoW2 hb hlo_ hhi_
  have HOW := Aside0.mk hp_; have HLW := Aside0.mk hl_; clear HP; have HP := Aside0.mk hs_; clear hp_ hl_ hs_
  obtain ⟨AW1, cW1, eW1⟩ := Kd.S_slice hW1; subst eW1
  have HW1 := Aside0.mk hW1; clear hW1
  obtain ⟨AW2, cW2, eW2⟩ := Kd.R_slice hW2; subst eW2
  have HW2 := Aside0.mk hW2; clear hW2
  clear hcz_arg_0
  clear hfz_arg_0
  have hcz_arg_0 : w5_.cell? ⟨loarg, 0, none⟩ = some (.slice A1 l1.length c1) := (blk_cell HBarg.out 0).trans rfl; have hfz_arg_0 := blk_frozen HBarg.out 0
  clear HT1
  clear HT2
  go_wp2_with (first | (
    (with_reducible refine gate_dst (N := 6) rfl ?_); refine box_event ?hg (N := 6) ?hd (cs := #[.int .i64 0, .slice none 0 0, .slice none 0 0]) (t := 51) ?hr ?_; (case hd => rfl); (case hg => rfl); (case hr => first | (go_simp; done) | (go_simp; rfl))
    intro lobw hg w6_ hbox hb
    obtain ⟨hibw, hh_⟩ : ∃ h, h = lobw + 1 := ⟨_, rfl⟩
    have hp_ : hiW ≤ lobw := by rw [hg]; exact HP.out
    have hl_ : lobw ≤ hibw := by omega
    have hs_ : hibw ≤ w6_.heap.size := by rw [hh_]; exact blk_lt hbox
    have HGbw := Aside0.mk (show w.heap.size ≤ lobw from by rw [hg]; exact HB.out.size)
    have n0_ := Aside0.mk (blk_below HBarg.out hb)
    have n1_ := Aside0.mk (Kd.S_below HW1.out hb)
    have n2_ := Aside0.mk (Kd.R_below HW2.out hb)
    clear HBarg; have HBarg := n0_; clear n0_
    clear HW1; have HW1 := n1_; clear n1_
    clear HW2; have HW2 := n2_; clear n2_
    have nb_ := Aside0.mk (below_step HB.out hb); have np_ := Aside0.mk (Nat.le_trans HP.out hb.size); clear HB HP; have HB := nb_; have HP := np_; clear nb_ np_
    have HHbw := Aside0.mk hh_
    have HObw := Aside0.mk hp_; have HLbw := Aside0.mk hl_; clear HP; have HP := Aside0.mk hs_; clear hp_ hl_ hs_
    have HBbw := Aside0.mk hbox; clear hbox hb hg hh_
    clear hcz_arg_0
    clear hfz_arg_0
    have hcz_arg_0 : w6_.cell? ⟨loarg, 0, none⟩ = some (.slice A1 l1.length c1) := (blk_cell HBarg.out 0).trans rfl; have hfz_arg_0 := blk_frozen HBarg.out 0
    have hcz_bw_0 : w6_.cell? ⟨lobw, 0, none⟩ = some (.int .i64 0) := (blk_cell HBbw.out 0).trans rfl; have hfz_bw_0 := blk_frozen HBbw.out 0
    have hcz_bw_1 : w6_.cell? ⟨lobw, 1, none⟩ = some (.slice none 0 0) := (blk_cell HBbw.out 1).trans rfl; have hfz_bw_1 := blk_frozen HBbw.out 1
    have hcz_bw_2 : w6_.cell? ⟨lobw, 2, none⟩ = some (.slice none 0 0) := (blk_cell HBbw.out 2).trans rfl; have hfz_bw_2 := blk_frozen HBbw.out 2
    have ha_ : hiarg ≤ lobw := by
      have h0_ := HOT1.out
      have h1_ := HOT2.out
      have h2_ := HOW.out
      have h3_ := HObw.out
      have s0_ := HLT1.out
      have s1_ := HLT2.out
      have s2_ := HLW.out
      omega
    have hnb_arg_bw : loarg ≠ lobw := by have h0_ := HHarg.out; have h1_ := HHbw.out; omega
    clear ha_
    have ha_ : hiarg ≤ lobw := by
      have h0_ := HOT1.out
      have h1_ := HOT2.out
      have h2_ := HOW.out
      have h3_ := HObw.out
      have s0_ := HLT1.out
      have s1_ := HLT2.out
      have s2_ := HLW.out
      omega
    have hnb_bw_arg : lobw ≠ loarg := by have h0_ := HHbw.out; have h1_ := HHarg.out; omega
    clear ha_))
  refine G.genC (F := fun w1 => Kept w6_ w1 (G.Span lobw hibw) ∧ Below w.heap.size w w1 ∧ w1.heap[lobw]? = some (.cells #[.int .i64 rb, .slice AW1 R1.length cW1, .slice AW2 R2.length cW2] 51 (0, 0))) ⟨?k0, ?k1, ?k2⟩ ?_
  case k0 => exact (by have hh_ := HHbw.out; repeat (first | exact Kept.refl _ _ | refine Kept.setCell ?_ (.inl ⟨Nat.le_refl _, by show lobw < hibw; omega⟩) _ | refine Kept.drewN ?_ _ | refine Kept.drew ?_))
  case k1 => exact (by repeat (first | (with_reducible first | exact HB.out | apply below_drew1 | apply pw_below_drewN | refine below_set ?_ HGbw.out) | exact HB.out))
  case k2 => exact (by (with_reducible repeat (first | refine blk_drewN ?_ _ | refine blk_drew ?_)); refine blk_put (cs := #[.int .i64 rb, .slice AW1 R1.length cW1, .slice none 0 0]) ?_ 2 _ rfl; (with_reducible repeat (first | refine blk_drewN ?_ _ | refine blk_drew ?_)); refine blk_put (cs := #[.int .i64 rb, .slice none 0 0, .slice none 0 0]) ?_ 1 _ rfl; (with_reducible repeat (first | refine blk_drewN ?_ _ | refine blk_drew ?_)); refine blk_put (cs := #[.int .i64 0, .slice none 0 0, .slice none 0 0]) ?_ 0 _ rfl; (with_reducible repeat (first | refine blk_drewN ?_ _ | refine blk_drew ?_)); exact HBbw.out)
  rintro w7_ ⟨hkp, hb1_, hbk_⟩
  clear HBbw
  have ha_arg : hiarg ≤ lobw := by
    have h0_ := HOT1.out
    have h1_ := HOT2.out
    have h2_ := HOW.out
    have h3_ := HObw.out
    have s0_ := HLT1.out
    have s1_ := HLT2.out
    have s2_ := HLW.out
    omega
  have ha_W : hiW ≤ lobw := by
    have h0_ := HObw.out
    omega
  have n0_ := Aside0.mk (blk_kept HBarg.out hkp (by have h0_ := HHarg.out; have h1_ := ha_arg; unfold G.Span; omega))
  have n1_ := Aside0.mk (G.S_marked2 HW1.out hkp (.inl ha_W))
  have n2_ := Aside0.mk (G.R_marked HW2.out hkp (.inl ha_W))
  clear HBarg; have HBarg := n0_; clear n0_
  clear HW1; have HW1 := n1_; clear n1_
  clear HW2; have HW2 := n2_; clear n2_
  have np_ := Aside0.mk (Nat.le_trans HP.out hkp.1); have nb_ := Aside0.mk hb1_; clear HP HB hb1_; have HP := np_; have HB := nb_; clear np_ nb_ ha_arg ha_W
  have HBbw := Aside0.mk hbk_; clear hbk_ hkp
  clear hcz_arg_0
  clear hfz_arg_0
  clear hcz_bw_0
  clear hfz_bw_0
  clear hcz_bw_1
  clear hfz_bw_1
  clear hcz_bw_2
  clear hfz_bw_2
  clear hnb_arg_bw
  clear hnb_bw_arg
  have hcz_arg_0 : w7_.cell? ⟨loarg, 0, none⟩ = some (.slice A1 l1.length c1) := (blk_cell HBarg.out 0).trans rfl; have hfz_arg_0 := blk_frozen HBarg.out 0
  have hcz_bw_0 : w7_.cell? ⟨lobw, 0, none⟩ = some (.int .i64 rb) := (blk_cell HBbw.out 0).trans rfl; have hfz_bw_0 := blk_frozen HBbw.out 0
  have hcz_bw_1 : w7_.cell? ⟨lobw, 1, none⟩ = some (.slice AW1 R1.length cW1) := (blk_cell HBbw.out 1).trans rfl; have hfz_bw_1 := blk_frozen HBbw.out 1
  have hcz_bw_2 : w7_.cell? ⟨lobw, 2, none⟩ = some (.slice AW2 R2.length cW2) := (blk_cell HBbw.out 2).trans rfl; have hfz_bw_2 := blk_frozen HBbw.out 2
  have ha_ : hiarg ≤ lobw := by
    have h0_ := HOT1.out
    have h1_ := HOT2.out
    have h2_ := HOW.out
    have h3_ := HObw.out
    have s0_ := HLT1.out
    have s1_ := HLT2.out
    have s2_ := HLW.out
    omega
  have hnb_arg_bw : loarg ≠ lobw := by have h0_ := HHarg.out; have h1_ := HHbw.out; omega
  clear ha_
  have ha_ : hiarg ≤ lobw := by
    have h0_ := HOT1.out
    have h1_ := HOT2.out
    have h2_ := HOW.out
    have h3_ := HObw.out
    have s0_ := HLT1.out
    have s1_ := HLT2.out
    have s2_ := HLW.out
    omega
  have hnb_bw_arg : lobw ≠ loarg := by have h0_ := HHbw.out; have h1_ := HHarg.out; omega
  clear ha_
  refine (laws_toMorphism.calls k _ _ l1 l1 _ (Kd.C_below HA1.out HB.out) HC1.out FT1.out).mono ?_
  rintro e w8_ ⟨v1_, rfl, hoX1, hb⟩
  obtain ⟨loX1, hiX1, hlo_, hhi_, hp_, hl_, hs_⟩ := G.span_of hb HP.out
  have hX1 := G.S_in hoX1 HB.out hlo_ hhi_
  have n0_ := Aside0.mk (blk_below HBarg.out hb)
  have n1_ := Aside0.mk (Kd.S_below HW1.out hb)
  have n2_ := Aside0.mk (Kd.R_below HW2.out hb)
  have n3_ := Aside0.mk (blk_below HBbw.out hb)
  clear HBarg; have HBarg := n0_; clear n0_
  clear HW1; have HW1 := n1_; clear n1_
  clear HW2; have HW2 := n2_; clear n2_
  clear HBbw; have HBbw := n3_; clear n3_
  have nb_ := Aside0.mk (below_step HB.out hb); have np_ := Aside0.mk (Nat.le_trans HP.out hb.size); clear HB HP; have HB := nb_; have HP := np_; clear nb_ np_
  clear hoX1 hb hlo_ hhi_
  have HOX1 := Aside0.mk hp_; have HLX1 := Aside0.mk hl_; clear HP; have HP := Aside0.mk hs_; clear hp_ hl_ hs_
  obtain ⟨AX1, cX1, eX1⟩ := Kd.S_slice hX1; subst eX1
  have HX1 := Aside0.mk hX1; clear hX1
  clear hcz_arg_0
  clear hfz_arg_0
  clear hcz_bw_0
  clear hfz_bw_0
  clear hcz_bw_1
  clear hfz_bw_1
  clear hcz_bw_2
  clear hfz_bw_2
  clear hnb_arg_bw
  clear hnb_bw_arg
  have hcz_arg_0 : w8_.cell? ⟨loarg, 0, none⟩ = some (.slice A1 l1.length c1) := (blk_cell HBarg.out 0).trans rfl; have hfz_arg_0 := blk_frozen HBarg.out 0
  have hcz_bw_0 : w8_.cell? ⟨lobw, 0, none⟩ = some (.int .i64 rb) := (blk_cell HBbw.out 0).trans rfl; have hfz_bw_0 := blk_frozen HBbw.out 0
  have hcz_bw_1 : w8_.cell? ⟨lobw, 1, none⟩ = some (.slice AW1 R1.length cW1) := (blk_cell HBbw.out 1).trans rfl; have hfz_bw_1 := blk_frozen HBbw.out 1
  have hcz_bw_2 : w8_.cell? ⟨lobw, 2, none⟩ = some (.slice AW2 R2.length cW2) := (blk_cell HBbw.out 2).trans rfl; have hfz_bw_2 := blk_frozen HBbw.out 2
  have ha_ : hiarg ≤ lobw := by
    have h0_ := HOT1.out
    have h1_ := HOT2.out
    have h2_ := HOW.out
    have h3_ := HObw.out
    have s0_ := HLT1.out
    have s1_ := HLT2.out
    have s2_ := HLW.out
    omega
  have hnb_arg_bw : loarg ≠ lobw := by have h0_ := HHarg.out; have h1_ := HHbw.out; omega
  clear ha_
  have ha_ : hiarg ≤ lobw := by
    have h0_ := HOT1.out
    have h1_ := HOT2.out
    have h2_ := HOW.out
    have h3_ := HObw.out
    have s0_ := HLT1.out
    have s1_ := HLT2.out
    have s2_ := HLW.out
    omega
  have hnb_bw_arg : lobw ≠ loarg := by have h0_ := HHbw.out; have h1_ := HHarg.out; omega
  clear ha_
  go_wp2_with (first | (
    (with_reducible refine gate_dst (N := 8) rfl ?_); refine box_event ?hg (N := 8) ?hd (cs := #[.slice none 0 0]) (t := 27) ?hr ?_; (case hd => rfl); (case hg => rfl); (case hr => first | (go_simp; done) | (go_simp; rfl))
    intro lobx hg w9_ hbox hb
    obtain ⟨hibx, hh_⟩ : ∃ h, h = lobx + 1 := ⟨_, rfl⟩
    have hp_ : hiX1 ≤ lobx := by rw [hg]; exact HP.out
    have hl_ : lobx ≤ hibx := by omega
    have hs_ : hibx ≤ w9_.heap.size := by rw [hh_]; exact blk_lt hbox
    have HGbx := Aside0.mk (show w.heap.size ≤ lobx from by rw [hg]; exact HB.out.size)
    have n0_ := Aside0.mk (blk_below HBarg.out hb)
    have n1_ := Aside0.mk (Kd.S_below HW1.out hb)
    have n2_ := Aside0.mk (Kd.R_below HW2.out hb)
    have n3_ := Aside0.mk (blk_below HBbw.out hb)
    have n4_ := Aside0.mk (Kd.S_below HX1.out hb)
    clear HBarg; have HBarg := n0_; clear n0_
    clear HW1; have HW1 := n1_; clear n1_
    clear HW2; have HW2 := n2_; clear n2_
    clear HBbw; have HBbw := n3_; clear n3_
    clear HX1; have HX1 := n4_; clear n4_
    have nb_ := Aside0.mk (below_step HB.out hb); have np_ := Aside0.mk (Nat.le_trans HP.out hb.size); clear HB HP; have HB := nb_; have HP := np_; clear nb_ np_
    have HHbx := Aside0.mk hh_
    have HObx := Aside0.mk hp_; have HLbx := Aside0.mk hl_; clear HP; have HP := Aside0.mk hs_; clear hp_ hl_ hs_
    have HBbx := Aside0.mk hbox; clear hbox hb hg hh_
    clear hcz_arg_0
    clear hfz_arg_0
    clear hcz_bw_0
    clear hfz_bw_0
    clear hcz_bw_1
    clear hfz_bw_1
    clear hcz_bw_2
    clear hfz_bw_2
    clear hnb_arg_bw
    clear hnb_bw_arg
    have hcz_arg_0 : w9_.cell? ⟨loarg, 0, none⟩ = some (.slice A1 l1.length c1) := (blk_cell HBarg.out 0).trans rfl; have hfz_arg_0 := blk_frozen HBarg.out 0
    have hcz_bw_0 : w9_.cell? ⟨lobw, 0, none⟩ = some (.int .i64 rb) := (blk_cell HBbw.out 0).trans rfl; have hfz_bw_0 := blk_frozen HBbw.out 0
    have hcz_bw_1 : w9_.cell? ⟨lobw, 1, none⟩ = some (.slice AW1 R1.length cW1) := (blk_cell HBbw.out 1).trans rfl; have hfz_bw_1 := blk_frozen HBbw.out 1
    have hcz_bw_2 : w9_.cell? ⟨lobw, 2, none⟩ = some (.slice AW2 R2.length cW2) := (blk_cell HBbw.out 2).trans rfl; have hfz_bw_2 := blk_frozen HBbw.out 2
    have hcz_bx_0 : w9_.cell? ⟨lobx, 0, none⟩ = some (.slice none 0 0) := (blk_cell HBbx.out 0).trans rfl; have hfz_bx_0 := blk_frozen HBbx.out 0
    have ha_ : hiarg ≤ lobw := by
      have h0_ := HOT1.out
      have h1_ := HOT2.out
      have h2_ := HOW.out
      have h3_ := HObw.out
      have s0_ := HLT1.out
      have s1_ := HLT2.out
      have s2_ := HLW.out
      omega
    have hnb_arg_bw : loarg ≠ lobw := by have h0_ := HHarg.out; have h1_ := HHbw.out; omega
    clear ha_
    have ha_ : hiarg ≤ lobx := by
      have h0_ := HOT1.out
      have h1_ := HOT2.out
      have h2_ := HOW.out
      have h3_ := HObw.out
      have h4_ := HOX1.out
      have h5_ := HObx.out
      have s0_ := HLT1.out
      have s1_ := HLT2.out
      have s2_ := HLW.out
      have s3_ := HLbw.out
      have s4_ := HLX1.out
      omega
    have hnb_arg_bx : loarg ≠ lobx := by have h0_ := HHarg.out; have h1_ := HHbx.out; omega
    clear ha_
    have ha_ : hiarg ≤ lobw := by
      have h0_ := HOT1.out
      have h1_ := HOT2.out
      have h2_ := HOW.out
      have h3_ := HObw.out
      have s0_ := HLT1.out
      have s1_ := HLT2.out
      have s2_ := HLW.out
      omega
    have hnb_bw_arg : lobw ≠ loarg := by have h0_ := HHbw.out; have h1_ := HHarg.out; omega
    clear ha_
    have ha_ : hibw ≤ lobx := by
      have h0_ := HOX1.out
      have h1_ := HObx.out
      have s0_ := HLX1.out
      omega
    have hnb_bw_bx : lobw ≠ lobx := by have h0_ := HHbw.out; have h1_ := HHbx.out; omega
    clear ha_
    have ha_ : hiarg ≤ lobx := by
      have h0_ := HOT1.out
      have h1_ := HOT2.out
      have h2_ := HOW.out
      have h3_ := HObw.out
      have h4_ := HOX1.out
      have h5_ := HObx.out
      have s0_ := HLT1.out
      have s1_ := HLT2.out
      have s2_ := HLW.out
      have s3_ := HLbw.out
      have s4_ := HLX1.out
      omega
    have hnb_bx_arg : lobx ≠ loarg := by have h0_ := HHbx.out; have h1_ := HHarg.out; omega
    clear ha_
    have ha_ : hibw ≤ lobx := by
      have h0_ := HOX1.out
      have h1_ := HObx.out
      have s0_ := HLX1.out
      omega
    have hnb_bx_bw : lobx ≠ lobw := by have h0_ := HHbx.out; have h1_ := HHbw.out; omega
    clear ha_))
  refine G.genC (F := fun w1 => Kept w9_ w1 (G.Span lobx hibx) ∧ Below w.heap.size w w1 ∧ w1.heap[lobx]? = some (.cells #[.slice AX1 l1.length cX1] 27 (0, 0))) ⟨?k0, ?k1, ?k2⟩ ?_
  case k0 => exact (by have hh_ := HHbx.out; repeat (first | exact Kept.refl _ _ | refine Kept.setCell ?_ (.inl ⟨Nat.le_refl _, by show lobx < hibx; omega⟩) _ | refine Kept.drewN ?_ _ | refine Kept.drew ?_))
  case k1 => exact (by repeat (first | (with_reducible first | exact HB.out | apply below_drew1 | apply pw_below_drewN | refine below_set ?_ HGbx.out) | exact HB.out))
  case k2 => exact (by (with_reducible repeat (first | refine blk_drewN ?_ _ | refine blk_drew ?_)); refine blk_put (cs := #[.slice none 0 0]) ?_ 0 _ rfl; (with_reducible repeat (first | refine blk_drewN ?_ _ | refine blk_drew ?_)); exact HBbx.out)
  rintro w10_ ⟨hkp, hb1_, hbk_⟩
  clear HBbx
  have ha_arg : hiarg ≤ lobx := by
    have h0_ := HOT1.out
    have h1_ := HOT2.out
    have h2_ := HOW.out
    have h3_ := HObw.out
    have h4_ := HOX1.out
    have h5_ := HObx.out
    have s0_ := HLT1.out
    have s1_ := HLT2.out
    have s2_ := HLW.out
    have s3_ := HLbw.out
    have s4_ := HLX1.out
    omega
  have ha_W : hiW ≤ lobx := by
    have h0_ := HObw.out
    have h1_ := HOX1.out
    have h2_ := HObx.out
    have s0_ := HLbw.out
    have s1_ := HLX1.out
    omega
  have ha_bw : hibw ≤ lobx := by
    have h0_ := HOX1.out
    have h1_ := HObx.out
    have s0_ := HLX1.out
    omega
  have ha_X1 : hiX1 ≤ lobx := by
    have h0_ := HObx.out
    omega
  have n0_ := Aside0.mk (blk_kept HBarg.out hkp (by have h0_ := HHarg.out; have h1_ := ha_arg; unfold G.Span; omega))
  have n1_ := Aside0.mk (G.S_marked2 HW1.out hkp (.inl ha_W))
  have n2_ := Aside0.mk (G.R_marked HW2.out hkp (.inl ha_W))
  have n3_ := Aside0.mk (blk_kept HBbw.out hkp (by have h0_ := HHbw.out; have h1_ := ha_bw; unfold G.Span; omega))
  have n4_ := Aside0.mk (G.S_marked HX1.out hkp (.inl ha_X1))
  clear HBarg; have HBarg := n0_; clear n0_
  clear HW1; have HW1 := n1_; clear n1_
  clear HW2; have HW2 := n2_; clear n2_
  clear HBbw; have HBbw := n3_; clear n3_
  clear HX1; have HX1 := n4_; clear n4_
  have np_ := Aside0.mk (Nat.le_trans HP.out hkp.1); have nb_ := Aside0.mk hb1_; clear HP HB hb1_; have HP := np_; have HB := nb_; clear np_ nb_ ha_arg ha_W ha_bw ha_X1
  have HBbx := Aside0.mk hbk_; clear hbk_ hkp
  clear hcz_arg_0
  clear hfz_arg_0
  clear hcz_bw_0
  clear hfz_bw_0
  clear hcz_bw_1
  clear hfz_bw_1
  clear hcz_bw_2
  clear hfz_bw_2
  clear hcz_bx_0
  clear hfz_bx_0
  clear hnb_arg_bw
  clear hnb_arg_bx
  clear hnb_bw_arg
  clear hnb_bw_bx
  clear hnb_bx_arg
  clear hnb_bx_bw
  have hcz_arg_0 : w10_.cell? ⟨loarg, 0, none⟩ = some (.slice A1 l1.length c1) := (blk_cell HBarg.out 0).trans rfl; have hfz_arg_0 := blk_frozen HBarg.out 0
  have hcz_bw_0 : w10_.cell? ⟨lobw, 0, none⟩ = some (.int .i64 rb) := (blk_cell HBbw.out 0).trans rfl; have hfz_bw_0 := blk_frozen HBbw.out 0
  have hcz_bw_1 : w10_.cell? ⟨lobw, 1, none⟩ = some (.slice AW1 R1.length cW1) := (blk_cell HBbw.out 1).trans rfl; have hfz_bw_1 := blk_frozen HBbw.out 1
  have hcz_bw_2 : w10_.cell? ⟨lobw, 2, none⟩ = some (.slice AW2 R2.length cW2) := (blk_cell HBbw.out 2).trans rfl; have hfz_bw_2 := blk_frozen HBbw.out 2
  have hcz_bx_0 : w10_.cell? ⟨lobx, 0, none⟩ = some (.slice AX1 l1.length cX1) := (blk_cell HBbx.out 0).trans rfl; have hfz_bx_0 := blk_frozen HBbx.out 0
  have ha_ : hiarg ≤ lobw := by
    have h0_ := HOT1.out
    have h1_ := HOT2.out
    have h2_ := HOW.out
    have h3_ := HObw.out
    have s0_ := HLT1.out
    have s1_ := HLT2.out
    have s2_ := HLW.out
    omega
  have hnb_arg_bw : loarg ≠ lobw := by have h0_ := HHarg.out; have h1_ := HHbw.out; omega
  clear ha_
  have ha_ : hiarg ≤ lobx := by
    have h0_ := HOT1.out
    have h1_ := HOT2.out
    have h2_ := HOW.out
    have h3_ := HObw.out
    have h4_ := HOX1.out
    have h5_ := HObx.out
    have s0_ := HLT1.out
    have s1_ := HLT2.out
    have s2_ := HLW.out
    have s3_ := HLbw.out
    have s4_ := HLX1.out
    omega
  have hnb_arg_bx : loarg ≠ lobx := by have h0_ := HHarg.out; have h1_ := HHbx.out; omega
  clear ha_
  have ha_ : hiarg ≤ lobw := by
    have h0_ := HOT1.out
    have h1_ := HOT2.out
    have h2_ := HOW.out
    have h3_ := HObw.out
    have s0_ := HLT1.out
    have s1_ := HLT2.out
    have s2_ := HLW.out
    omega
  have hnb_bw_arg : lobw ≠ loarg := by have h0_ := HHbw.out; have h1_ := HHarg.out; omega
  clear ha_
  have ha_ : hibw ≤ lobx := by
    have h0_ := HOX1.out
    have h1_ := HObx.out
    have s0_ := HLX1.out
    omega
  have hnb_bw_bx : lobw ≠ lobx := by have h0_ := HHbw.out; have h1_ := HHbx.out; omega
  clear ha_
  have ha_ : hiarg ≤ lobx := by
    have h0_ := HOT1.out
    have h1_ := HOT2.out
    have h2_ := HOW.out
    have h3_ := HObw.out
    have h4_ := HOX1.out
    have h5_ := HObx.out
    have s0_ := HLT1.out
    have s1_ := HLT2.out
    have s2_ := HLW.out
    have s3_ := HLbw.out
    have s4_ := HLX1.out
    omega
  have hnb_bx_arg : lobx ≠ loarg := by have h0_ := HHbx.out; have h1_ := HHarg.out; omega
  clear ha_
  have ha_ : hibw ≤ lobx := by
    have h0_ := HOX1.out
    have h1_ := HObx.out
    have s0_ := HLX1.out
    omega
  have hnb_bx_bw : lobx ≠ lobw := by have h0_ := HHbx.out; have h1_ := HHbw.out; omega
  clear ha_
  refine (laws_toIntS.calls k _ _ l2 l2 _ (Kd.C_below HA2.out HB.out) HC2.out FT2.out).mono ?_
  rintro e w11_ ⟨v1_, rfl, hoX2, hb⟩
  obtain ⟨loX2, hiX2, hlo_, hhi_, hp_, hl_, hs_⟩ := G.span_of hb HP.out
  have hX2 := G.R_in hoX2 HB.out hlo_ hhi_
  have n0_ := Aside0.mk (blk_below HBarg.out hb)
  have n1_ := Aside0.mk (Kd.S_below HW1.out hb)
  have n2_ := Aside0.mk (Kd.R_below HW2.out hb)
  have n3_ := Aside0.mk (blk_below HBbw.out hb)
  have n4_ := Aside0.mk (Kd.S_below HX1.out hb)
  have n5_ := Aside0.mk (blk_below HBbx.out hb)
  clear HBarg; have HBarg := n0_; clear n0_
  clear HW1; have HW1 := n1_; clear n1_
  clear HW2; have HW2 := n2_; clear n2_
  clear HBbw; have HBbw := n3_; clear n3_
  clear HX1; have HX1 := n4_; clear n4_
  clear HBbx; have HBbx := n5_; clear n5_
  have nb_ := Aside0.mk (below_step HB.out hb); have np_ := Aside0.mk (Nat.le_trans HP.out hb.size); clear HB HP; have HB := nb_; have HP := np_; clear nb_ np_
  clear hoX2 hb hlo_ hhi_
  have HOX2 := Aside0.mk hp_; have HLX2 := Aside0.mk hl_; clear HP; have HP := Aside0.mk hs_; clear hp_ hl_ hs_
  obtain ⟨AX2, cX2, eX2⟩ := Kd.R_slice hX2; subst eX2
  have HX2 := Aside0.mk hX2; clear hX2
  clear hcz_arg_0
  clear hfz_arg_0
  clear hcz_bw_0
  clear hfz_bw_0
  clear hcz_bw_1
  clear hfz_bw_1
  clear hcz_bw_2
  clear hfz_bw_2
  clear hcz_bx_0
  clear hfz_bx_0
  clear hnb_arg_bw
  clear hnb_arg_bx
  clear hnb_bw_arg
  clear hnb_bw_bx
  clear hnb_bx_arg
  clear hnb_bx_bw
  have hcz_arg_0 : w11_.cell? ⟨loarg, 0, none⟩ = some (.slice A1 l1.length c1) := (blk_cell HBarg.out 0).trans rfl; have hfz_arg_0 := blk_frozen HBarg.out 0
  have hcz_bw_0 : w11_.cell? ⟨lobw, 0, none⟩ = some (.int .i64 rb) := (blk_cell HBbw.out 0).trans rfl; have hfz_bw_0 := blk_frozen HBbw.out 0
  have hcz_bw_1 : w11_.cell? ⟨lobw, 1, none⟩ = some (.slice AW1 R1.length cW1) := (blk_cell HBbw.out 1).trans rfl; have hfz_bw_1 := blk_frozen HBbw.out 1
  have hcz_bw_2 : w11_.cell? ⟨lobw, 2, none⟩ = some (.slice AW2 R2.length cW2) := (blk_cell HBbw.out 2).trans rfl; have hfz_bw_2 := blk_frozen HBbw.out 2
  have hcz_bx_0 : w11_.cell? ⟨lobx, 0, none⟩ = some (.slice AX1 l1.length cX1) := (blk_cell HBbx.out 0).trans rfl; have hfz_bx_0 := blk_frozen HBbx.out 0
  have ha_ : hiarg ≤ lobw := by
    have h0_ := HOT1.out
    have h1_ := HOT2.out
    have h2_ := HOW.out
    have h3_ := HObw.out
    have s0_ := HLT1.out
    have s1_ := HLT2.out
    have s2_ := HLW.out
    omega
  have hnb_arg_bw : loarg ≠ lobw := by have h0_ := HHarg.out; have h1_ := HHbw.out; omega
  clear ha_
  have ha_ : hiarg ≤ lobx := by
    have h0_ := HOT1.out
    have h1_ := HOT2.out
    have h2_ := HOW.out
    have h3_ := HObw.out
    have h4_ := HOX1.out
    have h5_ := HObx.out
    have s0_ := HLT1.out
    have s1_ := HLT2.out
    have s2_ := HLW.out
    have s3_ := HLbw.out
    have s4_ := HLX1.out
    omega
  have hnb_arg_bx : loarg ≠ lobx := by have h0_ := HHarg.out; have h1_ := HHbx.out; omega
  clear ha_
  have ha_ : hiarg ≤ lobw := by
    have h0_ := HOT1.out
    have h1_ := HOT2.out
    have h2_ := HOW.out
    have h3_ := HObw.out
    have s0_ := HLT1.out
    have s1_ := HLT2.out
    have s2_ := HLW.out
    omega
  have hnb_bw_arg : lobw ≠ loarg := by have h0_ := HHbw.out; have h1_ := HHarg.out; omega
  clear ha_
  have ha_ : hibw ≤ lobx := by
    have h0_ := HOX1.out
    have h1_ := HObx.out
    have s0_ := HLX1.out
    omega
  have hnb_bw_bx : lobw ≠ lobx := by have h0_ := HHbw.out; have h1_ := HHbx.out; omega
  clear ha_
  have ha_ : hiarg ≤ lobx := by
    have h0_ := HOT1.out
    have h1_ := HOT2.out
    have h2_ := HOW.out
    have h3_ := HObw.out
    have h4_ := HOX1.out
    have h5_ := HObx.out
    have s0_ := HLT1.out
    have s1_ := HLT2.out
    have s2_ := HLW.out
    have s3_ := HLbw.out
    have s4_ := HLX1.out
    omega
  have hnb_bx_arg : lobx ≠ loarg := by have h0_ := HHbx.out; have h1_ := HHarg.out; omega
  clear ha_
  have ha_ : hibw ≤ lobx := by
    have h0_ := HOX1.out
    have h1_ := HObx.out
    have s0_ := HLX1.out
    omega
  have hnb_bx_bw : lobx ≠ lobw := by have h0_ := HHbx.out; have h1_ := HHbw.out; omega
  clear ha_
  go_wp2_with fail
  refine (impl_SequenceOf.calls k _ _ l1 _ _ l2 rb R1 R2 b _ (Kd.S_reads' HX1.out).2.2 (Kd.S_reads' HX1.out).2.1 (Kd.R_reads' HX2.out).2.2 (Kd.R_reads' HX2.out).2.1 FI.out).mono ?_
  rintro e w12_ ⟨v1_, v2_, rfl, hoG1, hoG2, hb⟩
  obtain ⟨loG, hiG, hlo_, hhi_, hp_, hl_, hs_⟩ := G.span_of hb HP.out
  have hG1 := G.S_in2 hoG1 HB.out hlo_ hhi_
  have hG2 := G.R_in hoG2 HB.out hlo_ hhi_
  have n0_ := Aside0.mk (blk_below HBarg.out hb)
  have n1_ := Aside0.mk (Kd.S_below HW1.out hb)
  have n2_ := Aside0.mk (Kd.R_below HW2.out hb)
  have n3_ := Aside0.mk (blk_below HBbw.out hb)
  have n4_ := Aside0.mk (Kd.S_below HX1.out hb)
  have n5_ := Aside0.mk (blk_below HBbx.out hb)
  have n6_ := Aside0.mk (Kd.R_below HX2.out hb)
  clear HBarg; have HBarg := n0_; clear n0_
  clear HW1; have HW1 := n1_; clear n1_
  clear HW2; have HW2 := n2_; clear n2_
  clear HBbw; have HBbw := n3_; clear n3_
  clear HX1; have HX1 := n4_; clear n4_
  clear HBbx; have HBbx := n5_; clear n5_
  clear HX2; have HX2 := n6_; clear n6_
  have nb_ := Aside0.mk (below_step HB.out hb); have np_ := Aside0.mk (Nat.le_trans HP.out hb.size); clear HB HP; have HB := nb_; have HP := np_; clear nb_ np_
  clear hoG1 hoG2 hb hlo_ hhi_
  have HOG := Aside0.mk hp_; have HLG := Aside0.mk hl_; clear HP; have HP := Aside0.mk hs_; clear hp_ hl_ hs_
  obtain ⟨AG1, cG1, eG1⟩ := Kd.S_slice hG1; subst eG1
  have HG1 := Aside0.mk hG1; clear hG1
  obtain ⟨AG2, cG2, eG2⟩ := Kd.R_slice hG2; subst eG2
  have HG2 := Aside0.mk hG2; clear hG2
  clear hcz_arg_0
  clear hfz_arg_0
  clear hcz_bw_0
  clear hfz_bw_0
  clear hcz_bw_1
  clear hfz_bw_1
  clear hcz_bw_2
  clear hfz_bw_2
  clear hcz_bx_0
  clear hfz_bx_0
  clear hnb_arg_bw
  clear hnb_arg_bx
  clear hnb_bw_arg
  clear hnb_bw_bx
  clear hnb_bx_arg
  clear hnb_bx_bw
  have hcz_arg_0 : w12_.cell? ⟨loarg, 0, none⟩ = some (.slice A1 l1.length c1) := (blk_cell HBarg.out 0).trans rfl; have hfz_arg_0 := blk_frozen HBarg.out 0
  have hcz_bw_0 : w12_.cell? ⟨lobw, 0, none⟩ = some (.int .i64 rb) := (blk_cell HBbw.out 0).trans rfl; have hfz_bw_0 := blk_frozen HBbw.out 0
  have hcz_bw_1 : w12_.cell? ⟨lobw, 1, none⟩ = some (.slice AW1 R1.length cW1) := (blk_cell HBbw.out 1).trans rfl; have hfz_bw_1 := blk_frozen HBbw.out 1
  have hcz_bw_2 : w12_.cell? ⟨lobw, 2, none⟩ = some (.slice AW2 R2.length cW2) := (blk_cell HBbw.out 2).trans rfl; have hfz_bw_2 := blk_frozen HBbw.out 2
  have hcz_bx_0 : w12_.cell? ⟨lobx, 0, none⟩ = some (.slice AX1 l1.length cX1) := (blk_cell HBbx.out 0).trans rfl; have hfz_bx_0 := blk_frozen HBbx.out 0
  have ha_ : hiarg ≤ lobw := by
    have h0_ := HOT1.out
    have h1_ := HOT2.out
    have h2_ := HOW.out
    have h3_ := HObw.out
    have s0_ := HLT1.out
    have s1_ := HLT2.out
    have s2_ := HLW.out
    omega
  have hnb_arg_bw : loarg ≠ lobw := by have h0_ := HHarg.out; have h1_ := HHbw.out; omega
  clear ha_
  have ha_ : hiarg ≤ lobx := by
    have h0_ := HOT1.out
    have h1_ := HOT2.out
    have h2_ := HOW.out
    have h3_ := HObw.out
    have h4_ := HOX1.out
    have h5_ := HObx.out
    have s0_ := HLT1.out
    have s1_ := HLT2.out
    have s2_ := HLW.out
    have s3_ := HLbw.out
    have s4_ := HLX1.out
    omega
  have hnb_arg_bx : loarg ≠ lobx := by have h0_ := HHarg.out; have h1_ := HHbx.out; omega
  clear ha_
  have ha_ : hiarg ≤ lobw := by
    have h0_ := HOT1.out
    have h1_ := HOT2.out
    have h2_ := HOW.out
    have h3_ := HObw.out
    have s0_ := HLT1.out
    have s1_ := HLT2.out
    have s2_ := HLW.out
    omega
  have hnb_bw_arg : lobw ≠ loarg := by have h0_ := HHbw.out; have h1_ := HHarg.out; omega
  clear ha_
  have ha_ : hibw ≤ lobx := by
    have h0_ := HOX1.out
    have h1_ := HObx.out
    have s0_ := HLX1.out
    omega
  have hnb_bw_bx : lobw ≠ lobx := by have h0_ := HHbw.out; have h1_ := HHbx.out; omega
  clear ha_
  have ha_ : hiarg ≤ lobx := by
    have h0_ := HOT1.out
    have h1_ := HOT2.out
    have h2_ := HOW.out
    have h3_ := HObw.out
    have h4_ := HOX1.out
    have h5_ := HObx.out
    have s0_ := HLT1.out
    have s1_ := HLT2.out
    have s2_ := HLW.out
    have s3_ := HLbw.out
    have s4_ := HLX1.out
    omega
  have hnb_bx_arg : lobx ≠ loarg := by have h0_ := HHbx.out; have h1_ := HHarg.out; omega
  clear ha_
  have ha_ : hibw ≤ lobx := by
    have h0_ := HOX1.out
    have h1_ := HObx.out
    have s0_ := HLX1.out
    omega
  have hnb_bx_bw : lobx ≠ lobw := by have h0_ := HHbx.out; have h1_ := HHbw.out; omega
  clear ha_
  go_wp2_with (first | (
    (with_reducible refine gate_dst (N := 10) rfl ?_); refine box_event ?hg (N := 10) ?hd (cs := #[.int .i64 0, .slice none 0 0, .slice none 0 0]) (t := 51) ?hr ?_; (case hd => rfl); (case hg => rfl); (case hr => first | (go_simp; done) | (go_simp; rfl))
    intro lobg hg w13_ hbox hb
    obtain ⟨hibg, hh_⟩ : ∃ h, h = lobg + 1 := ⟨_, rfl⟩
    have hp_ : hiG ≤ lobg := by rw [hg]; exact HP.out
    have hl_ : lobg ≤ hibg := by omega
    have hs_ : hibg ≤ w13_.heap.size := by rw [hh_]; exact blk_lt hbox
    have HGbg := Aside0.mk (show w.heap.size ≤ lobg from by rw [hg]; exact HB.out.size)
    have n0_ := Aside0.mk (blk_below HBarg.out hb)
    have n1_ := Aside0.mk (Kd.S_below HW1.out hb)
    have n2_ := Aside0.mk (Kd.R_below HW2.out hb)
    have n3_ := Aside0.mk (blk_below HBbw.out hb)
    have n4_ := Aside0.mk (Kd.S_below HX1.out hb)
    have n5_ := Aside0.mk (blk_below HBbx.out hb)
    have n6_ := Aside0.mk (Kd.R_below HX2.out hb)
    have n7_ := Aside0.mk (Kd.S_below HG1.out hb)
    have n8_ := Aside0.mk (Kd.R_below HG2.out hb)
    clear HBarg; have HBarg := n0_; clear n0_
    clear HW1; have HW1 := n1_; clear n1_
    clear HW2; have HW2 := n2_; clear n2_
    clear HBbw; have HBbw := n3_; clear n3_
    clear HX1; have HX1 := n4_; clear n4_
    clear HBbx; have HBbx := n5_; clear n5_
    clear HX2; have HX2 := n6_; clear n6_
    clear HG1; have HG1 := n7_; clear n7_
    clear HG2; have HG2 := n8_; clear n8_
    have nb_ := Aside0.mk (below_step HB.out hb); have np_ := Aside0.mk (Nat.le_trans HP.out hb.size); clear HB HP; have HB := nb_; have HP := np_; clear nb_ np_
    have HHbg := Aside0.mk hh_
    have HObg := Aside0.mk hp_; have HLbg := Aside0.mk hl_; clear HP; have HP := Aside0.mk hs_; clear hp_ hl_ hs_
    have HBbg := Aside0.mk hbox; clear hbox hb hg hh_
    clear hcz_arg_0
    clear hfz_arg_0
    clear hcz_bw_0
    clear hfz_bw_0
    clear hcz_bw_1
    clear hfz_bw_1
    clear hcz_bw_2
    clear hfz_bw_2
    clear hcz_bx_0
    clear hfz_bx_0
    clear hnb_arg_bw
    clear hnb_arg_bx
    clear hnb_bw_arg
    clear hnb_bw_bx
    clear hnb_bx_arg
    clear hnb_bx_bw
    have hcz_arg_0 : w13_.cell? ⟨loarg, 0, none⟩ = some (.slice A1 l1.length c1) := (blk_cell HBarg.out 0).trans rfl; have hfz_arg_0 := blk_frozen HBarg.out 0
    have hcz_bw_0 : w13_.cell? ⟨lobw, 0, none⟩ = some (.int .i64 rb) := (blk_cell HBbw.out 0).trans rfl; have hfz_bw_0 := blk_frozen HBbw.out 0
    have hcz_bw_1 : w13_.cell? ⟨lobw, 1, none⟩ = some (.slice AW1 R1.length cW1) := (blk_cell HBbw.out 1).trans rfl; have hfz_bw_1 := blk_frozen HBbw.out 1
    have hcz_bw_2 : w13_.cell? ⟨lobw, 2, none⟩ = some (.slice AW2 R2.length cW2) := (blk_cell HBbw.out 2).trans rfl; have hfz_bw_2 := blk_frozen HBbw.out 2
    have hcz_bx_0 : w13_.cell? ⟨lobx, 0, none⟩ = some (.slice AX1 l1.length cX1) := (blk_cell HBbx.out 0).trans rfl; have hfz_bx_0 := blk_frozen HBbx.out 0
    have hcz_bg_0 : w13_.cell? ⟨lobg, 0, none⟩ = some (.int .i64 0) := (blk_cell HBbg.out 0).trans rfl; have hfz_bg_0 := blk_frozen HBbg.out 0
    have hcz_bg_1 : w13_.cell? ⟨lobg, 1, none⟩ = some (.slice none 0 0) := (blk_cell HBbg.out 1).trans rfl; have hfz_bg_1 := blk_frozen HBbg.out 1
    have hcz_bg_2 : w13_.cell? ⟨lobg, 2, none⟩ = some (.slice none 0 0) := (blk_cell HBbg.out 2).trans rfl; have hfz_bg_2 := blk_frozen HBbg.out 2
    have ha_ : hiarg ≤ lobw := by
      have h0_ := HOT1.out
      have h1_ := HOT2.out
      have h2_ := HOW.out
      have h3_ := HObw.out
      have s0_ := HLT1.out
      have s1_ := HLT2.out
      have s2_ := HLW.out
      omega
    have hnb_arg_bw : loarg ≠ lobw := by have h0_ := HHarg.out; have h1_ := HHbw.out; omega
    clear ha_
    have ha_ : hiarg ≤ lobx := by
      have h0_ := HOT1.out
      have h1_ := HOT2.out
      have h2_ := HOW.out
      have h3_ := HObw.out
      have h4_ := HOX1.out
      have h5_ := HObx.out
      have s0_ := HLT1.out
      have s1_ := HLT2.out
      have s2_ := HLW.out
      have s3_ := HLbw.out
      have s4_ := HLX1.out
      omega
    have hnb_arg_bx : loarg ≠ lobx := by have h0_ := HHarg.out; have h1_ := HHbx.out; omega
    clear ha_
    have ha_ : hiarg ≤ lobg := by
      have h0_ := HOT1.out
      have h1_ := HOT2.out
      have h2_ := HOW.out
      have h3_ := HObw.out
      have h4_ := HOX1.out
      have h5_ := HObx.out
      have h6_ := HOX2.out
      have h7_ := HOG.out
      have h8_ := HObg.out
      have s0_ := HLT1.out
      have s1_ := HLT2.out
      have s2_ := HLW.out
      have s3_ := HLbw.out
      have s4_ := HLX1.out
      have s5_ := HLbx.out
      have s6_ := HLX2.out
      have s7_ := HLG.out
      omega
    have hnb_arg_bg : loarg ≠ lobg := by have h0_ := HHarg.out; have h1_ := HHbg.out; omega
    clear ha_
    have ha_ : hiarg ≤ lobw := by
      have h0_ := HOT1.out
      have h1_ := HOT2.out
      have h2_ := HOW.out
      have h3_ := HObw.out
      have s0_ := HLT1.out
      have s1_ := HLT2.out
      have s2_ := HLW.out
      omega
    have hnb_bw_arg : lobw ≠ loarg := by have h0_ := HHbw.out; have h1_ := HHarg.out; omega
    clear ha_
    have ha_ : hibw ≤ lobx := by
      have h0_ := HOX1.out
      have h1_ := HObx.out
      have s0_ := HLX1.out
      omega
    have hnb_bw_bx : lobw ≠ lobx := by have h0_ := HHbw.out; have h1_ := HHbx.out; omega
    clear ha_
    have ha_ : hibw ≤ lobg := by
      have h0_ := HOX1.out
      have h1_ := HObx.out
      have h2_ := HOX2.out
      have h3_ := HOG.out
      have h4_ := HObg.out
      have s0_ := HLX1.out
      have s1_ := HLbx.out
      have s2_ := HLX2.out
      have s3_ := HLG.out
      omega
    have hnb_bw_bg : lobw ≠ lobg := by have h0_ := HHbw.out; have h1_ := HHbg.out; omega
    clear ha_
    have ha_ : hiarg ≤ lobx := by
      have h0_ := HOT1.out
      have h1_ := HOT2.out
      have h2_ := HOW.out
      have h3_ := HObw.out
      have h4_ := HOX1.out
      have h5_ := HObx.out
      have s0_ := HLT1.out
      have s1_ := HLT2.out
      have s2_ := HLW.out
      have s3_ := HLbw.out
      have s4_ := HLX1.out
      omega
    have hnb_bx_arg : lobx ≠ loarg := by have h0_ := HHbx.out; have h1_ := HHarg.out; omega
    clear ha_
    have ha_ : hibw ≤ lobx := by
      have h0_ := HOX1.out
      have h1_ := HObx.out
      have s0_ := HLX1.out
      omega
    have hnb_bx_bw : lobx ≠ lobw := by have h0_ := HHbx.out; have h1_ := HHbw.out; omega
    clear ha_
    have ha_ : hibx ≤ lobg := by
      have h0_ := HOX2.out
      have h1_ := HOG.out
      have h2_ := HObg.out
      have s0_ := HLX2.out
      have s1_ := HLG.out
      omega
    have hnb_bx_bg : lobx ≠ lobg := by have h0_ := HHbx.out; have h1_ := HHbg.out; omega
    clear ha_
    have ha_ : hiarg ≤ lobg := by
      have h0_ := HOT1.out
      have h1_ := HOT2.out
      have h2_ := HOW.out
      have h3_ := HObw.out
      have h4_ := HOX1.out
      have h5_ := HObx.out
      have h6_ := HOX2.out
      have h7_ := HOG.out
      have h8_ := HObg.out
      have s0_ := HLT1.out
      have s1_ := HLT2.out
      have s2_ := HLW.out
      have s3_ := HLbw.out
      have s4_ := HLX1.out
      have s5_ := HLbx.out
      have s6_ := HLX2.out
      have s7_ := HLG.out
      omega
    have hnb_bg_arg : lobg ≠ loarg := by have h0_ := HHbg.out; have h1_ := HHarg.out; omega
    clear ha_
    have ha_ : hibw ≤ lobg := by
      have h0_ := HOX1.out
      have h1_ := HObx.out
      have h2_ := HOX2.out
      have h3_ := HOG.out
      have h4_ := HObg.out
      have s0_ := HLX1.out
      have s1_ := HLbx.out
      have s2_ := HLX2.out
      have s3_ := HLG.out
      omega
    have hnb_bg_bw : lobg ≠ lobw := by have h0_ := HHbg.out; have h1_ := HHbw.out; omega
    clear ha_
    have ha_ : hibx ≤ lobg := by
      have h0_ := HOX2.out
      have h1_ := HOG.out
      have h2_ := HObg.out
      have s0_ := HLX2.out
      have s1_ := HLG.out
      omega
    have hnb_bg_bx : lobg ≠ lobx := by have h0_ := HHbg.out; have h1_ := HHbx.out; omega
    clear ha_))
  refine G.genC (F := fun w1 => Kept w13_ w1 (G.Span lobg hibg) ∧ Below w.heap.size w w1 ∧ w1.heap[lobg]? = some (.cells #[.int .i64 rb, .slice AG1 R1.length cG1, .slice AG2 R2.length cG2] 51 (0, 0))) ⟨?k0, ?k1, ?k2⟩ ?_
  case k0 => exact (by have hh_ := HHbg.out; repeat (first | exact Kept.refl _ _ | refine Kept.setCell ?_ (.inl ⟨Nat.le_refl _, by show lobg < hibg; omega⟩) _ | refine Kept.drewN ?_ _ | refine Kept.drew ?_))
  case k1 => exact (by repeat (first | (with_reducible first | exact HB.out | apply below_drew1 | apply pw_below_drewN | refine below_set ?_ HGbg.out) | exact HB.out))
  case k2 => exact (by (with_reducible repeat (first | refine blk_drewN ?_ _ | refine blk_drew ?_)); refine blk_put (cs := #[.int .i64 rb, .slice AG1 R1.length cG1, .slice none 0 0]) ?_ 2 _ rfl; (with_reducible repeat (first | refine blk_drewN ?_ _ | refine blk_drew ?_)); refine blk_put (cs := #[.int .i64 rb, .slice none 0 0, .slice none 0 0]) ?_ 1 _ rfl; (with_reducible repeat (first | refine blk_drewN ?_ _ | refine blk_drew ?_)); refine blk_put (cs := #[.int .i64 0, .slice none 0 0, .slice none 0 0]) ?_ 0 _ rfl; (with_reducible repeat (first | refine blk_drewN ?_ _ | refine blk_drew ?_)); exact HBbg.out)
  rintro w14_ ⟨hkp, hb1_, hbk_⟩
  clear HBbg
  have ha_arg : hiarg ≤ lobg := by
    have h0_ := HOT1.out
    have h1_ := HOT2.out
    have h2_ := HOW.out
    have h3_ := HObw.out
    have h4_ := HOX1.out
    have h5_ := HObx.out
    have h6_ := HOX2.out
    have h7_ := HOG.out
    have h8_ := HObg.out
    have s0_ := HLT1.out
    have s1_ := HLT2.out
    have s2_ := HLW.out
    have s3_ := HLbw.out
    have s4_ := HLX1.out
    have s5_ := HLbx.out
    have s6_ := HLX2.out
    have s7_ := HLG.out
    omega
  have ha_W : hiW ≤ lobg := by
    have h0_ := HObw.out
    have h1_ := HOX1.out
    have h2_ := HObx.out
    have h3_ := HOX2.out
    have h4_ := HOG.out
    have h5_ := HObg.out
    have s0_ := HLbw.out
    have s1_ := HLX1.out
    have s2_ := HLbx.out
    have s3_ := HLX2.out
    have s4_ := HLG.out
    omega
  have ha_bw : hibw ≤ lobg := by
    have h0_ := HOX1.out
    have h1_ := HObx.out
    have h2_ := HOX2.out
    have h3_ := HOG.out
    have h4_ := HObg.out
    have s0_ := HLX1.out
    have s1_ := HLbx.out
    have s2_ := HLX2.out
    have s3_ := HLG.out
    omega
  have ha_X1 : hiX1 ≤ lobg := by
    have h0_ := HObx.out
    have h1_ := HOX2.out
    have h2_ := HOG.out
    have h3_ := HObg.out
    have s0_ := HLbx.out
    have s1_ := HLX2.out
    have s2_ := HLG.out
    omega
  have ha_bx : hibx ≤ lobg := by
    have h0_ := HOX2.out
    have h1_ := HOG.out
    have h2_ := HObg.out
    have s0_ := HLX2.out
    have s1_ := HLG.out
    omega
  have ha_X2 : hiX2 ≤ lobg := by
    have h0_ := HOG.out
    have h1_ := HObg.out
    have s0_ := HLG.out
    omega
  have ha_G : hiG ≤ lobg := by
    have h0_ := HObg.out
    omega
  have n0_ := Aside0.mk (blk_kept HBarg.out hkp (by have h0_ := HHarg.out; have h1_ := ha_arg; unfold G.Span; omega))
  have n1_ := Aside0.mk (G.S_marked2 HW1.out hkp (.inl ha_W))
  have n2_ := Aside0.mk (G.R_marked HW2.out hkp (.inl ha_W))
  have n3_ := Aside0.mk (blk_kept HBbw.out hkp (by have h0_ := HHbw.out; have h1_ := ha_bw; unfold G.Span; omega))
  have n4_ := Aside0.mk (G.S_marked HX1.out hkp (.inl ha_X1))
  have n5_ := Aside0.mk (blk_kept HBbx.out hkp (by have h0_ := HHbx.out; have h1_ := ha_bx; unfold G.Span; omega))
  have n6_ := Aside0.mk (G.R_marked HX2.out hkp (.inl ha_X2))
  have n7_ := Aside0.mk (G.S_marked2 HG1.out hkp (.inl ha_G))
  have n8_ := Aside0.mk (G.R_marked HG2.out hkp (.inl ha_G))
  clear HBarg; have HBarg := n0_; clear n0_
  clear HW1; have HW1 := n1_; clear n1_
  clear HW2; have HW2 := n2_; clear n2_
  clear HBbw; have HBbw := n3_; clear n3_
  clear HX1; have HX1 := n4_; clear n4_
  clear HBbx; have HBbx := n5_; clear n5_
  clear HX2; have HX2 := n6_; clear n6_
  clear HG1; have HG1 := n7_; clear n7_
  clear HG2; have HG2 := n8_; clear n8_
  have np_ := Aside0.mk (Nat.le_trans HP.out hkp.1); have nb_ := Aside0.mk hb1_; clear HP HB hb1_; have HP := np_; have HB := nb_; clear np_ nb_ ha_arg ha_W ha_bw ha_X1 ha_bx ha_X2 ha_G
  have HBbg := Aside0.mk hbk_; clear hbk_ hkp
  clear hcz_arg_0
  clear hfz_arg_0
  clear hcz_bw_0
  clear hfz_bw_0
  clear hcz_bw_1
  clear hfz_bw_1
  clear hcz_bw_2
  clear hfz_bw_2
  clear hcz_bx_0
  clear hfz_bx_0
  clear hcz_bg_0
  clear hfz_bg_0
  clear hcz_bg_1
  clear hfz_bg_1
  clear hcz_bg_2
  clear hfz_bg_2
  clear hnb_arg_bw
  clear hnb_arg_bx
  clear hnb_arg_bg
  clear hnb_bw_arg
  clear hnb_bw_bx
  clear hnb_bw_bg
  clear hnb_bx_arg
  clear hnb_bx_bw
  clear hnb_bx_bg
  clear hnb_bg_arg
  clear hnb_bg_bw
  clear hnb_bg_bx
  have hcz_arg_0 : w14_.cell? ⟨loarg, 0, none⟩ = some (.slice A1 l1.length c1) := (blk_cell HBarg.out 0).trans rfl; have hfz_arg_0 := blk_frozen HBarg.out 0
  have hcz_bw_0 : w14_.cell? ⟨lobw, 0, none⟩ = some (.int .i64 rb) := (blk_cell HBbw.out 0).trans rfl; have hfz_bw_0 := blk_frozen HBbw.out 0
  have hcz_bw_1 : w14_.cell? ⟨lobw, 1, none⟩ = some (.slice AW1 R1.length cW1) := (blk_cell HBbw.out 1).trans rfl; have hfz_bw_1 := blk_frozen HBbw.out 1
  have hcz_bw_2 : w14_.cell? ⟨lobw, 2, none⟩ = some (.slice AW2 R2.length cW2) := (blk_cell HBbw.out 2).trans rfl; have hfz_bw_2 := blk_frozen HBbw.out 2
  have hcz_bx_0 : w14_.cell? ⟨lobx, 0, none⟩ = some (.slice AX1 l1.length cX1) := (blk_cell HBbx.out 0).trans rfl; have hfz_bx_0 := blk_frozen HBbx.out 0
  have hcz_bg_0 : w14_.cell? ⟨lobg, 0, none⟩ = some (.int .i64 rb) := (blk_cell HBbg.out 0).trans rfl; have hfz_bg_0 := blk_frozen HBbg.out 0
  have hcz_bg_1 : w14_.cell? ⟨lobg, 1, none⟩ = some (.slice AG1 R1.length cG1) := (blk_cell HBbg.out 1).trans rfl; have hfz_bg_1 := blk_frozen HBbg.out 1
  have hcz_bg_2 : w14_.cell? ⟨lobg, 2, none⟩ = some (.slice AG2 R2.length cG2) := (blk_cell HBbg.out 2).trans rfl; have hfz_bg_2 := blk_frozen HBbg.out 2
  have ha_ : hiarg ≤ lobw := by
    have h0_ := HOT1.out
    have h1_ := HOT2.out
    have h2_ := HOW.out
    have h3_ := HObw.out
    have s0_ := HLT1.out
    have s1_ := HLT2.out
    have s2_ := HLW.out
    omega
  have hnb_arg_bw : loarg ≠ lobw := by have h0_ := HHarg.out; have h1_ := HHbw.out; omega
  clear ha_
  have ha_ : hiarg ≤ lobx := by
    have h0_ := HOT1.out
    have h1_ := HOT2.out
    have h2_ := HOW.out
    have h3_ := HObw.out
    have h4_ := HOX1.out
    have h5_ := HObx.out
    have s0_ := HLT1.out
    have s1_ := HLT2.out
    have s2_ := HLW.out
    have s3_ := HLbw.out
    have s4_ := HLX1.out
    omega
  have hnb_arg_bx : loarg ≠ lobx := by have h0_ := HHarg.out; have h1_ := HHbx.out; omega
  clear ha_
  have ha_ : hiarg ≤ lobg := by
    have h0_ := HOT1.out
    have h1_ := HOT2.out
    have h2_ := HOW.out
    have h3_ := HObw.out
    have h4_ := HOX1.out
    have h5_ := HObx.out
    have h6_ := HOX2.out
    have h7_ := HOG.out
    have h8_ := HObg.out
    have s0_ := HLT1.out
    have s1_ := HLT2.out
    have s2_ := HLW.out
    have s3_ := HLbw.out
    have s4_ := HLX1.out
    have s5_ := HLbx.out
    have s6_ := HLX2.out
    have s7_ := HLG.out
    omega
  have hnb_arg_bg : loarg ≠ lobg := by have h0_ := HHarg.out; have h1_ := HHbg.out; omega
  clear ha_
  have ha_ : hiarg ≤ lobw := by
    have h0_ := HOT1.out
    have h1_ := HOT2.out
    have h2_ := HOW.out
    have h3_ := HObw.out
    have s0_ := HLT1.out
    have s1_ := HLT2.out
    have s2_ := HLW.out
    omega
  have hnb_bw_arg : lobw ≠ loarg := by have h0_ := HHbw.out; have h1_ := HHarg.out; omega
  clear ha_
  have ha_ : hibw ≤ lobx := by
    have h0_ := HOX1.out
    have h1_ := HObx.out
    have s0_ := HLX1.out
    omega
  have hnb_bw_bx : lobw ≠ lobx := by have h0_ := HHbw.out; have h1_ := HHbx.out; omega
  clear ha_
  have ha_ : hibw ≤ lobg := by
    have h0_ := HOX1.out
    have h1_ := HObx.out
    have h2_ := HOX2.out
    have h3_ := HOG.out
    have h4_ := HObg.out
    have s0_ := HLX1.out
    have s1_ := HLbx.out
    have s2_ := HLX2.out
    have s3_ := HLG.out
    omega
  have hnb_bw_bg : lobw ≠ lobg := by have h0_ := HHbw.out; have h1_ := HHbg.out; omega
  clear ha_
  have ha_ : hiarg ≤ lobx := by
    have h0_ := HOT1.out
    have h1_ := HOT2.out
    have h2_ := HOW.out
    have h3_ := HObw.out
    have h4_ := HOX1.out
    have h5_ := HObx.out
    have s0_ := HLT1.out
    have s1_ := HLT2.out
    have s2_ := HLW.out
    have s3_ := HLbw.out
    have s4_ := HLX1.out
    omega
  have hnb_bx_arg : lobx ≠ loarg := by have h0_ := HHbx.out; have h1_ := HHarg.out; omega
  clear ha_
  have ha_ : hibw ≤ lobx := by
    have h0_ := HOX1.out
    have h1_ := HObx.out
    have s0_ := HLX1.out
    omega
  have hnb_bx_bw : lobx ≠ lobw := by have h0_ := HHbx.out; have h1_ := HHbw.out; omega
  clear ha_
  have ha_ : hibx ≤ lobg := by
    have h0_ := HOX2.out
    have h1_ := HOG.out
    have h2_ := HObg.out
    have s0_ := HLX2.out
    have s1_ := HLG.out
    omega
  have hnb_bx_bg : lobx ≠ lobg := by have h0_ := HHbx.out; have h1_ := HHbg.out; omega
  clear ha_
  have ha_ : hiarg ≤ lobg := by
    have h0_ := HOT1.out
    have h1_ := HOT2.out
    have h2_ := HOW.out
    have h3_ := HObw.out
    have h4_ := HOX1.out
    have h5_ := HObx.out
    have h6_ := HOX2.out
    have h7_ := HOG.out
    have h8_ := HObg.out
    have s0_ := HLT1.out
    have s1_ := HLT2.out
    have s2_ := HLW.out
    have s3_ := HLbw.out
    have s4_ := HLX1.out
    have s5_ := HLbx.out
    have s6_ := HLX2.out
    have s7_ := HLG.out
    omega
  have hnb_bg_arg : lobg ≠ loarg := by have h0_ := HHbg.out; have h1_ := HHarg.out; omega
  clear ha_
  have ha_ : hibw ≤ lobg := by
    have h0_ := HOX1.out
    have h1_ := HObx.out
    have h2_ := HOX2.out
    have h3_ := HOG.out
    have h4_ := HObg.out
    have s0_ := HLX1.out
    have s1_ := HLbx.out
    have s2_ := HLX2.out
    have s3_ := HLG.out
    omega
  have hnb_bg_bw : lobg ≠ lobw := by have h0_ := HHbg.out; have h1_ := HHbw.out; omega
  clear ha_
  have ha_ : hibx ≤ lobg := by
    have h0_ := HOX2.out
    have h1_ := HOG.out
    have h2_ := HObg.out
    have s0_ := HLX2.out
    have s1_ := HLG.out
    omega
  have hnb_bg_bx : lobg ≠ lobx := by have h0_ := HHbg.out; have h1_ := HHbx.out; omega
  clear ha_
  refine (laws_eqSequence.calls k rb _ _ R1 _ _ R2 rb _ _ R1 _ _ R2 true _ (Kd.S_reads' HG1.out).2.2 (Kd.S_reads' HG1.out).2.1 (Kd.R_reads' HG2.out).2.2 (Kd.R_reads' HG2.out).2.1 (Kd.S_reads' HW1.out).2.2 (Kd.S_reads' HW1.out).2.1 (Kd.R_reads' HW2.out).2.2 (Kd.R_reads' HW2.out).2.1 FE.out).mono ?_
  rintro e w15_ ⟨rfl, hb⟩
  have n0_ := Aside0.mk (blk_below HBarg.out hb)
  have n1_ := Aside0.mk (Kd.S_below HW1.out hb)
  have n2_ := Aside0.mk (Kd.R_below HW2.out hb)
  have n3_ := Aside0.mk (blk_below HBbw.out hb)
  have n4_ := Aside0.mk (Kd.S_below HX1.out hb)
  have n5_ := Aside0.mk (blk_below HBbx.out hb)
  have n6_ := Aside0.mk (Kd.R_below HX2.out hb)
  have n7_ := Aside0.mk (Kd.S_below HG1.out hb)
  have n8_ := Aside0.mk (Kd.R_below HG2.out hb)
  have n9_ := Aside0.mk (blk_below HBbg.out hb)
  clear HBarg; have HBarg := n0_; clear n0_
  clear HW1; have HW1 := n1_; clear n1_
  clear HW2; have HW2 := n2_; clear n2_
  clear HBbw; have HBbw := n3_; clear n3_
  clear HX1; have HX1 := n4_; clear n4_
  clear HBbx; have HBbx := n5_; clear n5_
  clear HX2; have HX2 := n6_; clear n6_
  clear HG1; have HG1 := n7_; clear n7_
  clear HG2; have HG2 := n8_; clear n8_
  clear HBbg; have HBbg := n9_; clear n9_
  have nb_ := Aside0.mk (below_step HB.out hb); have np_ := Aside0.mk (Nat.le_trans HP.out hb.size); clear HB HP; have HB := nb_; have HP := np_; clear nb_ np_
  clear hb
  clear hcz_arg_0
  clear hfz_arg_0
  clear hcz_bw_0
  clear hfz_bw_0
  clear hcz_bw_1
  clear hfz_bw_1
  clear hcz_bw_2
  clear hfz_bw_2
  clear hcz_bx_0
  clear hfz_bx_0
  clear hcz_bg_0
  clear hfz_bg_0
  clear hcz_bg_1
  clear hfz_bg_1
  clear hcz_bg_2
  clear hfz_bg_2
  clear hnb_arg_bw
  clear hnb_arg_bx
  clear hnb_arg_bg
  clear hnb_bw_arg
  clear hnb_bw_bx
  clear hnb_bw_bg
  clear hnb_bx_arg
  clear hnb_bx_bw
  clear hnb_bx_bg
  clear hnb_bg_arg
  clear hnb_bg_bw
  clear hnb_bg_bx
  have hcz_arg_0 : w15_.cell? ⟨loarg, 0, none⟩ = some (.slice A1 l1.length c1) := (blk_cell HBarg.out 0).trans rfl; have hfz_arg_0 := blk_frozen HBarg.out 0
  have hcz_bw_0 : w15_.cell? ⟨lobw, 0, none⟩ = some (.int .i64 rb) := (blk_cell HBbw.out 0).trans rfl; have hfz_bw_0 := blk_frozen HBbw.out 0
  have hcz_bw_1 : w15_.cell? ⟨lobw, 1, none⟩ = some (.slice AW1 R1.length cW1) := (blk_cell HBbw.out 1).trans rfl; have hfz_bw_1 := blk_frozen HBbw.out 1
  have hcz_bw_2 : w15_.cell? ⟨lobw, 2, none⟩ = some (.slice AW2 R2.length cW2) := (blk_cell HBbw.out 2).trans rfl; have hfz_bw_2 := blk_frozen HBbw.out 2
  have hcz_bx_0 : w15_.cell? ⟨lobx, 0, none⟩ = some (.slice AX1 l1.length cX1) := (blk_cell HBbx.out 0).trans rfl; have hfz_bx_0 := blk_frozen HBbx.out 0
  have hcz_bg_0 : w15_.cell? ⟨lobg, 0, none⟩ = some (.int .i64 rb) := (blk_cell HBbg.out 0).trans rfl; have hfz_bg_0 := blk_frozen HBbg.out 0
  have hcz_bg_1 : w15_.cell? ⟨lobg, 1, none⟩ = some (.slice AG1 R1.length cG1) := (blk_cell HBbg.out 1).trans rfl; have hfz_bg_1 := blk_frozen HBbg.out 1
  have hcz_bg_2 : w15_.cell? ⟨lobg, 2, none⟩ = some (.slice AG2 R2.length cG2) := (blk_cell HBbg.out 2).trans rfl; have hfz_bg_2 := blk_frozen HBbg.out 2
  have ha_ : hiarg ≤ lobw := by
    have h0_ := HOT1.out
    have h1_ := HOT2.out
    have h2_ := HOW.out
    have h3_ := HObw.out
    have s0_ := HLT1.out
    have s1_ := HLT2.out
    have s2_ := HLW.out
    omega
  have hnb_arg_bw : loarg ≠ lobw := by have h0_ := HHarg.out; have h1_ := HHbw.out; omega
  clear ha_
  have ha_ : hiarg ≤ lobx := by
    have h0_ := HOT1.out
    have h1_ := HOT2.out
    have h2_ := HOW.out
    have h3_ := HObw.out
    have h4_ := HOX1.out
    have h5_ := HObx.out
    have s0_ := HLT1.out
    have s1_ := HLT2.out
    have s2_ := HLW.out
    have s3_ := HLbw.out
    have s4_ := HLX1.out
    omega
  have hnb_arg_bx : loarg ≠ lobx := by have h0_ := HHarg.out; have h1_ := HHbx.out; omega
  clear ha_
  have ha_ : hiarg ≤ lobg := by
    have h0_ := HOT1.out
    have h1_ := HOT2.out
    have h2_ := HOW.out
    have h3_ := HObw.out
    have h4_ := HOX1.out
    have h5_ := HObx.out
    have h6_ := HOX2.out
    have h7_ := HOG.out
    have h8_ := HObg.out
    have s0_ := HLT1.out
    have s1_ := HLT2.out
    have s2_ := HLW.out
    have s3_ := HLbw.out
    have s4_ := HLX1.out
    have s5_ := HLbx.out
    have s6_ := HLX2.out
    have s7_ := HLG.out
    omega
  have hnb_arg_bg : loarg ≠ lobg := by have h0_ := HHarg.out; have h1_ := HHbg.out; omega
  clear ha_
  have ha_ : hiarg ≤ lobw := by
    have h0_ := HOT1.out
    have h1_ := HOT2.out
    have h2_ := HOW.out
    have h3_ := HObw.out
    have s0_ := HLT1.out
    have s1_ := HLT2.out
    have s2_ := HLW.out
    omega
  have hnb_bw_arg : lobw ≠ loarg := by have h0_ := HHbw.out; have h1_ := HHarg.out; omega
  clear ha_
  have ha_ : hibw ≤ lobx := by
    have h0_ := HOX1.out
    have h1_ := HObx.out
    have s0_ := HLX1.out
    omega
  have hnb_bw_bx : lobw ≠ lobx := by have h0_ := HHbw.out; have h1_ := HHbx.out; omega
  clear ha_
  have ha_ : hibw ≤ lobg := by
    have h0_ := HOX1.out
    have h1_ := HObx.out
    have h2_ := HOX2.out
    have h3_ := HOG.out
    have h4_ := HObg.out
    have s0_ := HLX1.out
    have s1_ := HLbx.out
    have s2_ := HLX2.out
    have s3_ := HLG.out
    omega
  have hnb_bw_bg : lobw ≠ lobg := by have h0_ := HHbw.out; have h1_ := HHbg.out; omega
  clear ha_
  have ha_ : hiarg ≤ lobx := by
    have h0_ := HOT1.out
    have h1_ := HOT2.out
    have h2_ := HOW.out
    have h3_ := HObw.out
    have h4_ := HOX1.out
    have h5_ := HObx.out
    have s0_ := HLT1.out
    have s1_ := HLT2.out
    have s2_ := HLW.out
    have s3_ := HLbw.out
    have s4_ := HLX1.out
    omega
  have hnb_bx_arg : lobx ≠ loarg := by have h0_ := HHbx.out; have h1_ := HHarg.out; omega
  clear ha_
  have ha_ : hibw ≤ lobx := by
    have h0_ := HOX1.out
    have h1_ := HObx.out
    have s0_ := HLX1.out
    omega
  have hnb_bx_bw : lobx ≠ lobw := by have h0_ := HHbx.out; have h1_ := HHbw.out; omega
  clear ha_
  have ha_ : hibx ≤ lobg := by
    have h0_ := HOX2.out
    have h1_ := HOG.out
    have h2_ := HObg.out
    have s0_ := HLX2.out
    have s1_ := HLG.out
    omega
  have hnb_bx_bg : lobx ≠ lobg := by have h0_ := HHbx.out; have h1_ := HHbg.out; omega
  clear ha_
  have ha_ : hiarg ≤ lobg := by
    have h0_ := HOT1.out
    have h1_ := HOT2.out
    have h2_ := HOW.out
    have h3_ := HObw.out
    have h4_ := HOX1.out
    have h5_ := HObx.out
    have h6_ := HOX2.out
    have h7_ := HOG.out
    have h8_ := HObg.out
    have s0_ := HLT1.out
    have s1_ := HLT2.out
    have s2_ := HLW.out
    have s3_ := HLbw.out
    have s4_ := HLX1.out
    have s5_ := HLbx.out
    have s6_ := HLX2.out
    have s7_ := HLG.out
    omega
  have hnb_bg_arg : lobg ≠ loarg := by have h0_ := HHbg.out; have h1_ := HHarg.out; omega
  clear ha_
  have ha_ : hibw ≤ lobg := by
    have h0_ := HOX1.out
    have h1_ := HObx.out
    have h2_ := HOX2.out
    have h3_ := HOG.out
    have h4_ := HObg.out
    have s0_ := HLX1.out
    have s1_ := HLbx.out
    have s2_ := HLX2.out
    have s3_ := HLG.out
    omega
  have hnb_bg_bw : lobg ≠ lobw := by have h0_ := HHbg.out; have h1_ := HHbw.out; omega
  clear ha_
  have ha_ : hibx ≤ lobg := by
    have h0_ := HOX2.out
    have h1_ := HOG.out
    have h2_ := HObg.out
    have s0_ := HLX2.out
    have s1_ := HLG.out
    omega
  have hnb_bg_bx : lobg ≠ lobx := by have h0_ := HHbg.out; have h1_ := HHbx.out; omega
  clear ha_
  go_wp2_with fail
  clear hcz_arg_0
  clear hfz_arg_0
  clear hcz_bw_0
  clear hfz_bw_0
  clear hcz_bw_1
  clear hfz_bw_1
  clear hcz_bw_2
  clear hfz_bw_2
  clear hcz_bx_0
  clear hfz_bx_0
  clear hcz_bg_0
  clear hfz_bg_0
  clear hcz_bg_1
  clear hfz_bg_1
  clear hcz_bg_2
  clear hfz_bg_2
  clear hnb_arg_bw
  clear hnb_arg_bx
  clear hnb_arg_bg
  clear hnb_bw_arg
  clear hnb_bw_bx
  clear hnb_bw_bg
  clear hnb_bx_arg
  clear hnb_bx_bw
  clear hnb_bx_bg
  clear hnb_bg_arg
  clear hnb_bg_bw
  clear hnb_bg_bx
  have n0_ := Aside0.mk (blk_drew HBarg.out)
  have n1_ := Aside0.mk (Kd.S_drew HW1.out)
  have n2_ := Aside0.mk (Kd.R_drew HW2.out)
  have n3_ := Aside0.mk (blk_drew HBbw.out)
  have n4_ := Aside0.mk (Kd.S_drew HX1.out)
  have n5_ := Aside0.mk (blk_drew HBbx.out)
  have n6_ := Aside0.mk (Kd.R_drew HX2.out)
  have n7_ := Aside0.mk (Kd.S_drew HG1.out)
  have n8_ := Aside0.mk (Kd.R_drew HG2.out)
  have n9_ := Aside0.mk (blk_drew HBbg.out)
  clear HBarg; have HBarg := n0_; clear n0_
  clear HW1; have HW1 := n1_; clear n1_
  clear HW2; have HW2 := n2_; clear n2_
  clear HBbw; have HBbw := n3_; clear n3_
  clear HX1; have HX1 := n4_; clear n4_
  clear HBbx; have HBbx := n5_; clear n5_
  clear HX2; have HX2 := n6_; clear n6_
  clear HG1; have HG1 := n7_; clear n7_
  clear HG2; have HG2 := n8_; clear n8_
  clear HBbg; have HBbg := n9_; clear n9_
  have nb_ := Aside0.mk (below_drew1 HB.out); have np_ := Aside0.mk (show hibg ≤ w15_.drew.heap.size from HP.out); clear HB HP; have HB := nb_; have HP := np_; clear nb_ np_
  refine start_ (n := 5) (S := fun w' => w'.cell? ⟨lobx, 0, none⟩ = some (.slice AX1 l1.length cX1) ∧ w'.cell? ⟨loarg, 0, none⟩ = some (.slice A1 l1.length c1)) (ds := []) #[false, false, false, false, false] (by kernel_rfl) rfl rfl ⟨(blk_cell HBbx.out 0).trans rfl, (blk_cell HBarg.out 0).trans rfl⟩ (fun hHeld => ?_)
  generalize w15_.drew = w16_ at HBarg HW1 HW2 HBbw HX1 HBbx HX2 HG1 HG2 HBbg HB HP hHeld ⊢
  refine take_ (i := 0) (N := some 52) (v := ?_) (a' := ?_) #[true, false, false, false, false] rfl rfl (by kernel_rfl) (fun _ _ _ h => h) (Or.inl ⟨by rfl, ?_⟩) hHeld ?_ ?_
  rotate_left
  · rintro w' ⟨s0, s1⟩; go_simp; with_reducible rfl
  rotate_left
  · simp only [Act.put, List.setIfInBounds_toArray, List.set_cons_zero, List.set_cons_succ, i64_w, i32_w]; rfl
  refine take_ (i := 1) (N := some 53) (v := ?_) (a' := ?_) #[true, true, false, false, false] rfl rfl (by kernel_rfl) (fun _ _ _ h => h) (Or.inl ⟨by rfl, ?_⟩) hHeld ?_ ?_
  rotate_left
  · rintro w' ⟨s0, s1⟩; go_simp; with_reducible rfl
  rotate_left
  · simp only [Act.put, List.setIfInBounds_toArray, List.set_cons_zero, List.set_cons_succ, i64_w, i32_w]; rfl
  refine one_ (i := 2) (N := some 54) #[true, true, true, false, false] rfl rfl (by kernel_rfl) (by decide) (fun K hK => ?_)
  refine goes_ Try.func17 (by kernel_rfl) rfl #[.agg #[.slice A1 l1.length c1]] (by rfl) rfl rfl (by (try simp only [List.map_toArray, List.map_cons, List.map_nil]); first | done | rfl | (simp only [List.length_drop, List.length_take]; rfl)) ?_
  refine (laws_toMorphism.calls k _ _ l1 l1 _ (Kd.C_below HA1.out HB.out) HC1.out FT1.out).mono ?_
  rintro e w17_ ⟨v1_, rfl, hoY1, hb⟩
  refine ⟨_, rfl, ?_⟩
  obtain ⟨loY1, hiY1, hlo_, hhi_, hp_, hl_, hs_⟩ := G.span_of hb HP.out
  have hY1 := G.S_in hoY1 HB.out hlo_ hhi_
  have n0_ := Aside0.mk (blk_below HBarg.out hb)
  have n1_ := Aside0.mk (Kd.S_below HW1.out hb)
  have n2_ := Aside0.mk (Kd.R_below HW2.out hb)
  have n3_ := Aside0.mk (blk_below HBbw.out hb)
  have n4_ := Aside0.mk (Kd.S_below HX1.out hb)
  have n5_ := Aside0.mk (blk_below HBbx.out hb)
  have n6_ := Aside0.mk (Kd.R_below HX2.out hb)
  have n7_ := Aside0.mk (Kd.S_below HG1.out hb)
  have n8_ := Aside0.mk (Kd.R_below HG2.out hb)
  have n9_ := Aside0.mk (blk_below HBbg.out hb)
  clear HBarg; have HBarg := n0_; clear n0_
  clear HW1; have HW1 := n1_; clear n1_
  clear HW2; have HW2 := n2_; clear n2_
  clear HBbw; have HBbw := n3_; clear n3_
  clear HX1; have HX1 := n4_; clear n4_
  clear HBbx; have HBbx := n5_; clear n5_
  clear HX2; have HX2 := n6_; clear n6_
  clear HG1; have HG1 := n7_; clear n7_
  clear HG2; have HG2 := n8_; clear n8_
  clear HBbg; have HBbg := n9_; clear n9_
  have nb_ := Aside0.mk (below_step HB.out hb); have np_ := Aside0.mk (Nat.le_trans HP.out hb.size); clear HB HP; have HB := nb_; have HP := np_; clear nb_ np_
  clear hoY1 hb hlo_ hhi_
  have HOY1 := Aside0.mk hp_; have HLY1 := Aside0.mk hl_; clear HP; have HP := Aside0.mk hs_; clear hp_ hl_ hs_
  obtain ⟨AY1, cY1, eY1⟩ := Kd.S_slice hY1; subst eY1
  have HY1 := Aside0.mk hY1; clear hY1
  refine hK.out _ _ ⟨(blk_cell HBbx.out 0).trans rfl, (blk_cell HBarg.out 0).trans rfl⟩ (fun hHeld => ?_)
  refine norm_ (a' := ?_) ?_ ?_
  rotate_left
  · show Act.put _ (some 54) _ = _; simp only [Act.put, List.setIfInBounds_toArray, List.set_cons_zero, List.set_cons_succ, i64_w, i32_w]; rfl
  refine one_ (i := 3) (N := some 55) #[true, true, true, true, false] rfl rfl (by kernel_rfl) (by decide) (fun K hK => ?_)
  refine goes_ Try.func19 (by kernel_rfl) rfl #[.agg #[.slice AX1 l1.length cX1], .agg #[.slice AY1 l1.length cY1]] (by rfl) rfl rfl (by (try simp only [List.map_toArray, List.map_cons, List.map_nil]); first | done | rfl | (simp only [List.length_drop, List.length_take]; rfl)) ?_
  refine (laws_eqMorphism.calls k _ _ l1 _ _ l1 true _ (Kd.S_reads' HX1.out).2.2 (Kd.S_reads' HX1.out).2.1 (Kd.S_reads' HY1.out).2.2 (Kd.S_reads' HY1.out).2.1 FQ1.out).mono ?_
  rintro e w18_ ⟨rfl, hb⟩
  refine ⟨_, rfl, ?_⟩
  have n0_ := Aside0.mk (blk_below HBarg.out hb)
  have n1_ := Aside0.mk (Kd.S_below HW1.out hb)
  have n2_ := Aside0.mk (Kd.R_below HW2.out hb)
  have n3_ := Aside0.mk (blk_below HBbw.out hb)
  have n4_ := Aside0.mk (Kd.S_below HX1.out hb)
  have n5_ := Aside0.mk (blk_below HBbx.out hb)
  have n6_ := Aside0.mk (Kd.R_below HX2.out hb)
  have n7_ := Aside0.mk (Kd.S_below HG1.out hb)
  have n8_ := Aside0.mk (Kd.R_below HG2.out hb)
  have n9_ := Aside0.mk (blk_below HBbg.out hb)
  have n10_ := Aside0.mk (Kd.S_below HY1.out hb)
  clear HBarg; have HBarg := n0_; clear n0_
  clear HW1; have HW1 := n1_; clear n1_
  clear HW2; have HW2 := n2_; clear n2_
  clear HBbw; have HBbw := n3_; clear n3_
  clear HX1; have HX1 := n4_; clear n4_
  clear HBbx; have HBbx := n5_; clear n5_
  clear HX2; have HX2 := n6_; clear n6_
  clear HG1; have HG1 := n7_; clear n7_
  clear HG2; have HG2 := n8_; clear n8_
  clear HBbg; have HBbg := n9_; clear n9_
  clear HY1; have HY1 := n10_; clear n10_
  have nb_ := Aside0.mk (below_step HB.out hb); have np_ := Aside0.mk (Nat.le_trans HP.out hb.size); clear HB HP; have HB := nb_; have HP := np_; clear nb_ np_
  clear hb
  refine hK.out _ _ ⟨(blk_cell HBbx.out 0).trans rfl, (blk_cell HBarg.out 0).trans rfl⟩ (fun hHeld => ?_)
  refine norm_ (a' := ?_) ?_ ?_
  rotate_left
  · show Act.put _ (some 55) _ = _; simp only [Act.put, List.setIfInBounds_toArray, List.set_cons_zero, List.set_cons_succ, i64_w, i32_w]; rfl
  refine pure_ (i := 4) (N := some 56) (v := ?_) (a' := ?_) #[true, true, true, true, true] rfl rfl (by kernel_rfl) (fun _ _ _ h => h) (Or.inl ⟨by rfl, ?_⟩) ?_ ?_
  rotate_left
  · intro w'; go_simp; with_reducible rfl
  rotate_left
  · simp only [Act.put, List.setIfInBounds_toArray, List.set_cons_zero, List.set_cons_succ, i64_w, i32_w]; rfl
  refine done_ (by kernel_rfl) ?_
  have hcz_arg_0 : w18_.cell? ⟨loarg, 0, none⟩ = some (.slice A1 l1.length c1) := (blk_cell HBarg.out 0).trans rfl; have hfz_arg_0 := blk_frozen HBarg.out 0
  have hcz_bw_0 : w18_.cell? ⟨lobw, 0, none⟩ = some (.int .i64 rb) := (blk_cell HBbw.out 0).trans rfl; have hfz_bw_0 := blk_frozen HBbw.out 0
  have hcz_bw_1 : w18_.cell? ⟨lobw, 1, none⟩ = some (.slice AW1 R1.length cW1) := (blk_cell HBbw.out 1).trans rfl; have hfz_bw_1 := blk_frozen HBbw.out 1
  have hcz_bw_2 : w18_.cell? ⟨lobw, 2, none⟩ = some (.slice AW2 R2.length cW2) := (blk_cell HBbw.out 2).trans rfl; have hfz_bw_2 := blk_frozen HBbw.out 2
  have hcz_bx_0 : w18_.cell? ⟨lobx, 0, none⟩ = some (.slice AX1 l1.length cX1) := (blk_cell HBbx.out 0).trans rfl; have hfz_bx_0 := blk_frozen HBbx.out 0
  have hcz_bg_0 : w18_.cell? ⟨lobg, 0, none⟩ = some (.int .i64 rb) := (blk_cell HBbg.out 0).trans rfl; have hfz_bg_0 := blk_frozen HBbg.out 0
  have hcz_bg_1 : w18_.cell? ⟨lobg, 1, none⟩ = some (.slice AG1 R1.length cG1) := (blk_cell HBbg.out 1).trans rfl; have hfz_bg_1 := blk_frozen HBbg.out 1
  have hcz_bg_2 : w18_.cell? ⟨lobg, 2, none⟩ = some (.slice AG2 R2.length cG2) := (blk_cell HBbg.out 2).trans rfl; have hfz_bg_2 := blk_frozen HBbg.out 2
  have ha_ : hiarg ≤ lobw := by
    have h0_ := HOT1.out
    have h1_ := HOT2.out
    have h2_ := HOW.out
    have h3_ := HObw.out
    have s0_ := HLT1.out
    have s1_ := HLT2.out
    have s2_ := HLW.out
    omega
  have hnb_arg_bw : loarg ≠ lobw := by have h0_ := HHarg.out; have h1_ := HHbw.out; omega
  clear ha_
  have ha_ : hiarg ≤ lobx := by
    have h0_ := HOT1.out
    have h1_ := HOT2.out
    have h2_ := HOW.out
    have h3_ := HObw.out
    have h4_ := HOX1.out
    have h5_ := HObx.out
    have s0_ := HLT1.out
    have s1_ := HLT2.out
    have s2_ := HLW.out
    have s3_ := HLbw.out
    have s4_ := HLX1.out
    omega
  have hnb_arg_bx : loarg ≠ lobx := by have h0_ := HHarg.out; have h1_ := HHbx.out; omega
  clear ha_
  have ha_ : hiarg ≤ lobg := by
    have h0_ := HOT1.out
    have h1_ := HOT2.out
    have h2_ := HOW.out
    have h3_ := HObw.out
    have h4_ := HOX1.out
    have h5_ := HObx.out
    have h6_ := HOX2.out
    have h7_ := HOG.out
    have h8_ := HObg.out
    have s0_ := HLT1.out
    have s1_ := HLT2.out
    have s2_ := HLW.out
    have s3_ := HLbw.out
    have s4_ := HLX1.out
    have s5_ := HLbx.out
    have s6_ := HLX2.out
    have s7_ := HLG.out
    omega
  have hnb_arg_bg : loarg ≠ lobg := by have h0_ := HHarg.out; have h1_ := HHbg.out; omega
  clear ha_
  have ha_ : hiarg ≤ lobw := by
    have h0_ := HOT1.out
    have h1_ := HOT2.out
    have h2_ := HOW.out
    have h3_ := HObw.out
    have s0_ := HLT1.out
    have s1_ := HLT2.out
    have s2_ := HLW.out
    omega
  have hnb_bw_arg : lobw ≠ loarg := by have h0_ := HHbw.out; have h1_ := HHarg.out; omega
  clear ha_
  have ha_ : hibw ≤ lobx := by
    have h0_ := HOX1.out
    have h1_ := HObx.out
    have s0_ := HLX1.out
    omega
  have hnb_bw_bx : lobw ≠ lobx := by have h0_ := HHbw.out; have h1_ := HHbx.out; omega
  clear ha_
  have ha_ : hibw ≤ lobg := by
    have h0_ := HOX1.out
    have h1_ := HObx.out
    have h2_ := HOX2.out
    have h3_ := HOG.out
    have h4_ := HObg.out
    have s0_ := HLX1.out
    have s1_ := HLbx.out
    have s2_ := HLX2.out
    have s3_ := HLG.out
    omega
  have hnb_bw_bg : lobw ≠ lobg := by have h0_ := HHbw.out; have h1_ := HHbg.out; omega
  clear ha_
  have ha_ : hiarg ≤ lobx := by
    have h0_ := HOT1.out
    have h1_ := HOT2.out
    have h2_ := HOW.out
    have h3_ := HObw.out
    have h4_ := HOX1.out
    have h5_ := HObx.out
    have s0_ := HLT1.out
    have s1_ := HLT2.out
    have s2_ := HLW.out
    have s3_ := HLbw.out
    have s4_ := HLX1.out
    omega
  have hnb_bx_arg : lobx ≠ loarg := by have h0_ := HHbx.out; have h1_ := HHarg.out; omega
  clear ha_
  have ha_ : hibw ≤ lobx := by
    have h0_ := HOX1.out
    have h1_ := HObx.out
    have s0_ := HLX1.out
    omega
  have hnb_bx_bw : lobx ≠ lobw := by have h0_ := HHbx.out; have h1_ := HHbw.out; omega
  clear ha_
  have ha_ : hibx ≤ lobg := by
    have h0_ := HOX2.out
    have h1_ := HOG.out
    have h2_ := HObg.out
    have s0_ := HLX2.out
    have s1_ := HLG.out
    omega
  have hnb_bx_bg : lobx ≠ lobg := by have h0_ := HHbx.out; have h1_ := HHbg.out; omega
  clear ha_
  have ha_ : hiarg ≤ lobg := by
    have h0_ := HOT1.out
    have h1_ := HOT2.out
    have h2_ := HOW.out
    have h3_ := HObw.out
    have h4_ := HOX1.out
    have h5_ := HObx.out
    have h6_ := HOX2.out
    have h7_ := HOG.out
    have h8_ := HObg.out
    have s0_ := HLT1.out
    have s1_ := HLT2.out
    have s2_ := HLW.out
    have s3_ := HLbw.out
    have s4_ := HLX1.out
    have s5_ := HLbx.out
    have s6_ := HLX2.out
    have s7_ := HLG.out
    omega
  have hnb_bg_arg : lobg ≠ loarg := by have h0_ := HHbg.out; have h1_ := HHarg.out; omega
  clear ha_
  have ha_ : hibw ≤ lobg := by
    have h0_ := HOX1.out
    have h1_ := HObx.out
    have h2_ := HOX2.out
    have h3_ := HOG.out
    have h4_ := HObg.out
    have s0_ := HLX1.out
    have s1_ := HLbx.out
    have s2_ := HLX2.out
    have s3_ := HLG.out
    omega
  have hnb_bg_bw : lobg ≠ lobw := by have h0_ := HHbg.out; have h1_ := HHbw.out; omega
  clear ha_
  have ha_ : hibx ≤ lobg := by
    have h0_ := HOX2.out
    have h1_ := HOG.out
    have h2_ := HObg.out
    have s0_ := HLX2.out
    have s1_ := HLG.out
    omega
  have hnb_bg_bx : lobg ≠ lobx := by have h0_ := HHbg.out; have h1_ := HHbx.out; omega
  clear ha_
  clear HY1
  go_wp2_with fail
  refine (laws_toIntS.calls k _ _ l2 l2 _ (Kd.C_below HA2.out HB.out) HC2.out FT2.out).mono ?_
  rintro e w19_ ⟨v1_, rfl, hoY2, hb⟩
  obtain ⟨loY2, hiY2, hlo_, hhi_, hp_, hl_, hs_⟩ := G.span_of hb HP.out
  have hY2 := G.R_in hoY2 HB.out hlo_ hhi_
  have n0_ := Aside0.mk (blk_below HBarg.out hb)
  have n1_ := Aside0.mk (Kd.S_below HW1.out hb)
  have n2_ := Aside0.mk (Kd.R_below HW2.out hb)
  have n3_ := Aside0.mk (blk_below HBbw.out hb)
  have n4_ := Aside0.mk (Kd.S_below HX1.out hb)
  have n5_ := Aside0.mk (blk_below HBbx.out hb)
  have n6_ := Aside0.mk (Kd.R_below HX2.out hb)
  have n7_ := Aside0.mk (Kd.S_below HG1.out hb)
  have n8_ := Aside0.mk (Kd.R_below HG2.out hb)
  have n9_ := Aside0.mk (blk_below HBbg.out hb)
  clear HBarg; have HBarg := n0_; clear n0_
  clear HW1; have HW1 := n1_; clear n1_
  clear HW2; have HW2 := n2_; clear n2_
  clear HBbw; have HBbw := n3_; clear n3_
  clear HX1; have HX1 := n4_; clear n4_
  clear HBbx; have HBbx := n5_; clear n5_
  clear HX2; have HX2 := n6_; clear n6_
  clear HG1; have HG1 := n7_; clear n7_
  clear HG2; have HG2 := n8_; clear n8_
  clear HBbg; have HBbg := n9_; clear n9_
  have nb_ := Aside0.mk (below_step HB.out hb); have np_ := Aside0.mk (Nat.le_trans HP.out hb.size); clear HB HP; have HB := nb_; have HP := np_; clear nb_ np_
  clear hoY2 hb hlo_ hhi_
  have HOY2 := Aside0.mk hp_; have HLY2 := Aside0.mk hl_; clear HP; have HP := Aside0.mk hs_; clear hp_ hl_ hs_
  obtain ⟨AY2, cY2, eY2⟩ := Kd.R_slice hY2; subst eY2
  have HY2 := Aside0.mk hY2; clear hY2
  clear hcz_arg_0
  clear hfz_arg_0
  clear hcz_bw_0
  clear hfz_bw_0
  clear hcz_bw_1
  clear hfz_bw_1
  clear hcz_bw_2
  clear hfz_bw_2
  clear hcz_bx_0
  clear hfz_bx_0
  clear hcz_bg_0
  clear hfz_bg_0
  clear hcz_bg_1
  clear hfz_bg_1
  clear hcz_bg_2
  clear hfz_bg_2
  clear hnb_arg_bw
  clear hnb_arg_bx
  clear hnb_arg_bg
  clear hnb_bw_arg
  clear hnb_bw_bx
  clear hnb_bw_bg
  clear hnb_bx_arg
  clear hnb_bx_bw
  clear hnb_bx_bg
  clear hnb_bg_arg
  clear hnb_bg_bw
  clear hnb_bg_bx
  have hcz_arg_0 : w19_.cell? ⟨loarg, 0, none⟩ = some (.slice A1 l1.length c1) := (blk_cell HBarg.out 0).trans rfl; have hfz_arg_0 := blk_frozen HBarg.out 0
  have hcz_bw_0 : w19_.cell? ⟨lobw, 0, none⟩ = some (.int .i64 rb) := (blk_cell HBbw.out 0).trans rfl; have hfz_bw_0 := blk_frozen HBbw.out 0
  have hcz_bw_1 : w19_.cell? ⟨lobw, 1, none⟩ = some (.slice AW1 R1.length cW1) := (blk_cell HBbw.out 1).trans rfl; have hfz_bw_1 := blk_frozen HBbw.out 1
  have hcz_bw_2 : w19_.cell? ⟨lobw, 2, none⟩ = some (.slice AW2 R2.length cW2) := (blk_cell HBbw.out 2).trans rfl; have hfz_bw_2 := blk_frozen HBbw.out 2
  have hcz_bx_0 : w19_.cell? ⟨lobx, 0, none⟩ = some (.slice AX1 l1.length cX1) := (blk_cell HBbx.out 0).trans rfl; have hfz_bx_0 := blk_frozen HBbx.out 0
  have hcz_bg_0 : w19_.cell? ⟨lobg, 0, none⟩ = some (.int .i64 rb) := (blk_cell HBbg.out 0).trans rfl; have hfz_bg_0 := blk_frozen HBbg.out 0
  have hcz_bg_1 : w19_.cell? ⟨lobg, 1, none⟩ = some (.slice AG1 R1.length cG1) := (blk_cell HBbg.out 1).trans rfl; have hfz_bg_1 := blk_frozen HBbg.out 1
  have hcz_bg_2 : w19_.cell? ⟨lobg, 2, none⟩ = some (.slice AG2 R2.length cG2) := (blk_cell HBbg.out 2).trans rfl; have hfz_bg_2 := blk_frozen HBbg.out 2
  have ha_ : hiarg ≤ lobw := by
    have h0_ := HOT1.out
    have h1_ := HOT2.out
    have h2_ := HOW.out
    have h3_ := HObw.out
    have s0_ := HLT1.out
    have s1_ := HLT2.out
    have s2_ := HLW.out
    omega
  have hnb_arg_bw : loarg ≠ lobw := by have h0_ := HHarg.out; have h1_ := HHbw.out; omega
  clear ha_
  have ha_ : hiarg ≤ lobx := by
    have h0_ := HOT1.out
    have h1_ := HOT2.out
    have h2_ := HOW.out
    have h3_ := HObw.out
    have h4_ := HOX1.out
    have h5_ := HObx.out
    have s0_ := HLT1.out
    have s1_ := HLT2.out
    have s2_ := HLW.out
    have s3_ := HLbw.out
    have s4_ := HLX1.out
    omega
  have hnb_arg_bx : loarg ≠ lobx := by have h0_ := HHarg.out; have h1_ := HHbx.out; omega
  clear ha_
  have ha_ : hiarg ≤ lobg := by
    have h0_ := HOT1.out
    have h1_ := HOT2.out
    have h2_ := HOW.out
    have h3_ := HObw.out
    have h4_ := HOX1.out
    have h5_ := HObx.out
    have h6_ := HOX2.out
    have h7_ := HOG.out
    have h8_ := HObg.out
    have s0_ := HLT1.out
    have s1_ := HLT2.out
    have s2_ := HLW.out
    have s3_ := HLbw.out
    have s4_ := HLX1.out
    have s5_ := HLbx.out
    have s6_ := HLX2.out
    have s7_ := HLG.out
    omega
  have hnb_arg_bg : loarg ≠ lobg := by have h0_ := HHarg.out; have h1_ := HHbg.out; omega
  clear ha_
  have ha_ : hiarg ≤ lobw := by
    have h0_ := HOT1.out
    have h1_ := HOT2.out
    have h2_ := HOW.out
    have h3_ := HObw.out
    have s0_ := HLT1.out
    have s1_ := HLT2.out
    have s2_ := HLW.out
    omega
  have hnb_bw_arg : lobw ≠ loarg := by have h0_ := HHbw.out; have h1_ := HHarg.out; omega
  clear ha_
  have ha_ : hibw ≤ lobx := by
    have h0_ := HOX1.out
    have h1_ := HObx.out
    have s0_ := HLX1.out
    omega
  have hnb_bw_bx : lobw ≠ lobx := by have h0_ := HHbw.out; have h1_ := HHbx.out; omega
  clear ha_
  have ha_ : hibw ≤ lobg := by
    have h0_ := HOX1.out
    have h1_ := HObx.out
    have h2_ := HOX2.out
    have h3_ := HOG.out
    have h4_ := HObg.out
    have s0_ := HLX1.out
    have s1_ := HLbx.out
    have s2_ := HLX2.out
    have s3_ := HLG.out
    omega
  have hnb_bw_bg : lobw ≠ lobg := by have h0_ := HHbw.out; have h1_ := HHbg.out; omega
  clear ha_
  have ha_ : hiarg ≤ lobx := by
    have h0_ := HOT1.out
    have h1_ := HOT2.out
    have h2_ := HOW.out
    have h3_ := HObw.out
    have h4_ := HOX1.out
    have h5_ := HObx.out
    have s0_ := HLT1.out
    have s1_ := HLT2.out
    have s2_ := HLW.out
    have s3_ := HLbw.out
    have s4_ := HLX1.out
    omega
  have hnb_bx_arg : lobx ≠ loarg := by have h0_ := HHbx.out; have h1_ := HHarg.out; omega
  clear ha_
  have ha_ : hibw ≤ lobx := by
    have h0_ := HOX1.out
    have h1_ := HObx.out
    have s0_ := HLX1.out
    omega
  have hnb_bx_bw : lobx ≠ lobw := by have h0_ := HHbx.out; have h1_ := HHbw.out; omega
  clear ha_
  have ha_ : hibx ≤ lobg := by
    have h0_ := HOX2.out
    have h1_ := HOG.out
    have h2_ := HObg.out
    have s0_ := HLX2.out
    have s1_ := HLG.out
    omega
  have hnb_bx_bg : lobx ≠ lobg := by have h0_ := HHbx.out; have h1_ := HHbg.out; omega
  clear ha_
  have ha_ : hiarg ≤ lobg := by
    have h0_ := HOT1.out
    have h1_ := HOT2.out
    have h2_ := HOW.out
    have h3_ := HObw.out
    have h4_ := HOX1.out
    have h5_ := HObx.out
    have h6_ := HOX2.out
    have h7_ := HOG.out
    have h8_ := HObg.out
    have s0_ := HLT1.out
    have s1_ := HLT2.out
    have s2_ := HLW.out
    have s3_ := HLbw.out
    have s4_ := HLX1.out
    have s5_ := HLbx.out
    have s6_ := HLX2.out
    have s7_ := HLG.out
    omega
  have hnb_bg_arg : lobg ≠ loarg := by have h0_ := HHbg.out; have h1_ := HHarg.out; omega
  clear ha_
  have ha_ : hibw ≤ lobg := by
    have h0_ := HOX1.out
    have h1_ := HObx.out
    have h2_ := HOX2.out
    have h3_ := HOG.out
    have h4_ := HObg.out
    have s0_ := HLX1.out
    have s1_ := HLbx.out
    have s2_ := HLX2.out
    have s3_ := HLG.out
    omega
  have hnb_bg_bw : lobg ≠ lobw := by have h0_ := HHbg.out; have h1_ := HHbw.out; omega
  clear ha_
  have ha_ : hibx ≤ lobg := by
    have h0_ := HOX2.out
    have h1_ := HOG.out
    have h2_ := HObg.out
    have s0_ := HLX2.out
    have s1_ := HLG.out
    omega
  have hnb_bg_bx : lobg ≠ lobx := by have h0_ := HHbg.out; have h1_ := HHbx.out; omega
  clear ha_
  go_wp2_with fail
  refine (laws_eqIntS.calls k _ _ l2 _ _ l2 true _ (Kd.R_reads' HX2.out).2.2 (Kd.R_reads' HX2.out).2.1 (Kd.R_reads' HY2.out).2.2 (Kd.R_reads' HY2.out).2.1 FQ2.out).mono ?_
  rintro e w20_ ⟨rfl, hd⟩
  have hb := G.drawn_below hd
  clear hd
  have n0_ := Aside0.mk (blk_below HBarg.out hb)
  have n1_ := Aside0.mk (Kd.S_below HW1.out hb)
  have n2_ := Aside0.mk (Kd.R_below HW2.out hb)
  have n3_ := Aside0.mk (blk_below HBbw.out hb)
  have n4_ := Aside0.mk (Kd.S_below HX1.out hb)
  have n5_ := Aside0.mk (blk_below HBbx.out hb)
  have n6_ := Aside0.mk (Kd.R_below HX2.out hb)
  have n7_ := Aside0.mk (Kd.S_below HG1.out hb)
  have n8_ := Aside0.mk (Kd.R_below HG2.out hb)
  have n9_ := Aside0.mk (blk_below HBbg.out hb)
  have n10_ := Aside0.mk (Kd.R_below HY2.out hb)
  clear HBarg; have HBarg := n0_; clear n0_
  clear HW1; have HW1 := n1_; clear n1_
  clear HW2; have HW2 := n2_; clear n2_
  clear HBbw; have HBbw := n3_; clear n3_
  clear HX1; have HX1 := n4_; clear n4_
  clear HBbx; have HBbx := n5_; clear n5_
  clear HX2; have HX2 := n6_; clear n6_
  clear HG1; have HG1 := n7_; clear n7_
  clear HG2; have HG2 := n8_; clear n8_
  clear HBbg; have HBbg := n9_; clear n9_
  clear HY2; have HY2 := n10_; clear n10_
  have nb_ := Aside0.mk (below_step HB.out hb); have np_ := Aside0.mk (Nat.le_trans HP.out hb.size); clear HB HP; have HB := nb_; have HP := np_; clear nb_ np_
  clear hb
  clear hcz_arg_0
  clear hfz_arg_0
  clear hcz_bw_0
  clear hfz_bw_0
  clear hcz_bw_1
  clear hfz_bw_1
  clear hcz_bw_2
  clear hfz_bw_2
  clear hcz_bx_0
  clear hfz_bx_0
  clear hcz_bg_0
  clear hfz_bg_0
  clear hcz_bg_1
  clear hfz_bg_1
  clear hcz_bg_2
  clear hfz_bg_2
  clear hnb_arg_bw
  clear hnb_arg_bx
  clear hnb_arg_bg
  clear hnb_bw_arg
  clear hnb_bw_bx
  clear hnb_bw_bg
  clear hnb_bx_arg
  clear hnb_bx_bw
  clear hnb_bx_bg
  clear hnb_bg_arg
  clear hnb_bg_bw
  clear hnb_bg_bx
  have hcz_arg_0 : w20_.cell? ⟨loarg, 0, none⟩ = some (.slice A1 l1.length c1) := (blk_cell HBarg.out 0).trans rfl; have hfz_arg_0 := blk_frozen HBarg.out 0
  have hcz_bw_0 : w20_.cell? ⟨lobw, 0, none⟩ = some (.int .i64 rb) := (blk_cell HBbw.out 0).trans rfl; have hfz_bw_0 := blk_frozen HBbw.out 0
  have hcz_bw_1 : w20_.cell? ⟨lobw, 1, none⟩ = some (.slice AW1 R1.length cW1) := (blk_cell HBbw.out 1).trans rfl; have hfz_bw_1 := blk_frozen HBbw.out 1
  have hcz_bw_2 : w20_.cell? ⟨lobw, 2, none⟩ = some (.slice AW2 R2.length cW2) := (blk_cell HBbw.out 2).trans rfl; have hfz_bw_2 := blk_frozen HBbw.out 2
  have hcz_bx_0 : w20_.cell? ⟨lobx, 0, none⟩ = some (.slice AX1 l1.length cX1) := (blk_cell HBbx.out 0).trans rfl; have hfz_bx_0 := blk_frozen HBbx.out 0
  have hcz_bg_0 : w20_.cell? ⟨lobg, 0, none⟩ = some (.int .i64 rb) := (blk_cell HBbg.out 0).trans rfl; have hfz_bg_0 := blk_frozen HBbg.out 0
  have hcz_bg_1 : w20_.cell? ⟨lobg, 1, none⟩ = some (.slice AG1 R1.length cG1) := (blk_cell HBbg.out 1).trans rfl; have hfz_bg_1 := blk_frozen HBbg.out 1
  have hcz_bg_2 : w20_.cell? ⟨lobg, 2, none⟩ = some (.slice AG2 R2.length cG2) := (blk_cell HBbg.out 2).trans rfl; have hfz_bg_2 := blk_frozen HBbg.out 2
  have ha_ : hiarg ≤ lobw := by
    have h0_ := HOT1.out
    have h1_ := HOT2.out
    have h2_ := HOW.out
    have h3_ := HObw.out
    have s0_ := HLT1.out
    have s1_ := HLT2.out
    have s2_ := HLW.out
    omega
  have hnb_arg_bw : loarg ≠ lobw := by have h0_ := HHarg.out; have h1_ := HHbw.out; omega
  clear ha_
  have ha_ : hiarg ≤ lobx := by
    have h0_ := HOT1.out
    have h1_ := HOT2.out
    have h2_ := HOW.out
    have h3_ := HObw.out
    have h4_ := HOX1.out
    have h5_ := HObx.out
    have s0_ := HLT1.out
    have s1_ := HLT2.out
    have s2_ := HLW.out
    have s3_ := HLbw.out
    have s4_ := HLX1.out
    omega
  have hnb_arg_bx : loarg ≠ lobx := by have h0_ := HHarg.out; have h1_ := HHbx.out; omega
  clear ha_
  have ha_ : hiarg ≤ lobg := by
    have h0_ := HOT1.out
    have h1_ := HOT2.out
    have h2_ := HOW.out
    have h3_ := HObw.out
    have h4_ := HOX1.out
    have h5_ := HObx.out
    have h6_ := HOX2.out
    have h7_ := HOG.out
    have h8_ := HObg.out
    have s0_ := HLT1.out
    have s1_ := HLT2.out
    have s2_ := HLW.out
    have s3_ := HLbw.out
    have s4_ := HLX1.out
    have s5_ := HLbx.out
    have s6_ := HLX2.out
    have s7_ := HLG.out
    omega
  have hnb_arg_bg : loarg ≠ lobg := by have h0_ := HHarg.out; have h1_ := HHbg.out; omega
  clear ha_
  have ha_ : hiarg ≤ lobw := by
    have h0_ := HOT1.out
    have h1_ := HOT2.out
    have h2_ := HOW.out
    have h3_ := HObw.out
    have s0_ := HLT1.out
    have s1_ := HLT2.out
    have s2_ := HLW.out
    omega
  have hnb_bw_arg : lobw ≠ loarg := by have h0_ := HHbw.out; have h1_ := HHarg.out; omega
  clear ha_
  have ha_ : hibw ≤ lobx := by
    have h0_ := HOX1.out
    have h1_ := HObx.out
    have s0_ := HLX1.out
    omega
  have hnb_bw_bx : lobw ≠ lobx := by have h0_ := HHbw.out; have h1_ := HHbx.out; omega
  clear ha_
  have ha_ : hibw ≤ lobg := by
    have h0_ := HOX1.out
    have h1_ := HObx.out
    have h2_ := HOX2.out
    have h3_ := HOG.out
    have h4_ := HObg.out
    have s0_ := HLX1.out
    have s1_ := HLbx.out
    have s2_ := HLX2.out
    have s3_ := HLG.out
    omega
  have hnb_bw_bg : lobw ≠ lobg := by have h0_ := HHbw.out; have h1_ := HHbg.out; omega
  clear ha_
  have ha_ : hiarg ≤ lobx := by
    have h0_ := HOT1.out
    have h1_ := HOT2.out
    have h2_ := HOW.out
    have h3_ := HObw.out
    have h4_ := HOX1.out
    have h5_ := HObx.out
    have s0_ := HLT1.out
    have s1_ := HLT2.out
    have s2_ := HLW.out
    have s3_ := HLbw.out
    have s4_ := HLX1.out
    omega
  have hnb_bx_arg : lobx ≠ loarg := by have h0_ := HHbx.out; have h1_ := HHarg.out; omega
  clear ha_
  have ha_ : hibw ≤ lobx := by
    have h0_ := HOX1.out
    have h1_ := HObx.out
    have s0_ := HLX1.out
    omega
  have hnb_bx_bw : lobx ≠ lobw := by have h0_ := HHbx.out; have h1_ := HHbw.out; omega
  clear ha_
  have ha_ : hibx ≤ lobg := by
    have h0_ := HOX2.out
    have h1_ := HOG.out
    have h2_ := HObg.out
    have s0_ := HLX2.out
    have s1_ := HLG.out
    omega
  have hnb_bx_bg : lobx ≠ lobg := by have h0_ := HHbx.out; have h1_ := HHbg.out; omega
  clear ha_
  have ha_ : hiarg ≤ lobg := by
    have h0_ := HOT1.out
    have h1_ := HOT2.out
    have h2_ := HOW.out
    have h3_ := HObw.out
    have h4_ := HOX1.out
    have h5_ := HObx.out
    have h6_ := HOX2.out
    have h7_ := HOG.out
    have h8_ := HObg.out
    have s0_ := HLT1.out
    have s1_ := HLT2.out
    have s2_ := HLW.out
    have s3_ := HLbw.out
    have s4_ := HLX1.out
    have s5_ := HLbx.out
    have s6_ := HLX2.out
    have s7_ := HLG.out
    omega
  have hnb_bg_arg : lobg ≠ loarg := by have h0_ := HHbg.out; have h1_ := HHarg.out; omega
  clear ha_
  have ha_ : hibw ≤ lobg := by
    have h0_ := HOX1.out
    have h1_ := HObx.out
    have h2_ := HOX2.out
    have h3_ := HOG.out
    have h4_ := HObg.out
    have s0_ := HLX1.out
    have s1_ := HLbx.out
    have s2_ := HLX2.out
    have s3_ := HLG.out
    omega
  have hnb_bg_bw : lobg ≠ lobw := by have h0_ := HHbg.out; have h1_ := HHbw.out; omega
  clear ha_
  have ha_ : hibx ≤ lobg := by
    have h0_ := HOX2.out
    have h1_ := HOG.out
    have h2_ := HObg.out
    have s0_ := HLX2.out
    have s1_ := HLG.out
    omega
  have hnb_bg_bx : lobg ≠ lobx := by have h0_ := HHbg.out; have h1_ := HHbx.out; omega
  clear ha_
  clear HY2
  go_wp2_with fail
  refine (laws_markMorphism.calls k (G.Span loX1 hiX1) _ l1 1 m1 x1 w _ HB.out HX1.out FM1.out).mono ?_
  rintro e w21_ ⟨rfl, hy_, hb1_, hkp0_⟩
  have hkp := Kept.mono hkp0_ (fun _ h_ => h_); clear hkp0_
  clear HX1
  have ha_arg : hiarg ≤ loX1 := by
    have h0_ := HOT1.out
    have h1_ := HOT2.out
    have h2_ := HOW.out
    have h3_ := HObw.out
    have h4_ := HOX1.out
    have s0_ := HLT1.out
    have s1_ := HLT2.out
    have s2_ := HLW.out
    have s3_ := HLbw.out
    omega
  have ha_W : hiW ≤ loX1 := by
    have h0_ := HObw.out
    have h1_ := HOX1.out
    have s0_ := HLbw.out
    omega
  have ha_bw : hibw ≤ loX1 := by
    have h0_ := HOX1.out
    omega
  have ha_bx : hiX1 ≤ lobx := by
    have h0_ := HObx.out
    omega
  have ha_X2 : hiX1 ≤ loX2 := by
    have h0_ := HObx.out
    have h1_ := HOX2.out
    have s0_ := HLbx.out
    omega
  have ha_G : hiX1 ≤ loG := by
    have h0_ := HObx.out
    have h1_ := HOX2.out
    have h2_ := HOG.out
    have s0_ := HLbx.out
    have s1_ := HLX2.out
    omega
  have ha_bg : hiX1 ≤ lobg := by
    have h0_ := HObx.out
    have h1_ := HOX2.out
    have h2_ := HOG.out
    have h3_ := HObg.out
    have s0_ := HLbx.out
    have s1_ := HLX2.out
    have s2_ := HLG.out
    omega
  have n0_ := Aside0.mk (blk_kept HBarg.out hkp (by have h0_ := HHarg.out; have h1_ := ha_arg; unfold G.Span; omega))
  have n1_ := Aside0.mk (G.S_marked2 HW1.out hkp (.inl ha_W))
  have n2_ := Aside0.mk (G.R_marked HW2.out hkp (.inl ha_W))
  have n3_ := Aside0.mk (blk_kept HBbw.out hkp (by have h0_ := HHbw.out; have h1_ := ha_bw; unfold G.Span; omega))
  have n4_ := Aside0.mk (blk_kept HBbx.out hkp (by have h0_ := HHbx.out; have h1_ := ha_bx; unfold G.Span; omega))
  have n5_ := Aside0.mk (G.R_marked HX2.out hkp (.inr ha_X2))
  have n6_ := Aside0.mk (G.S_marked2 HG1.out hkp (.inr ha_G))
  have n7_ := Aside0.mk (G.R_marked HG2.out hkp (.inr ha_G))
  have n8_ := Aside0.mk (blk_kept HBbg.out hkp (by have h0_ := HHbg.out; have h1_ := ha_bg; unfold G.Span; omega))
  clear HBarg; have HBarg := n0_; clear n0_
  clear HW1; have HW1 := n1_; clear n1_
  clear HW2; have HW2 := n2_; clear n2_
  clear HBbw; have HBbw := n3_; clear n3_
  clear HBbx; have HBbx := n4_; clear n4_
  clear HX2; have HX2 := n5_; clear n5_
  clear HG1; have HG1 := n6_; clear n6_
  clear HG2; have HG2 := n7_; clear n7_
  clear HBbg; have HBbg := n8_; clear n8_
  have np_ := Aside0.mk (Nat.le_trans HP.out hkp.1); have nb_ := Aside0.mk hb1_; clear HP HB hb1_; have HP := np_; have HB := nb_; clear np_ nb_ ha_arg ha_W ha_bw ha_bx ha_X2 ha_G ha_bg
  clear hkp hy_
  clear hcz_arg_0
  clear hfz_arg_0
  clear hcz_bw_0
  clear hfz_bw_0
  clear hcz_bw_1
  clear hfz_bw_1
  clear hcz_bw_2
  clear hfz_bw_2
  clear hcz_bx_0
  clear hfz_bx_0
  clear hcz_bg_0
  clear hfz_bg_0
  clear hcz_bg_1
  clear hfz_bg_1
  clear hcz_bg_2
  clear hfz_bg_2
  clear hnb_arg_bw
  clear hnb_arg_bx
  clear hnb_arg_bg
  clear hnb_bw_arg
  clear hnb_bw_bx
  clear hnb_bw_bg
  clear hnb_bx_arg
  clear hnb_bx_bw
  clear hnb_bx_bg
  clear hnb_bg_arg
  clear hnb_bg_bw
  clear hnb_bg_bx
  have hcz_arg_0 : w21_.cell? ⟨loarg, 0, none⟩ = some (.slice A1 l1.length c1) := (blk_cell HBarg.out 0).trans rfl; have hfz_arg_0 := blk_frozen HBarg.out 0
  have hcz_bw_0 : w21_.cell? ⟨lobw, 0, none⟩ = some (.int .i64 rb) := (blk_cell HBbw.out 0).trans rfl; have hfz_bw_0 := blk_frozen HBbw.out 0
  have hcz_bw_1 : w21_.cell? ⟨lobw, 1, none⟩ = some (.slice AW1 R1.length cW1) := (blk_cell HBbw.out 1).trans rfl; have hfz_bw_1 := blk_frozen HBbw.out 1
  have hcz_bw_2 : w21_.cell? ⟨lobw, 2, none⟩ = some (.slice AW2 R2.length cW2) := (blk_cell HBbw.out 2).trans rfl; have hfz_bw_2 := blk_frozen HBbw.out 2
  have hcz_bx_0 : w21_.cell? ⟨lobx, 0, none⟩ = some (.slice AX1 l1.length cX1) := (blk_cell HBbx.out 0).trans rfl; have hfz_bx_0 := blk_frozen HBbx.out 0
  have hcz_bg_0 : w21_.cell? ⟨lobg, 0, none⟩ = some (.int .i64 rb) := (blk_cell HBbg.out 0).trans rfl; have hfz_bg_0 := blk_frozen HBbg.out 0
  have hcz_bg_1 : w21_.cell? ⟨lobg, 1, none⟩ = some (.slice AG1 R1.length cG1) := (blk_cell HBbg.out 1).trans rfl; have hfz_bg_1 := blk_frozen HBbg.out 1
  have hcz_bg_2 : w21_.cell? ⟨lobg, 2, none⟩ = some (.slice AG2 R2.length cG2) := (blk_cell HBbg.out 2).trans rfl; have hfz_bg_2 := blk_frozen HBbg.out 2
  have ha_ : hiarg ≤ lobw := by
    have h0_ := HOT1.out
    have h1_ := HOT2.out
    have h2_ := HOW.out
    have h3_ := HObw.out
    have s0_ := HLT1.out
    have s1_ := HLT2.out
    have s2_ := HLW.out
    omega
  have hnb_arg_bw : loarg ≠ lobw := by have h0_ := HHarg.out; have h1_ := HHbw.out; omega
  clear ha_
  have ha_ : hiarg ≤ lobx := by
    have h0_ := HOT1.out
    have h1_ := HOT2.out
    have h2_ := HOW.out
    have h3_ := HObw.out
    have h4_ := HOX1.out
    have h5_ := HObx.out
    have s0_ := HLT1.out
    have s1_ := HLT2.out
    have s2_ := HLW.out
    have s3_ := HLbw.out
    have s4_ := HLX1.out
    omega
  have hnb_arg_bx : loarg ≠ lobx := by have h0_ := HHarg.out; have h1_ := HHbx.out; omega
  clear ha_
  have ha_ : hiarg ≤ lobg := by
    have h0_ := HOT1.out
    have h1_ := HOT2.out
    have h2_ := HOW.out
    have h3_ := HObw.out
    have h4_ := HOX1.out
    have h5_ := HObx.out
    have h6_ := HOX2.out
    have h7_ := HOG.out
    have h8_ := HObg.out
    have s0_ := HLT1.out
    have s1_ := HLT2.out
    have s2_ := HLW.out
    have s3_ := HLbw.out
    have s4_ := HLX1.out
    have s5_ := HLbx.out
    have s6_ := HLX2.out
    have s7_ := HLG.out
    omega
  have hnb_arg_bg : loarg ≠ lobg := by have h0_ := HHarg.out; have h1_ := HHbg.out; omega
  clear ha_
  have ha_ : hiarg ≤ lobw := by
    have h0_ := HOT1.out
    have h1_ := HOT2.out
    have h2_ := HOW.out
    have h3_ := HObw.out
    have s0_ := HLT1.out
    have s1_ := HLT2.out
    have s2_ := HLW.out
    omega
  have hnb_bw_arg : lobw ≠ loarg := by have h0_ := HHbw.out; have h1_ := HHarg.out; omega
  clear ha_
  have ha_ : hibw ≤ lobx := by
    have h0_ := HOX1.out
    have h1_ := HObx.out
    have s0_ := HLX1.out
    omega
  have hnb_bw_bx : lobw ≠ lobx := by have h0_ := HHbw.out; have h1_ := HHbx.out; omega
  clear ha_
  have ha_ : hibw ≤ lobg := by
    have h0_ := HOX1.out
    have h1_ := HObx.out
    have h2_ := HOX2.out
    have h3_ := HOG.out
    have h4_ := HObg.out
    have s0_ := HLX1.out
    have s1_ := HLbx.out
    have s2_ := HLX2.out
    have s3_ := HLG.out
    omega
  have hnb_bw_bg : lobw ≠ lobg := by have h0_ := HHbw.out; have h1_ := HHbg.out; omega
  clear ha_
  have ha_ : hiarg ≤ lobx := by
    have h0_ := HOT1.out
    have h1_ := HOT2.out
    have h2_ := HOW.out
    have h3_ := HObw.out
    have h4_ := HOX1.out
    have h5_ := HObx.out
    have s0_ := HLT1.out
    have s1_ := HLT2.out
    have s2_ := HLW.out
    have s3_ := HLbw.out
    have s4_ := HLX1.out
    omega
  have hnb_bx_arg : lobx ≠ loarg := by have h0_ := HHbx.out; have h1_ := HHarg.out; omega
  clear ha_
  have ha_ : hibw ≤ lobx := by
    have h0_ := HOX1.out
    have h1_ := HObx.out
    have s0_ := HLX1.out
    omega
  have hnb_bx_bw : lobx ≠ lobw := by have h0_ := HHbx.out; have h1_ := HHbw.out; omega
  clear ha_
  have ha_ : hibx ≤ lobg := by
    have h0_ := HOX2.out
    have h1_ := HOG.out
    have h2_ := HObg.out
    have s0_ := HLX2.out
    have s1_ := HLG.out
    omega
  have hnb_bx_bg : lobx ≠ lobg := by have h0_ := HHbx.out; have h1_ := HHbg.out; omega
  clear ha_
  have ha_ : hiarg ≤ lobg := by
    have h0_ := HOT1.out
    have h1_ := HOT2.out
    have h2_ := HOW.out
    have h3_ := HObw.out
    have h4_ := HOX1.out
    have h5_ := HObx.out
    have h6_ := HOX2.out
    have h7_ := HOG.out
    have h8_ := HObg.out
    have s0_ := HLT1.out
    have s1_ := HLT2.out
    have s2_ := HLW.out
    have s3_ := HLbw.out
    have s4_ := HLX1.out
    have s5_ := HLbx.out
    have s6_ := HLX2.out
    have s7_ := HLG.out
    omega
  have hnb_bg_arg : lobg ≠ loarg := by have h0_ := HHbg.out; have h1_ := HHarg.out; omega
  clear ha_
  have ha_ : hibw ≤ lobg := by
    have h0_ := HOX1.out
    have h1_ := HObx.out
    have h2_ := HOX2.out
    have h3_ := HOG.out
    have h4_ := HObg.out
    have s0_ := HLX1.out
    have s1_ := HLbx.out
    have s2_ := HLX2.out
    have s3_ := HLG.out
    omega
  have hnb_bg_bw : lobg ≠ lobw := by have h0_ := HHbg.out; have h1_ := HHbw.out; omega
  clear ha_
  have ha_ : hibx ≤ lobg := by
    have h0_ := HOX2.out
    have h1_ := HOG.out
    have h2_ := HObg.out
    have s0_ := HLX2.out
    have s1_ := HLG.out
    omega
  have hnb_bg_bx : lobg ≠ lobx := by have h0_ := HHbg.out; have h1_ := HHbx.out; omega
  clear ha_
  go_wp2_with fail
  refine (laws_markIntS.calls k (G.Span loX2 hiX2) _ l2 m1 m2 x2 w _ HB.out HX2.out FM2.out).mono ?_
  rintro e w22_ ⟨rfl, hy_, hb1_, hkp0_⟩
  have hkp := Kept.mono hkp0_ (fun _ h_ => h_); clear hkp0_
  clear HX2
  have ha_arg : hiarg ≤ loX2 := by
    have h0_ := HOT1.out
    have h1_ := HOT2.out
    have h2_ := HOW.out
    have h3_ := HObw.out
    have h4_ := HOX1.out
    have h5_ := HObx.out
    have h6_ := HOX2.out
    have s0_ := HLT1.out
    have s1_ := HLT2.out
    have s2_ := HLW.out
    have s3_ := HLbw.out
    have s4_ := HLX1.out
    have s5_ := HLbx.out
    omega
  have ha_W : hiW ≤ loX2 := by
    have h0_ := HObw.out
    have h1_ := HOX1.out
    have h2_ := HObx.out
    have h3_ := HOX2.out
    have s0_ := HLbw.out
    have s1_ := HLX1.out
    have s2_ := HLbx.out
    omega
  have ha_bw : hibw ≤ loX2 := by
    have h0_ := HOX1.out
    have h1_ := HObx.out
    have h2_ := HOX2.out
    have s0_ := HLX1.out
    have s1_ := HLbx.out
    omega
  have ha_bx : hibx ≤ loX2 := by
    have h0_ := HOX2.out
    omega
  have ha_G : hiX2 ≤ loG := by
    have h0_ := HOG.out
    omega
  have ha_bg : hiX2 ≤ lobg := by
    have h0_ := HOG.out
    have h1_ := HObg.out
    have s0_ := HLG.out
    omega
  have n0_ := Aside0.mk (blk_kept HBarg.out hkp (by have h0_ := HHarg.out; have h1_ := ha_arg; unfold G.Span; omega))
  have n1_ := Aside0.mk (G.S_marked2 HW1.out hkp (.inl ha_W))
  have n2_ := Aside0.mk (G.R_marked HW2.out hkp (.inl ha_W))
  have n3_ := Aside0.mk (blk_kept HBbw.out hkp (by have h0_ := HHbw.out; have h1_ := ha_bw; unfold G.Span; omega))
  have n4_ := Aside0.mk (blk_kept HBbx.out hkp (by have h0_ := HHbx.out; have h1_ := ha_bx; unfold G.Span; omega))
  have n5_ := Aside0.mk (G.S_marked2 HG1.out hkp (.inr ha_G))
  have n6_ := Aside0.mk (G.R_marked HG2.out hkp (.inr ha_G))
  have n7_ := Aside0.mk (blk_kept HBbg.out hkp (by have h0_ := HHbg.out; have h1_ := ha_bg; unfold G.Span; omega))
  clear HBarg; have HBarg := n0_; clear n0_
  clear HW1; have HW1 := n1_; clear n1_
  clear HW2; have HW2 := n2_; clear n2_
  clear HBbw; have HBbw := n3_; clear n3_
  clear HBbx; have HBbx := n4_; clear n4_
  clear HG1; have HG1 := n5_; clear n5_
  clear HG2; have HG2 := n6_; clear n6_
  clear HBbg; have HBbg := n7_; clear n7_
  have np_ := Aside0.mk (Nat.le_trans HP.out hkp.1); have nb_ := Aside0.mk hb1_; clear HP HB hb1_; have HP := np_; have HB := nb_; clear np_ nb_ ha_arg ha_W ha_bw ha_bx ha_G ha_bg
  clear hkp hy_
  clear hcz_arg_0
  clear hfz_arg_0
  clear hcz_bw_0
  clear hfz_bw_0
  clear hcz_bw_1
  clear hfz_bw_1
  clear hcz_bw_2
  clear hfz_bw_2
  clear hcz_bx_0
  clear hfz_bx_0
  clear hcz_bg_0
  clear hfz_bg_0
  clear hcz_bg_1
  clear hfz_bg_1
  clear hcz_bg_2
  clear hfz_bg_2
  clear hnb_arg_bw
  clear hnb_arg_bx
  clear hnb_arg_bg
  clear hnb_bw_arg
  clear hnb_bw_bx
  clear hnb_bw_bg
  clear hnb_bx_arg
  clear hnb_bx_bw
  clear hnb_bx_bg
  clear hnb_bg_arg
  clear hnb_bg_bw
  clear hnb_bg_bx
  have hcz_arg_0 : w22_.cell? ⟨loarg, 0, none⟩ = some (.slice A1 l1.length c1) := (blk_cell HBarg.out 0).trans rfl; have hfz_arg_0 := blk_frozen HBarg.out 0
  have hcz_bw_0 : w22_.cell? ⟨lobw, 0, none⟩ = some (.int .i64 rb) := (blk_cell HBbw.out 0).trans rfl; have hfz_bw_0 := blk_frozen HBbw.out 0
  have hcz_bw_1 : w22_.cell? ⟨lobw, 1, none⟩ = some (.slice AW1 R1.length cW1) := (blk_cell HBbw.out 1).trans rfl; have hfz_bw_1 := blk_frozen HBbw.out 1
  have hcz_bw_2 : w22_.cell? ⟨lobw, 2, none⟩ = some (.slice AW2 R2.length cW2) := (blk_cell HBbw.out 2).trans rfl; have hfz_bw_2 := blk_frozen HBbw.out 2
  have hcz_bx_0 : w22_.cell? ⟨lobx, 0, none⟩ = some (.slice AX1 l1.length cX1) := (blk_cell HBbx.out 0).trans rfl; have hfz_bx_0 := blk_frozen HBbx.out 0
  have hcz_bg_0 : w22_.cell? ⟨lobg, 0, none⟩ = some (.int .i64 rb) := (blk_cell HBbg.out 0).trans rfl; have hfz_bg_0 := blk_frozen HBbg.out 0
  have hcz_bg_1 : w22_.cell? ⟨lobg, 1, none⟩ = some (.slice AG1 R1.length cG1) := (blk_cell HBbg.out 1).trans rfl; have hfz_bg_1 := blk_frozen HBbg.out 1
  have hcz_bg_2 : w22_.cell? ⟨lobg, 2, none⟩ = some (.slice AG2 R2.length cG2) := (blk_cell HBbg.out 2).trans rfl; have hfz_bg_2 := blk_frozen HBbg.out 2
  have ha_ : hiarg ≤ lobw := by
    have h0_ := HOT1.out
    have h1_ := HOT2.out
    have h2_ := HOW.out
    have h3_ := HObw.out
    have s0_ := HLT1.out
    have s1_ := HLT2.out
    have s2_ := HLW.out
    omega
  have hnb_arg_bw : loarg ≠ lobw := by have h0_ := HHarg.out; have h1_ := HHbw.out; omega
  clear ha_
  have ha_ : hiarg ≤ lobx := by
    have h0_ := HOT1.out
    have h1_ := HOT2.out
    have h2_ := HOW.out
    have h3_ := HObw.out
    have h4_ := HOX1.out
    have h5_ := HObx.out
    have s0_ := HLT1.out
    have s1_ := HLT2.out
    have s2_ := HLW.out
    have s3_ := HLbw.out
    have s4_ := HLX1.out
    omega
  have hnb_arg_bx : loarg ≠ lobx := by have h0_ := HHarg.out; have h1_ := HHbx.out; omega
  clear ha_
  have ha_ : hiarg ≤ lobg := by
    have h0_ := HOT1.out
    have h1_ := HOT2.out
    have h2_ := HOW.out
    have h3_ := HObw.out
    have h4_ := HOX1.out
    have h5_ := HObx.out
    have h6_ := HOX2.out
    have h7_ := HOG.out
    have h8_ := HObg.out
    have s0_ := HLT1.out
    have s1_ := HLT2.out
    have s2_ := HLW.out
    have s3_ := HLbw.out
    have s4_ := HLX1.out
    have s5_ := HLbx.out
    have s6_ := HLX2.out
    have s7_ := HLG.out
    omega
  have hnb_arg_bg : loarg ≠ lobg := by have h0_ := HHarg.out; have h1_ := HHbg.out; omega
  clear ha_
  have ha_ : hiarg ≤ lobw := by
    have h0_ := HOT1.out
    have h1_ := HOT2.out
    have h2_ := HOW.out
    have h3_ := HObw.out
    have s0_ := HLT1.out
    have s1_ := HLT2.out
    have s2_ := HLW.out
    omega
  have hnb_bw_arg : lobw ≠ loarg := by have h0_ := HHbw.out; have h1_ := HHarg.out; omega
  clear ha_
  have ha_ : hibw ≤ lobx := by
    have h0_ := HOX1.out
    have h1_ := HObx.out
    have s0_ := HLX1.out
    omega
  have hnb_bw_bx : lobw ≠ lobx := by have h0_ := HHbw.out; have h1_ := HHbx.out; omega
  clear ha_
  have ha_ : hibw ≤ lobg := by
    have h0_ := HOX1.out
    have h1_ := HObx.out
    have h2_ := HOX2.out
    have h3_ := HOG.out
    have h4_ := HObg.out
    have s0_ := HLX1.out
    have s1_ := HLbx.out
    have s2_ := HLX2.out
    have s3_ := HLG.out
    omega
  have hnb_bw_bg : lobw ≠ lobg := by have h0_ := HHbw.out; have h1_ := HHbg.out; omega
  clear ha_
  have ha_ : hiarg ≤ lobx := by
    have h0_ := HOT1.out
    have h1_ := HOT2.out
    have h2_ := HOW.out
    have h3_ := HObw.out
    have h4_ := HOX1.out
    have h5_ := HObx.out
    have s0_ := HLT1.out
    have s1_ := HLT2.out
    have s2_ := HLW.out
    have s3_ := HLbw.out
    have s4_ := HLX1.out
    omega
  have hnb_bx_arg : lobx ≠ loarg := by have h0_ := HHbx.out; have h1_ := HHarg.out; omega
  clear ha_
  have ha_ : hibw ≤ lobx := by
    have h0_ := HOX1.out
    have h1_ := HObx.out
    have s0_ := HLX1.out
    omega
  have hnb_bx_bw : lobx ≠ lobw := by have h0_ := HHbx.out; have h1_ := HHbw.out; omega
  clear ha_
  have ha_ : hibx ≤ lobg := by
    have h0_ := HOX2.out
    have h1_ := HOG.out
    have h2_ := HObg.out
    have s0_ := HLX2.out
    have s1_ := HLG.out
    omega
  have hnb_bx_bg : lobx ≠ lobg := by have h0_ := HHbx.out; have h1_ := HHbg.out; omega
  clear ha_
  have ha_ : hiarg ≤ lobg := by
    have h0_ := HOT1.out
    have h1_ := HOT2.out
    have h2_ := HOW.out
    have h3_ := HObw.out
    have h4_ := HOX1.out
    have h5_ := HObx.out
    have h6_ := HOX2.out
    have h7_ := HOG.out
    have h8_ := HObg.out
    have s0_ := HLT1.out
    have s1_ := HLT2.out
    have s2_ := HLW.out
    have s3_ := HLbw.out
    have s4_ := HLX1.out
    have s5_ := HLbx.out
    have s6_ := HLX2.out
    have s7_ := HLG.out
    omega
  have hnb_bg_arg : lobg ≠ loarg := by have h0_ := HHbg.out; have h1_ := HHarg.out; omega
  clear ha_
  have ha_ : hibw ≤ lobg := by
    have h0_ := HOX1.out
    have h1_ := HObx.out
    have h2_ := HOX2.out
    have h3_ := HOG.out
    have h4_ := HObg.out
    have s0_ := HLX1.out
    have s1_ := HLbx.out
    have s2_ := HLX2.out
    have s3_ := HLG.out
    omega
  have hnb_bg_bw : lobg ≠ lobw := by have h0_ := HHbg.out; have h1_ := HHbw.out; omega
  clear ha_
  have ha_ : hibx ≤ lobg := by
    have h0_ := HOX2.out
    have h1_ := HOG.out
    have h2_ := HObg.out
    have s0_ := HLX2.out
    have s1_ := HLG.out
    omega
  have hnb_bg_bx : lobg ≠ lobx := by have h0_ := HHbg.out; have h1_ := HHbx.out; omega
  clear ha_
  go_wp2_with fail
  refine (laws_eqSequence.calls k rb _ _ R1 _ _ R2 rb _ _ R1 _ _ R2 true _ (Kd.S_reads' HG1.out).2.2 (Kd.S_reads' HG1.out).2.1 (Kd.R_reads' HG2.out).2.2 (Kd.R_reads' HG2.out).2.1 (Kd.S_reads' HW1.out).2.2 (Kd.S_reads' HW1.out).2.1 (Kd.R_reads' HW2.out).2.2 (Kd.R_reads' HW2.out).2.1 FE.out).mono ?_
  rintro e w23_ ⟨rfl, hb⟩
  have n0_ := Aside0.mk (blk_below HBarg.out hb)
  have n1_ := Aside0.mk (Kd.S_below HW1.out hb)
  have n2_ := Aside0.mk (Kd.R_below HW2.out hb)
  have n3_ := Aside0.mk (blk_below HBbw.out hb)
  have n4_ := Aside0.mk (blk_below HBbx.out hb)
  have n5_ := Aside0.mk (Kd.S_below HG1.out hb)
  have n6_ := Aside0.mk (Kd.R_below HG2.out hb)
  have n7_ := Aside0.mk (blk_below HBbg.out hb)
  clear HBarg; have HBarg := n0_; clear n0_
  clear HW1; have HW1 := n1_; clear n1_
  clear HW2; have HW2 := n2_; clear n2_
  clear HBbw; have HBbw := n3_; clear n3_
  clear HBbx; have HBbx := n4_; clear n4_
  clear HG1; have HG1 := n5_; clear n5_
  clear HG2; have HG2 := n6_; clear n6_
  clear HBbg; have HBbg := n7_; clear n7_
  have nb_ := Aside0.mk (below_step HB.out hb); have np_ := Aside0.mk (Nat.le_trans HP.out hb.size); clear HB HP; have HB := nb_; have HP := np_; clear nb_ np_
  clear hb
  clear hcz_arg_0
  clear hfz_arg_0
  clear hcz_bw_0
  clear hfz_bw_0
  clear hcz_bw_1
  clear hfz_bw_1
  clear hcz_bw_2
  clear hfz_bw_2
  clear hcz_bx_0
  clear hfz_bx_0
  clear hcz_bg_0
  clear hfz_bg_0
  clear hcz_bg_1
  clear hfz_bg_1
  clear hcz_bg_2
  clear hfz_bg_2
  clear hnb_arg_bw
  clear hnb_arg_bx
  clear hnb_arg_bg
  clear hnb_bw_arg
  clear hnb_bw_bx
  clear hnb_bw_bg
  clear hnb_bx_arg
  clear hnb_bx_bw
  clear hnb_bx_bg
  clear hnb_bg_arg
  clear hnb_bg_bw
  clear hnb_bg_bx
  have hcz_arg_0 : w23_.cell? ⟨loarg, 0, none⟩ = some (.slice A1 l1.length c1) := (blk_cell HBarg.out 0).trans rfl; have hfz_arg_0 := blk_frozen HBarg.out 0
  have hcz_bw_0 : w23_.cell? ⟨lobw, 0, none⟩ = some (.int .i64 rb) := (blk_cell HBbw.out 0).trans rfl; have hfz_bw_0 := blk_frozen HBbw.out 0
  have hcz_bw_1 : w23_.cell? ⟨lobw, 1, none⟩ = some (.slice AW1 R1.length cW1) := (blk_cell HBbw.out 1).trans rfl; have hfz_bw_1 := blk_frozen HBbw.out 1
  have hcz_bw_2 : w23_.cell? ⟨lobw, 2, none⟩ = some (.slice AW2 R2.length cW2) := (blk_cell HBbw.out 2).trans rfl; have hfz_bw_2 := blk_frozen HBbw.out 2
  have hcz_bx_0 : w23_.cell? ⟨lobx, 0, none⟩ = some (.slice AX1 l1.length cX1) := (blk_cell HBbx.out 0).trans rfl; have hfz_bx_0 := blk_frozen HBbx.out 0
  have hcz_bg_0 : w23_.cell? ⟨lobg, 0, none⟩ = some (.int .i64 rb) := (blk_cell HBbg.out 0).trans rfl; have hfz_bg_0 := blk_frozen HBbg.out 0
  have hcz_bg_1 : w23_.cell? ⟨lobg, 1, none⟩ = some (.slice AG1 R1.length cG1) := (blk_cell HBbg.out 1).trans rfl; have hfz_bg_1 := blk_frozen HBbg.out 1
  have hcz_bg_2 : w23_.cell? ⟨lobg, 2, none⟩ = some (.slice AG2 R2.length cG2) := (blk_cell HBbg.out 2).trans rfl; have hfz_bg_2 := blk_frozen HBbg.out 2
  have ha_ : hiarg ≤ lobw := by
    have h0_ := HOT1.out
    have h1_ := HOT2.out
    have h2_ := HOW.out
    have h3_ := HObw.out
    have s0_ := HLT1.out
    have s1_ := HLT2.out
    have s2_ := HLW.out
    omega
  have hnb_arg_bw : loarg ≠ lobw := by have h0_ := HHarg.out; have h1_ := HHbw.out; omega
  clear ha_
  have ha_ : hiarg ≤ lobx := by
    have h0_ := HOT1.out
    have h1_ := HOT2.out
    have h2_ := HOW.out
    have h3_ := HObw.out
    have h4_ := HOX1.out
    have h5_ := HObx.out
    have s0_ := HLT1.out
    have s1_ := HLT2.out
    have s2_ := HLW.out
    have s3_ := HLbw.out
    have s4_ := HLX1.out
    omega
  have hnb_arg_bx : loarg ≠ lobx := by have h0_ := HHarg.out; have h1_ := HHbx.out; omega
  clear ha_
  have ha_ : hiarg ≤ lobg := by
    have h0_ := HOT1.out
    have h1_ := HOT2.out
    have h2_ := HOW.out
    have h3_ := HObw.out
    have h4_ := HOX1.out
    have h5_ := HObx.out
    have h6_ := HOX2.out
    have h7_ := HOG.out
    have h8_ := HObg.out
    have s0_ := HLT1.out
    have s1_ := HLT2.out
    have s2_ := HLW.out
    have s3_ := HLbw.out
    have s4_ := HLX1.out
    have s5_ := HLbx.out
    have s6_ := HLX2.out
    have s7_ := HLG.out
    omega
  have hnb_arg_bg : loarg ≠ lobg := by have h0_ := HHarg.out; have h1_ := HHbg.out; omega
  clear ha_
  have ha_ : hiarg ≤ lobw := by
    have h0_ := HOT1.out
    have h1_ := HOT2.out
    have h2_ := HOW.out
    have h3_ := HObw.out
    have s0_ := HLT1.out
    have s1_ := HLT2.out
    have s2_ := HLW.out
    omega
  have hnb_bw_arg : lobw ≠ loarg := by have h0_ := HHbw.out; have h1_ := HHarg.out; omega
  clear ha_
  have ha_ : hibw ≤ lobx := by
    have h0_ := HOX1.out
    have h1_ := HObx.out
    have s0_ := HLX1.out
    omega
  have hnb_bw_bx : lobw ≠ lobx := by have h0_ := HHbw.out; have h1_ := HHbx.out; omega
  clear ha_
  have ha_ : hibw ≤ lobg := by
    have h0_ := HOX1.out
    have h1_ := HObx.out
    have h2_ := HOX2.out
    have h3_ := HOG.out
    have h4_ := HObg.out
    have s0_ := HLX1.out
    have s1_ := HLbx.out
    have s2_ := HLX2.out
    have s3_ := HLG.out
    omega
  have hnb_bw_bg : lobw ≠ lobg := by have h0_ := HHbw.out; have h1_ := HHbg.out; omega
  clear ha_
  have ha_ : hiarg ≤ lobx := by
    have h0_ := HOT1.out
    have h1_ := HOT2.out
    have h2_ := HOW.out
    have h3_ := HObw.out
    have h4_ := HOX1.out
    have h5_ := HObx.out
    have s0_ := HLT1.out
    have s1_ := HLT2.out
    have s2_ := HLW.out
    have s3_ := HLbw.out
    have s4_ := HLX1.out
    omega
  have hnb_bx_arg : lobx ≠ loarg := by have h0_ := HHbx.out; have h1_ := HHarg.out; omega
  clear ha_
  have ha_ : hibw ≤ lobx := by
    have h0_ := HOX1.out
    have h1_ := HObx.out
    have s0_ := HLX1.out
    omega
  have hnb_bx_bw : lobx ≠ lobw := by have h0_ := HHbx.out; have h1_ := HHbw.out; omega
  clear ha_
  have ha_ : hibx ≤ lobg := by
    have h0_ := HOX2.out
    have h1_ := HOG.out
    have h2_ := HObg.out
    have s0_ := HLX2.out
    have s1_ := HLG.out
    omega
  have hnb_bx_bg : lobx ≠ lobg := by have h0_ := HHbx.out; have h1_ := HHbg.out; omega
  clear ha_
  have ha_ : hiarg ≤ lobg := by
    have h0_ := HOT1.out
    have h1_ := HOT2.out
    have h2_ := HOW.out
    have h3_ := HObw.out
    have h4_ := HOX1.out
    have h5_ := HObx.out
    have h6_ := HOX2.out
    have h7_ := HOG.out
    have h8_ := HObg.out
    have s0_ := HLT1.out
    have s1_ := HLT2.out
    have s2_ := HLW.out
    have s3_ := HLbw.out
    have s4_ := HLX1.out
    have s5_ := HLbx.out
    have s6_ := HLX2.out
    have s7_ := HLG.out
    omega
  have hnb_bg_arg : lobg ≠ loarg := by have h0_ := HHbg.out; have h1_ := HHarg.out; omega
  clear ha_
  have ha_ : hibw ≤ lobg := by
    have h0_ := HOX1.out
    have h1_ := HObx.out
    have h2_ := HOX2.out
    have h3_ := HOG.out
    have h4_ := HObg.out
    have s0_ := HLX1.out
    have s1_ := HLbx.out
    have s2_ := HLX2.out
    have s3_ := HLG.out
    omega
  have hnb_bg_bw : lobg ≠ lobw := by have h0_ := HHbg.out; have h1_ := HHbw.out; omega
  clear ha_
  have ha_ : hibx ≤ lobg := by
    have h0_ := HOX2.out
    have h1_ := HOG.out
    have h2_ := HObg.out
    have s0_ := HLX2.out
    have s1_ := HLG.out
    omega
  have hnb_bg_bx : lobg ≠ lobx := by have h0_ := HHbg.out; have h1_ := HHbx.out; omega
  clear ha_
  go_wp2_with fail
  refine (laws_markSequence.callsS k rb (fun k_ => G.Span loG hiG k_ ∧ some k_ ≠ (.slice AG2 R2.length cG2 : Value).ownBlock) (fun k_ => some k_ = (.slice AG2 R2.length cG2 : Value).ownBlock) _ _ R1 R2 1 mh R1' mg R2' w _ HB.out (fun _ h1_ h2_ => h1_.2 h2_) HG1.out (Kd.R_tight rfl HG2.out) FMR1.out FMR2.out).mono ?_
  rintro e w24_ ⟨rfl, hy1_, hy2_, hb1_, hkp0_⟩
  have hkp := Kept.mono hkp0_ (fun k_ hk_ => hk_.elim (fun h1_ => h1_.1) (fun h2_ => HG2.out.1 k_ h2_.symm)); clear hkp0_
  have m0_ := Aside0.mk (hy1_)
  have m1_ := Aside0.mk (Kd.R_mono hy2_ (fun k_ h_ => HG2.out.1 k_ h_.symm))
  clear HG1
  clear HG2
  have ha_arg : hiarg ≤ loG := by
    have h0_ := HOT1.out
    have h1_ := HOT2.out
    have h2_ := HOW.out
    have h3_ := HObw.out
    have h4_ := HOX1.out
    have h5_ := HObx.out
    have h6_ := HOX2.out
    have h7_ := HOG.out
    have s0_ := HLT1.out
    have s1_ := HLT2.out
    have s2_ := HLW.out
    have s3_ := HLbw.out
    have s4_ := HLX1.out
    have s5_ := HLbx.out
    have s6_ := HLX2.out
    omega
  have ha_W : hiW ≤ loG := by
    have h0_ := HObw.out
    have h1_ := HOX1.out
    have h2_ := HObx.out
    have h3_ := HOX2.out
    have h4_ := HOG.out
    have s0_ := HLbw.out
    have s1_ := HLX1.out
    have s2_ := HLbx.out
    have s3_ := HLX2.out
    omega
  have ha_bw : hibw ≤ loG := by
    have h0_ := HOX1.out
    have h1_ := HObx.out
    have h2_ := HOX2.out
    have h3_ := HOG.out
    have s0_ := HLX1.out
    have s1_ := HLbx.out
    have s2_ := HLX2.out
    omega
  have ha_bx : hibx ≤ loG := by
    have h0_ := HOX2.out
    have h1_ := HOG.out
    have s0_ := HLX2.out
    omega
  have ha_bg : hiG ≤ lobg := by
    have h0_ := HObg.out
    omega
  have n0_ := Aside0.mk (blk_kept HBarg.out hkp (by have h0_ := HHarg.out; have h1_ := ha_arg; unfold G.Span; omega))
  have n1_ := Aside0.mk (G.S_marked2 HW1.out hkp (.inl ha_W))
  have n2_ := Aside0.mk (G.R_marked HW2.out hkp (.inl ha_W))
  have n3_ := Aside0.mk (blk_kept HBbw.out hkp (by have h0_ := HHbw.out; have h1_ := ha_bw; unfold G.Span; omega))
  have n4_ := Aside0.mk (blk_kept HBbx.out hkp (by have h0_ := HHbx.out; have h1_ := ha_bx; unfold G.Span; omega))
  have n5_ := Aside0.mk (blk_kept HBbg.out hkp (by have h0_ := HHbg.out; have h1_ := ha_bg; unfold G.Span; omega))
  clear HBarg; have HBarg := n0_; clear n0_
  clear HW1; have HW1 := n1_; clear n1_
  clear HW2; have HW2 := n2_; clear n2_
  clear HBbw; have HBbw := n3_; clear n3_
  clear HBbx; have HBbx := n4_; clear n4_
  clear HBbg; have HBbg := n5_; clear n5_
  have np_ := Aside0.mk (Nat.le_trans HP.out hkp.1); have nb_ := Aside0.mk hb1_; clear HP HB hb1_; have HP := np_; have HB := nb_; clear np_ nb_ ha_arg ha_W ha_bw ha_bx ha_bg
  clear hkp hy1_ hy2_
  have HG1 := m0_; clear m0_
  have HG2 := m1_; clear m1_
  clear hcz_arg_0
  clear hfz_arg_0
  clear hcz_bw_0
  clear hfz_bw_0
  clear hcz_bw_1
  clear hfz_bw_1
  clear hcz_bw_2
  clear hfz_bw_2
  clear hcz_bx_0
  clear hfz_bx_0
  clear hcz_bg_0
  clear hfz_bg_0
  clear hcz_bg_1
  clear hfz_bg_1
  clear hcz_bg_2
  clear hfz_bg_2
  clear hnb_arg_bw
  clear hnb_arg_bx
  clear hnb_arg_bg
  clear hnb_bw_arg
  clear hnb_bw_bx
  clear hnb_bw_bg
  clear hnb_bx_arg
  clear hnb_bx_bw
  clear hnb_bx_bg
  clear hnb_bg_arg
  clear hnb_bg_bw
  clear hnb_bg_bx
  have hcz_arg_0 : w24_.cell? ⟨loarg, 0, none⟩ = some (.slice A1 l1.length c1) := (blk_cell HBarg.out 0).trans rfl; have hfz_arg_0 := blk_frozen HBarg.out 0
  have hcz_bw_0 : w24_.cell? ⟨lobw, 0, none⟩ = some (.int .i64 rb) := (blk_cell HBbw.out 0).trans rfl; have hfz_bw_0 := blk_frozen HBbw.out 0
  have hcz_bw_1 : w24_.cell? ⟨lobw, 1, none⟩ = some (.slice AW1 R1.length cW1) := (blk_cell HBbw.out 1).trans rfl; have hfz_bw_1 := blk_frozen HBbw.out 1
  have hcz_bw_2 : w24_.cell? ⟨lobw, 2, none⟩ = some (.slice AW2 R2.length cW2) := (blk_cell HBbw.out 2).trans rfl; have hfz_bw_2 := blk_frozen HBbw.out 2
  have hcz_bx_0 : w24_.cell? ⟨lobx, 0, none⟩ = some (.slice AX1 l1.length cX1) := (blk_cell HBbx.out 0).trans rfl; have hfz_bx_0 := blk_frozen HBbx.out 0
  have hcz_bg_0 : w24_.cell? ⟨lobg, 0, none⟩ = some (.int .i64 rb) := (blk_cell HBbg.out 0).trans rfl; have hfz_bg_0 := blk_frozen HBbg.out 0
  have hcz_bg_1 : w24_.cell? ⟨lobg, 1, none⟩ = some (.slice AG1 R1.length cG1) := (blk_cell HBbg.out 1).trans rfl; have hfz_bg_1 := blk_frozen HBbg.out 1
  have hcz_bg_2 : w24_.cell? ⟨lobg, 2, none⟩ = some (.slice AG2 R2.length cG2) := (blk_cell HBbg.out 2).trans rfl; have hfz_bg_2 := blk_frozen HBbg.out 2
  have ha_ : hiarg ≤ lobw := by
    have h0_ := HOT1.out
    have h1_ := HOT2.out
    have h2_ := HOW.out
    have h3_ := HObw.out
    have s0_ := HLT1.out
    have s1_ := HLT2.out
    have s2_ := HLW.out
    omega
  have hnb_arg_bw : loarg ≠ lobw := by have h0_ := HHarg.out; have h1_ := HHbw.out; omega
  clear ha_
  have ha_ : hiarg ≤ lobx := by
    have h0_ := HOT1.out
    have h1_ := HOT2.out
    have h2_ := HOW.out
    have h3_ := HObw.out
    have h4_ := HOX1.out
    have h5_ := HObx.out
    have s0_ := HLT1.out
    have s1_ := HLT2.out
    have s2_ := HLW.out
    have s3_ := HLbw.out
    have s4_ := HLX1.out
    omega
  have hnb_arg_bx : loarg ≠ lobx := by have h0_ := HHarg.out; have h1_ := HHbx.out; omega
  clear ha_
  have ha_ : hiarg ≤ lobg := by
    have h0_ := HOT1.out
    have h1_ := HOT2.out
    have h2_ := HOW.out
    have h3_ := HObw.out
    have h4_ := HOX1.out
    have h5_ := HObx.out
    have h6_ := HOX2.out
    have h7_ := HOG.out
    have h8_ := HObg.out
    have s0_ := HLT1.out
    have s1_ := HLT2.out
    have s2_ := HLW.out
    have s3_ := HLbw.out
    have s4_ := HLX1.out
    have s5_ := HLbx.out
    have s6_ := HLX2.out
    have s7_ := HLG.out
    omega
  have hnb_arg_bg : loarg ≠ lobg := by have h0_ := HHarg.out; have h1_ := HHbg.out; omega
  clear ha_
  have ha_ : hiarg ≤ lobw := by
    have h0_ := HOT1.out
    have h1_ := HOT2.out
    have h2_ := HOW.out
    have h3_ := HObw.out
    have s0_ := HLT1.out
    have s1_ := HLT2.out
    have s2_ := HLW.out
    omega
  have hnb_bw_arg : lobw ≠ loarg := by have h0_ := HHbw.out; have h1_ := HHarg.out; omega
  clear ha_
  have ha_ : hibw ≤ lobx := by
    have h0_ := HOX1.out
    have h1_ := HObx.out
    have s0_ := HLX1.out
    omega
  have hnb_bw_bx : lobw ≠ lobx := by have h0_ := HHbw.out; have h1_ := HHbx.out; omega
  clear ha_
  have ha_ : hibw ≤ lobg := by
    have h0_ := HOX1.out
    have h1_ := HObx.out
    have h2_ := HOX2.out
    have h3_ := HOG.out
    have h4_ := HObg.out
    have s0_ := HLX1.out
    have s1_ := HLbx.out
    have s2_ := HLX2.out
    have s3_ := HLG.out
    omega
  have hnb_bw_bg : lobw ≠ lobg := by have h0_ := HHbw.out; have h1_ := HHbg.out; omega
  clear ha_
  have ha_ : hiarg ≤ lobx := by
    have h0_ := HOT1.out
    have h1_ := HOT2.out
    have h2_ := HOW.out
    have h3_ := HObw.out
    have h4_ := HOX1.out
    have h5_ := HObx.out
    have s0_ := HLT1.out
    have s1_ := HLT2.out
    have s2_ := HLW.out
    have s3_ := HLbw.out
    have s4_ := HLX1.out
    omega
  have hnb_bx_arg : lobx ≠ loarg := by have h0_ := HHbx.out; have h1_ := HHarg.out; omega
  clear ha_
  have ha_ : hibw ≤ lobx := by
    have h0_ := HOX1.out
    have h1_ := HObx.out
    have s0_ := HLX1.out
    omega
  have hnb_bx_bw : lobx ≠ lobw := by have h0_ := HHbx.out; have h1_ := HHbw.out; omega
  clear ha_
  have ha_ : hibx ≤ lobg := by
    have h0_ := HOX2.out
    have h1_ := HOG.out
    have h2_ := HObg.out
    have s0_ := HLX2.out
    have s1_ := HLG.out
    omega
  have hnb_bx_bg : lobx ≠ lobg := by have h0_ := HHbx.out; have h1_ := HHbg.out; omega
  clear ha_
  have ha_ : hiarg ≤ lobg := by
    have h0_ := HOT1.out
    have h1_ := HOT2.out
    have h2_ := HOW.out
    have h3_ := HObw.out
    have h4_ := HOX1.out
    have h5_ := HObx.out
    have h6_ := HOX2.out
    have h7_ := HOG.out
    have h8_ := HObg.out
    have s0_ := HLT1.out
    have s1_ := HLT2.out
    have s2_ := HLW.out
    have s3_ := HLbw.out
    have s4_ := HLX1.out
    have s5_ := HLbx.out
    have s6_ := HLX2.out
    have s7_ := HLG.out
    omega
  have hnb_bg_arg : lobg ≠ loarg := by have h0_ := HHbg.out; have h1_ := HHarg.out; omega
  clear ha_
  have ha_ : hibw ≤ lobg := by
    have h0_ := HOX1.out
    have h1_ := HObx.out
    have h2_ := HOX2.out
    have h3_ := HOG.out
    have h4_ := HObg.out
    have s0_ := HLX1.out
    have s1_ := HLbx.out
    have s2_ := HLX2.out
    have s3_ := HLG.out
    omega
  have hnb_bg_bw : lobg ≠ lobw := by have h0_ := HHbg.out; have h1_ := HHbw.out; omega
  clear ha_
  have ha_ : hibx ≤ lobg := by
    have h0_ := HOX2.out
    have h1_ := HOG.out
    have h2_ := HObg.out
    have s0_ := HLX2.out
    have s1_ := HLG.out
    omega
  have hnb_bg_bx : lobg ≠ lobx := by have h0_ := HHbg.out; have h1_ := HHbx.out; omega
  clear ha_
  go_wp2_with fail
  refine (G_held k rb _ _ R1.length R1' _ _ R2.length R2' 1 mg _ (Kd.S_reads' HG1.out).2.2 (Kd.S_reads' HG1.out).1 (Kd.S_reads' HG1.out).2.1 (Kd.R_reads' HG2.out).2.2 (Kd.R_reads' HG2.out).1 (Kd.R_reads' HG2.out).2.1 FH.out).mono ?_
  rintro e w25_ ⟨rfl, hb⟩
  have n0_ := Aside0.mk (blk_below HBarg.out hb)
  have n1_ := Aside0.mk (Kd.S_below HW1.out hb)
  have n2_ := Aside0.mk (Kd.R_below HW2.out hb)
  have n3_ := Aside0.mk (blk_below HBbw.out hb)
  have n4_ := Aside0.mk (blk_below HBbx.out hb)
  have n5_ := Aside0.mk (blk_below HBbg.out hb)
  have n6_ := Aside0.mk (Kd.S_below HG1.out hb)
  have n7_ := Aside0.mk (Kd.R_below HG2.out hb)
  clear HBarg; have HBarg := n0_; clear n0_
  clear HW1; have HW1 := n1_; clear n1_
  clear HW2; have HW2 := n2_; clear n2_
  clear HBbw; have HBbw := n3_; clear n3_
  clear HBbx; have HBbx := n4_; clear n4_
  clear HBbg; have HBbg := n5_; clear n5_
  clear HG1; have HG1 := n6_; clear n6_
  clear HG2; have HG2 := n7_; clear n7_
  have nb_ := Aside0.mk (below_step HB.out hb); have np_ := Aside0.mk (Nat.le_trans HP.out hb.size); clear HB HP; have HB := nb_; have HP := np_; clear nb_ np_
  clear hb
  clear hcz_arg_0
  clear hfz_arg_0
  clear hcz_bw_0
  clear hfz_bw_0
  clear hcz_bw_1
  clear hfz_bw_1
  clear hcz_bw_2
  clear hfz_bw_2
  clear hcz_bx_0
  clear hfz_bx_0
  clear hcz_bg_0
  clear hfz_bg_0
  clear hcz_bg_1
  clear hfz_bg_1
  clear hcz_bg_2
  clear hfz_bg_2
  clear hnb_arg_bw
  clear hnb_arg_bx
  clear hnb_arg_bg
  clear hnb_bw_arg
  clear hnb_bw_bx
  clear hnb_bw_bg
  clear hnb_bx_arg
  clear hnb_bx_bw
  clear hnb_bx_bg
  clear hnb_bg_arg
  clear hnb_bg_bw
  clear hnb_bg_bx
  have hcz_arg_0 : w25_.cell? ⟨loarg, 0, none⟩ = some (.slice A1 l1.length c1) := (blk_cell HBarg.out 0).trans rfl; have hfz_arg_0 := blk_frozen HBarg.out 0
  have hcz_bw_0 : w25_.cell? ⟨lobw, 0, none⟩ = some (.int .i64 rb) := (blk_cell HBbw.out 0).trans rfl; have hfz_bw_0 := blk_frozen HBbw.out 0
  have hcz_bw_1 : w25_.cell? ⟨lobw, 1, none⟩ = some (.slice AW1 R1.length cW1) := (blk_cell HBbw.out 1).trans rfl; have hfz_bw_1 := blk_frozen HBbw.out 1
  have hcz_bw_2 : w25_.cell? ⟨lobw, 2, none⟩ = some (.slice AW2 R2.length cW2) := (blk_cell HBbw.out 2).trans rfl; have hfz_bw_2 := blk_frozen HBbw.out 2
  have hcz_bx_0 : w25_.cell? ⟨lobx, 0, none⟩ = some (.slice AX1 l1.length cX1) := (blk_cell HBbx.out 0).trans rfl; have hfz_bx_0 := blk_frozen HBbx.out 0
  have hcz_bg_0 : w25_.cell? ⟨lobg, 0, none⟩ = some (.int .i64 rb) := (blk_cell HBbg.out 0).trans rfl; have hfz_bg_0 := blk_frozen HBbg.out 0
  have hcz_bg_1 : w25_.cell? ⟨lobg, 1, none⟩ = some (.slice AG1 R1.length cG1) := (blk_cell HBbg.out 1).trans rfl; have hfz_bg_1 := blk_frozen HBbg.out 1
  have hcz_bg_2 : w25_.cell? ⟨lobg, 2, none⟩ = some (.slice AG2 R2.length cG2) := (blk_cell HBbg.out 2).trans rfl; have hfz_bg_2 := blk_frozen HBbg.out 2
  have ha_ : hiarg ≤ lobw := by
    have h0_ := HOT1.out
    have h1_ := HOT2.out
    have h2_ := HOW.out
    have h3_ := HObw.out
    have s0_ := HLT1.out
    have s1_ := HLT2.out
    have s2_ := HLW.out
    omega
  have hnb_arg_bw : loarg ≠ lobw := by have h0_ := HHarg.out; have h1_ := HHbw.out; omega
  clear ha_
  have ha_ : hiarg ≤ lobx := by
    have h0_ := HOT1.out
    have h1_ := HOT2.out
    have h2_ := HOW.out
    have h3_ := HObw.out
    have h4_ := HOX1.out
    have h5_ := HObx.out
    have s0_ := HLT1.out
    have s1_ := HLT2.out
    have s2_ := HLW.out
    have s3_ := HLbw.out
    have s4_ := HLX1.out
    omega
  have hnb_arg_bx : loarg ≠ lobx := by have h0_ := HHarg.out; have h1_ := HHbx.out; omega
  clear ha_
  have ha_ : hiarg ≤ lobg := by
    have h0_ := HOT1.out
    have h1_ := HOT2.out
    have h2_ := HOW.out
    have h3_ := HObw.out
    have h4_ := HOX1.out
    have h5_ := HObx.out
    have h6_ := HOX2.out
    have h7_ := HOG.out
    have h8_ := HObg.out
    have s0_ := HLT1.out
    have s1_ := HLT2.out
    have s2_ := HLW.out
    have s3_ := HLbw.out
    have s4_ := HLX1.out
    have s5_ := HLbx.out
    have s6_ := HLX2.out
    have s7_ := HLG.out
    omega
  have hnb_arg_bg : loarg ≠ lobg := by have h0_ := HHarg.out; have h1_ := HHbg.out; omega
  clear ha_
  have ha_ : hiarg ≤ lobw := by
    have h0_ := HOT1.out
    have h1_ := HOT2.out
    have h2_ := HOW.out
    have h3_ := HObw.out
    have s0_ := HLT1.out
    have s1_ := HLT2.out
    have s2_ := HLW.out
    omega
  have hnb_bw_arg : lobw ≠ loarg := by have h0_ := HHbw.out; have h1_ := HHarg.out; omega
  clear ha_
  have ha_ : hibw ≤ lobx := by
    have h0_ := HOX1.out
    have h1_ := HObx.out
    have s0_ := HLX1.out
    omega
  have hnb_bw_bx : lobw ≠ lobx := by have h0_ := HHbw.out; have h1_ := HHbx.out; omega
  clear ha_
  have ha_ : hibw ≤ lobg := by
    have h0_ := HOX1.out
    have h1_ := HObx.out
    have h2_ := HOX2.out
    have h3_ := HOG.out
    have h4_ := HObg.out
    have s0_ := HLX1.out
    have s1_ := HLbx.out
    have s2_ := HLX2.out
    have s3_ := HLG.out
    omega
  have hnb_bw_bg : lobw ≠ lobg := by have h0_ := HHbw.out; have h1_ := HHbg.out; omega
  clear ha_
  have ha_ : hiarg ≤ lobx := by
    have h0_ := HOT1.out
    have h1_ := HOT2.out
    have h2_ := HOW.out
    have h3_ := HObw.out
    have h4_ := HOX1.out
    have h5_ := HObx.out
    have s0_ := HLT1.out
    have s1_ := HLT2.out
    have s2_ := HLW.out
    have s3_ := HLbw.out
    have s4_ := HLX1.out
    omega
  have hnb_bx_arg : lobx ≠ loarg := by have h0_ := HHbx.out; have h1_ := HHarg.out; omega
  clear ha_
  have ha_ : hibw ≤ lobx := by
    have h0_ := HOX1.out
    have h1_ := HObx.out
    have s0_ := HLX1.out
    omega
  have hnb_bx_bw : lobx ≠ lobw := by have h0_ := HHbx.out; have h1_ := HHbw.out; omega
  clear ha_
  have ha_ : hibx ≤ lobg := by
    have h0_ := HOX2.out
    have h1_ := HOG.out
    have h2_ := HObg.out
    have s0_ := HLX2.out
    have s1_ := HLG.out
    omega
  have hnb_bx_bg : lobx ≠ lobg := by have h0_ := HHbx.out; have h1_ := HHbg.out; omega
  clear ha_
  have ha_ : hiarg ≤ lobg := by
    have h0_ := HOT1.out
    have h1_ := HOT2.out
    have h2_ := HOW.out
    have h3_ := HObw.out
    have h4_ := HOX1.out
    have h5_ := HObx.out
    have h6_ := HOX2.out
    have h7_ := HOG.out
    have h8_ := HObg.out
    have s0_ := HLT1.out
    have s1_ := HLT2.out
    have s2_ := HLW.out
    have s3_ := HLbw.out
    have s4_ := HLX1.out
    have s5_ := HLbx.out
    have s6_ := HLX2.out
    have s7_ := HLG.out
    omega
  have hnb_bg_arg : lobg ≠ loarg := by have h0_ := HHbg.out; have h1_ := HHarg.out; omega
  clear ha_
  have ha_ : hibw ≤ lobg := by
    have h0_ := HOX1.out
    have h1_ := HObx.out
    have h2_ := HOX2.out
    have h3_ := HOG.out
    have h4_ := HObg.out
    have s0_ := HLX1.out
    have s1_ := HLbx.out
    have s2_ := HLX2.out
    have s3_ := HLG.out
    omega
  have hnb_bg_bw : lobg ≠ lobw := by have h0_ := HHbg.out; have h1_ := HHbw.out; omega
  clear ha_
  have ha_ : hibx ≤ lobg := by
    have h0_ := HOX2.out
    have h1_ := HOG.out
    have h2_ := HObg.out
    have s0_ := HLX2.out
    have s1_ := HLG.out
    omega
  have hnb_bg_bx : lobg ≠ lobx := by have h0_ := HHbg.out; have h1_ := HHbx.out; omega
  clear ha_
  go_wp2_with fail
  refine (laws_toMorphism.calls k _ _ l1 l1 _ (Kd.C_below HA1.out HB.out) HC1.out FT1.out).mono ?_
  rintro e w26_ ⟨v1_, rfl, hoU1, hb⟩
  obtain ⟨loU1, hiU1, hlo_, hhi_, hp_, hl_, hs_⟩ := G.span_of hb HP.out
  have hU1 := G.S_in hoU1 HB.out hlo_ hhi_
  have n0_ := Aside0.mk (blk_below HBarg.out hb)
  have n1_ := Aside0.mk (Kd.S_below HW1.out hb)
  have n2_ := Aside0.mk (Kd.R_below HW2.out hb)
  have n3_ := Aside0.mk (blk_below HBbw.out hb)
  have n4_ := Aside0.mk (blk_below HBbx.out hb)
  have n5_ := Aside0.mk (blk_below HBbg.out hb)
  have n6_ := Aside0.mk (Kd.S_below HG1.out hb)
  have n7_ := Aside0.mk (Kd.R_below HG2.out hb)
  clear HBarg; have HBarg := n0_; clear n0_
  clear HW1; have HW1 := n1_; clear n1_
  clear HW2; have HW2 := n2_; clear n2_
  clear HBbw; have HBbw := n3_; clear n3_
  clear HBbx; have HBbx := n4_; clear n4_
  clear HBbg; have HBbg := n5_; clear n5_
  clear HG1; have HG1 := n6_; clear n6_
  clear HG2; have HG2 := n7_; clear n7_
  have nb_ := Aside0.mk (below_step HB.out hb); have np_ := Aside0.mk (Nat.le_trans HP.out hb.size); clear HB HP; have HB := nb_; have HP := np_; clear nb_ np_
  clear hoU1 hb hlo_ hhi_
  have HOU1 := Aside0.mk hp_; have HLU1 := Aside0.mk hl_; clear HP; have HP := Aside0.mk hs_; clear hp_ hl_ hs_
  obtain ⟨AU1, cU1, eU1⟩ := Kd.S_slice hU1; subst eU1
  have HU1 := Aside0.mk hU1; clear hU1
  clear hcz_arg_0
  clear hfz_arg_0
  clear hcz_bw_0
  clear hfz_bw_0
  clear hcz_bw_1
  clear hfz_bw_1
  clear hcz_bw_2
  clear hfz_bw_2
  clear hcz_bx_0
  clear hfz_bx_0
  clear hcz_bg_0
  clear hfz_bg_0
  clear hcz_bg_1
  clear hfz_bg_1
  clear hcz_bg_2
  clear hfz_bg_2
  clear hnb_arg_bw
  clear hnb_arg_bx
  clear hnb_arg_bg
  clear hnb_bw_arg
  clear hnb_bw_bx
  clear hnb_bw_bg
  clear hnb_bx_arg
  clear hnb_bx_bw
  clear hnb_bx_bg
  clear hnb_bg_arg
  clear hnb_bg_bw
  clear hnb_bg_bx
  have hcz_arg_0 : w26_.cell? ⟨loarg, 0, none⟩ = some (.slice A1 l1.length c1) := (blk_cell HBarg.out 0).trans rfl; have hfz_arg_0 := blk_frozen HBarg.out 0
  have hcz_bw_0 : w26_.cell? ⟨lobw, 0, none⟩ = some (.int .i64 rb) := (blk_cell HBbw.out 0).trans rfl; have hfz_bw_0 := blk_frozen HBbw.out 0
  have hcz_bw_1 : w26_.cell? ⟨lobw, 1, none⟩ = some (.slice AW1 R1.length cW1) := (blk_cell HBbw.out 1).trans rfl; have hfz_bw_1 := blk_frozen HBbw.out 1
  have hcz_bw_2 : w26_.cell? ⟨lobw, 2, none⟩ = some (.slice AW2 R2.length cW2) := (blk_cell HBbw.out 2).trans rfl; have hfz_bw_2 := blk_frozen HBbw.out 2
  have hcz_bx_0 : w26_.cell? ⟨lobx, 0, none⟩ = some (.slice AX1 l1.length cX1) := (blk_cell HBbx.out 0).trans rfl; have hfz_bx_0 := blk_frozen HBbx.out 0
  have hcz_bg_0 : w26_.cell? ⟨lobg, 0, none⟩ = some (.int .i64 rb) := (blk_cell HBbg.out 0).trans rfl; have hfz_bg_0 := blk_frozen HBbg.out 0
  have hcz_bg_1 : w26_.cell? ⟨lobg, 1, none⟩ = some (.slice AG1 R1.length cG1) := (blk_cell HBbg.out 1).trans rfl; have hfz_bg_1 := blk_frozen HBbg.out 1
  have hcz_bg_2 : w26_.cell? ⟨lobg, 2, none⟩ = some (.slice AG2 R2.length cG2) := (blk_cell HBbg.out 2).trans rfl; have hfz_bg_2 := blk_frozen HBbg.out 2
  have ha_ : hiarg ≤ lobw := by
    have h0_ := HOT1.out
    have h1_ := HOT2.out
    have h2_ := HOW.out
    have h3_ := HObw.out
    have s0_ := HLT1.out
    have s1_ := HLT2.out
    have s2_ := HLW.out
    omega
  have hnb_arg_bw : loarg ≠ lobw := by have h0_ := HHarg.out; have h1_ := HHbw.out; omega
  clear ha_
  have ha_ : hiarg ≤ lobx := by
    have h0_ := HOT1.out
    have h1_ := HOT2.out
    have h2_ := HOW.out
    have h3_ := HObw.out
    have h4_ := HOX1.out
    have h5_ := HObx.out
    have s0_ := HLT1.out
    have s1_ := HLT2.out
    have s2_ := HLW.out
    have s3_ := HLbw.out
    have s4_ := HLX1.out
    omega
  have hnb_arg_bx : loarg ≠ lobx := by have h0_ := HHarg.out; have h1_ := HHbx.out; omega
  clear ha_
  have ha_ : hiarg ≤ lobg := by
    have h0_ := HOT1.out
    have h1_ := HOT2.out
    have h2_ := HOW.out
    have h3_ := HObw.out
    have h4_ := HOX1.out
    have h5_ := HObx.out
    have h6_ := HOX2.out
    have h7_ := HOG.out
    have h8_ := HObg.out
    have s0_ := HLT1.out
    have s1_ := HLT2.out
    have s2_ := HLW.out
    have s3_ := HLbw.out
    have s4_ := HLX1.out
    have s5_ := HLbx.out
    have s6_ := HLX2.out
    have s7_ := HLG.out
    omega
  have hnb_arg_bg : loarg ≠ lobg := by have h0_ := HHarg.out; have h1_ := HHbg.out; omega
  clear ha_
  have ha_ : hiarg ≤ lobw := by
    have h0_ := HOT1.out
    have h1_ := HOT2.out
    have h2_ := HOW.out
    have h3_ := HObw.out
    have s0_ := HLT1.out
    have s1_ := HLT2.out
    have s2_ := HLW.out
    omega
  have hnb_bw_arg : lobw ≠ loarg := by have h0_ := HHbw.out; have h1_ := HHarg.out; omega
  clear ha_
  have ha_ : hibw ≤ lobx := by
    have h0_ := HOX1.out
    have h1_ := HObx.out
    have s0_ := HLX1.out
    omega
  have hnb_bw_bx : lobw ≠ lobx := by have h0_ := HHbw.out; have h1_ := HHbx.out; omega
  clear ha_
  have ha_ : hibw ≤ lobg := by
    have h0_ := HOX1.out
    have h1_ := HObx.out
    have h2_ := HOX2.out
    have h3_ := HOG.out
    have h4_ := HObg.out
    have s0_ := HLX1.out
    have s1_ := HLbx.out
    have s2_ := HLX2.out
    have s3_ := HLG.out
    omega
  have hnb_bw_bg : lobw ≠ lobg := by have h0_ := HHbw.out; have h1_ := HHbg.out; omega
  clear ha_
  have ha_ : hiarg ≤ lobx := by
    have h0_ := HOT1.out
    have h1_ := HOT2.out
    have h2_ := HOW.out
    have h3_ := HObw.out
    have h4_ := HOX1.out
    have h5_ := HObx.out
    have s0_ := HLT1.out
    have s1_ := HLT2.out
    have s2_ := HLW.out
    have s3_ := HLbw.out
    have s4_ := HLX1.out
    omega
  have hnb_bx_arg : lobx ≠ loarg := by have h0_ := HHbx.out; have h1_ := HHarg.out; omega
  clear ha_
  have ha_ : hibw ≤ lobx := by
    have h0_ := HOX1.out
    have h1_ := HObx.out
    have s0_ := HLX1.out
    omega
  have hnb_bx_bw : lobx ≠ lobw := by have h0_ := HHbx.out; have h1_ := HHbw.out; omega
  clear ha_
  have ha_ : hibx ≤ lobg := by
    have h0_ := HOX2.out
    have h1_ := HOG.out
    have h2_ := HObg.out
    have s0_ := HLX2.out
    have s1_ := HLG.out
    omega
  have hnb_bx_bg : lobx ≠ lobg := by have h0_ := HHbx.out; have h1_ := HHbg.out; omega
  clear ha_
  have ha_ : hiarg ≤ lobg := by
    have h0_ := HOT1.out
    have h1_ := HOT2.out
    have h2_ := HOW.out
    have h3_ := HObw.out
    have h4_ := HOX1.out
    have h5_ := HObx.out
    have h6_ := HOX2.out
    have h7_ := HOG.out
    have h8_ := HObg.out
    have s0_ := HLT1.out
    have s1_ := HLT2.out
    have s2_ := HLW.out
    have s3_ := HLbw.out
    have s4_ := HLX1.out
    have s5_ := HLbx.out
    have s6_ := HLX2.out
    have s7_ := HLG.out
    omega
  have hnb_bg_arg : lobg ≠ loarg := by have h0_ := HHbg.out; have h1_ := HHarg.out; omega
  clear ha_
  have ha_ : hibw ≤ lobg := by
    have h0_ := HOX1.out
    have h1_ := HObx.out
    have h2_ := HOX2.out
    have h3_ := HOG.out
    have h4_ := HObg.out
    have s0_ := HLX1.out
    have s1_ := HLbx.out
    have s2_ := HLX2.out
    have s3_ := HLG.out
    omega
  have hnb_bg_bw : lobg ≠ lobw := by have h0_ := HHbg.out; have h1_ := HHbw.out; omega
  clear ha_
  have ha_ : hibx ≤ lobg := by
    have h0_ := HOX2.out
    have h1_ := HOG.out
    have h2_ := HObg.out
    have s0_ := HLX2.out
    have s1_ := HLG.out
    omega
  have hnb_bg_bx : lobg ≠ lobx := by have h0_ := HHbg.out; have h1_ := HHbx.out; omega
  clear ha_
  go_wp2_with fail
  refine (laws_toIntS.calls k _ _ l2 l2 _ (Kd.C_below HA2.out HB.out) HC2.out FT2.out).mono ?_
  rintro e w27_ ⟨v1_, rfl, hoU2, hb⟩
  obtain ⟨loU2, hiU2, hlo_, hhi_, hp_, hl_, hs_⟩ := G.span_of hb HP.out
  have hU2 := G.R_in hoU2 HB.out hlo_ hhi_
  have n0_ := Aside0.mk (blk_below HBarg.out hb)
  have n1_ := Aside0.mk (Kd.S_below HW1.out hb)
  have n2_ := Aside0.mk (Kd.R_below HW2.out hb)
  have n3_ := Aside0.mk (blk_below HBbw.out hb)
  have n4_ := Aside0.mk (blk_below HBbx.out hb)
  have n5_ := Aside0.mk (blk_below HBbg.out hb)
  have n6_ := Aside0.mk (Kd.S_below HG1.out hb)
  have n7_ := Aside0.mk (Kd.R_below HG2.out hb)
  have n8_ := Aside0.mk (Kd.S_below HU1.out hb)
  clear HBarg; have HBarg := n0_; clear n0_
  clear HW1; have HW1 := n1_; clear n1_
  clear HW2; have HW2 := n2_; clear n2_
  clear HBbw; have HBbw := n3_; clear n3_
  clear HBbx; have HBbx := n4_; clear n4_
  clear HBbg; have HBbg := n5_; clear n5_
  clear HG1; have HG1 := n6_; clear n6_
  clear HG2; have HG2 := n7_; clear n7_
  clear HU1; have HU1 := n8_; clear n8_
  have nb_ := Aside0.mk (below_step HB.out hb); have np_ := Aside0.mk (Nat.le_trans HP.out hb.size); clear HB HP; have HB := nb_; have HP := np_; clear nb_ np_
  clear hoU2 hb hlo_ hhi_
  have HOU2 := Aside0.mk hp_; have HLU2 := Aside0.mk hl_; clear HP; have HP := Aside0.mk hs_; clear hp_ hl_ hs_
  obtain ⟨AU2, cU2, eU2⟩ := Kd.R_slice hU2; subst eU2
  have HU2 := Aside0.mk hU2; clear hU2
  clear hcz_arg_0
  clear hfz_arg_0
  clear hcz_bw_0
  clear hfz_bw_0
  clear hcz_bw_1
  clear hfz_bw_1
  clear hcz_bw_2
  clear hfz_bw_2
  clear hcz_bx_0
  clear hfz_bx_0
  clear hcz_bg_0
  clear hfz_bg_0
  clear hcz_bg_1
  clear hfz_bg_1
  clear hcz_bg_2
  clear hfz_bg_2
  clear hnb_arg_bw
  clear hnb_arg_bx
  clear hnb_arg_bg
  clear hnb_bw_arg
  clear hnb_bw_bx
  clear hnb_bw_bg
  clear hnb_bx_arg
  clear hnb_bx_bw
  clear hnb_bx_bg
  clear hnb_bg_arg
  clear hnb_bg_bw
  clear hnb_bg_bx
  have hcz_arg_0 : w27_.cell? ⟨loarg, 0, none⟩ = some (.slice A1 l1.length c1) := (blk_cell HBarg.out 0).trans rfl; have hfz_arg_0 := blk_frozen HBarg.out 0
  have hcz_bw_0 : w27_.cell? ⟨lobw, 0, none⟩ = some (.int .i64 rb) := (blk_cell HBbw.out 0).trans rfl; have hfz_bw_0 := blk_frozen HBbw.out 0
  have hcz_bw_1 : w27_.cell? ⟨lobw, 1, none⟩ = some (.slice AW1 R1.length cW1) := (blk_cell HBbw.out 1).trans rfl; have hfz_bw_1 := blk_frozen HBbw.out 1
  have hcz_bw_2 : w27_.cell? ⟨lobw, 2, none⟩ = some (.slice AW2 R2.length cW2) := (blk_cell HBbw.out 2).trans rfl; have hfz_bw_2 := blk_frozen HBbw.out 2
  have hcz_bx_0 : w27_.cell? ⟨lobx, 0, none⟩ = some (.slice AX1 l1.length cX1) := (blk_cell HBbx.out 0).trans rfl; have hfz_bx_0 := blk_frozen HBbx.out 0
  have hcz_bg_0 : w27_.cell? ⟨lobg, 0, none⟩ = some (.int .i64 rb) := (blk_cell HBbg.out 0).trans rfl; have hfz_bg_0 := blk_frozen HBbg.out 0
  have hcz_bg_1 : w27_.cell? ⟨lobg, 1, none⟩ = some (.slice AG1 R1.length cG1) := (blk_cell HBbg.out 1).trans rfl; have hfz_bg_1 := blk_frozen HBbg.out 1
  have hcz_bg_2 : w27_.cell? ⟨lobg, 2, none⟩ = some (.slice AG2 R2.length cG2) := (blk_cell HBbg.out 2).trans rfl; have hfz_bg_2 := blk_frozen HBbg.out 2
  have ha_ : hiarg ≤ lobw := by
    have h0_ := HOT1.out
    have h1_ := HOT2.out
    have h2_ := HOW.out
    have h3_ := HObw.out
    have s0_ := HLT1.out
    have s1_ := HLT2.out
    have s2_ := HLW.out
    omega
  have hnb_arg_bw : loarg ≠ lobw := by have h0_ := HHarg.out; have h1_ := HHbw.out; omega
  clear ha_
  have ha_ : hiarg ≤ lobx := by
    have h0_ := HOT1.out
    have h1_ := HOT2.out
    have h2_ := HOW.out
    have h3_ := HObw.out
    have h4_ := HOX1.out
    have h5_ := HObx.out
    have s0_ := HLT1.out
    have s1_ := HLT2.out
    have s2_ := HLW.out
    have s3_ := HLbw.out
    have s4_ := HLX1.out
    omega
  have hnb_arg_bx : loarg ≠ lobx := by have h0_ := HHarg.out; have h1_ := HHbx.out; omega
  clear ha_
  have ha_ : hiarg ≤ lobg := by
    have h0_ := HOT1.out
    have h1_ := HOT2.out
    have h2_ := HOW.out
    have h3_ := HObw.out
    have h4_ := HOX1.out
    have h5_ := HObx.out
    have h6_ := HOX2.out
    have h7_ := HOG.out
    have h8_ := HObg.out
    have s0_ := HLT1.out
    have s1_ := HLT2.out
    have s2_ := HLW.out
    have s3_ := HLbw.out
    have s4_ := HLX1.out
    have s5_ := HLbx.out
    have s6_ := HLX2.out
    have s7_ := HLG.out
    omega
  have hnb_arg_bg : loarg ≠ lobg := by have h0_ := HHarg.out; have h1_ := HHbg.out; omega
  clear ha_
  have ha_ : hiarg ≤ lobw := by
    have h0_ := HOT1.out
    have h1_ := HOT2.out
    have h2_ := HOW.out
    have h3_ := HObw.out
    have s0_ := HLT1.out
    have s1_ := HLT2.out
    have s2_ := HLW.out
    omega
  have hnb_bw_arg : lobw ≠ loarg := by have h0_ := HHbw.out; have h1_ := HHarg.out; omega
  clear ha_
  have ha_ : hibw ≤ lobx := by
    have h0_ := HOX1.out
    have h1_ := HObx.out
    have s0_ := HLX1.out
    omega
  have hnb_bw_bx : lobw ≠ lobx := by have h0_ := HHbw.out; have h1_ := HHbx.out; omega
  clear ha_
  have ha_ : hibw ≤ lobg := by
    have h0_ := HOX1.out
    have h1_ := HObx.out
    have h2_ := HOX2.out
    have h3_ := HOG.out
    have h4_ := HObg.out
    have s0_ := HLX1.out
    have s1_ := HLbx.out
    have s2_ := HLX2.out
    have s3_ := HLG.out
    omega
  have hnb_bw_bg : lobw ≠ lobg := by have h0_ := HHbw.out; have h1_ := HHbg.out; omega
  clear ha_
  have ha_ : hiarg ≤ lobx := by
    have h0_ := HOT1.out
    have h1_ := HOT2.out
    have h2_ := HOW.out
    have h3_ := HObw.out
    have h4_ := HOX1.out
    have h5_ := HObx.out
    have s0_ := HLT1.out
    have s1_ := HLT2.out
    have s2_ := HLW.out
    have s3_ := HLbw.out
    have s4_ := HLX1.out
    omega
  have hnb_bx_arg : lobx ≠ loarg := by have h0_ := HHbx.out; have h1_ := HHarg.out; omega
  clear ha_
  have ha_ : hibw ≤ lobx := by
    have h0_ := HOX1.out
    have h1_ := HObx.out
    have s0_ := HLX1.out
    omega
  have hnb_bx_bw : lobx ≠ lobw := by have h0_ := HHbx.out; have h1_ := HHbw.out; omega
  clear ha_
  have ha_ : hibx ≤ lobg := by
    have h0_ := HOX2.out
    have h1_ := HOG.out
    have h2_ := HObg.out
    have s0_ := HLX2.out
    have s1_ := HLG.out
    omega
  have hnb_bx_bg : lobx ≠ lobg := by have h0_ := HHbx.out; have h1_ := HHbg.out; omega
  clear ha_
  have ha_ : hiarg ≤ lobg := by
    have h0_ := HOT1.out
    have h1_ := HOT2.out
    have h2_ := HOW.out
    have h3_ := HObw.out
    have h4_ := HOX1.out
    have h5_ := HObx.out
    have h6_ := HOX2.out
    have h7_ := HOG.out
    have h8_ := HObg.out
    have s0_ := HLT1.out
    have s1_ := HLT2.out
    have s2_ := HLW.out
    have s3_ := HLbw.out
    have s4_ := HLX1.out
    have s5_ := HLbx.out
    have s6_ := HLX2.out
    have s7_ := HLG.out
    omega
  have hnb_bg_arg : lobg ≠ loarg := by have h0_ := HHbg.out; have h1_ := HHarg.out; omega
  clear ha_
  have ha_ : hibw ≤ lobg := by
    have h0_ := HOX1.out
    have h1_ := HObx.out
    have h2_ := HOX2.out
    have h3_ := HOG.out
    have h4_ := HObg.out
    have s0_ := HLX1.out
    have s1_ := HLbx.out
    have s2_ := HLX2.out
    have s3_ := HLG.out
    omega
  have hnb_bg_bw : lobg ≠ lobw := by have h0_ := HHbg.out; have h1_ := HHbw.out; omega
  clear ha_
  have ha_ : hibx ≤ lobg := by
    have h0_ := HOX2.out
    have h1_ := HOG.out
    have h2_ := HObg.out
    have s0_ := HLX2.out
    have s1_ := HLG.out
    omega
  have hnb_bg_bx : lobg ≠ lobx := by have h0_ := HHbg.out; have h1_ := HHbx.out; omega
  clear ha_
  go_wp2_with fail
  refine (impl_SequenceOf.calls k _ _ l1 _ _ l2 rb R1 R2 b _ (Kd.S_reads' HU1.out).2.2 (Kd.S_reads' HU1.out).2.1 (Kd.R_reads' HU2.out).2.2 (Kd.R_reads' HU2.out).2.1 FI.out).mono ?_
  rintro e w28_ ⟨v1_, v2_, rfl, hoH1, hoH2, hb⟩
  obtain ⟨loH, hiH, hlo_, hhi_, hp_, hl_, hs_⟩ := G.span_of hb HP.out
  have hH1 := G.S_in2 hoH1 HB.out hlo_ hhi_
  have hH2 := G.R_in hoH2 HB.out hlo_ hhi_
  have n0_ := Aside0.mk (blk_below HBarg.out hb)
  have n1_ := Aside0.mk (Kd.S_below HW1.out hb)
  have n2_ := Aside0.mk (Kd.R_below HW2.out hb)
  have n3_ := Aside0.mk (blk_below HBbw.out hb)
  have n4_ := Aside0.mk (blk_below HBbx.out hb)
  have n5_ := Aside0.mk (blk_below HBbg.out hb)
  have n6_ := Aside0.mk (Kd.S_below HG1.out hb)
  have n7_ := Aside0.mk (Kd.R_below HG2.out hb)
  have n8_ := Aside0.mk (Kd.S_below HU1.out hb)
  have n9_ := Aside0.mk (Kd.R_below HU2.out hb)
  clear HBarg; have HBarg := n0_; clear n0_
  clear HW1; have HW1 := n1_; clear n1_
  clear HW2; have HW2 := n2_; clear n2_
  clear HBbw; have HBbw := n3_; clear n3_
  clear HBbx; have HBbx := n4_; clear n4_
  clear HBbg; have HBbg := n5_; clear n5_
  clear HG1; have HG1 := n6_; clear n6_
  clear HG2; have HG2 := n7_; clear n7_
  clear HU1; have HU1 := n8_; clear n8_
  clear HU2; have HU2 := n9_; clear n9_
  have nb_ := Aside0.mk (below_step HB.out hb); have np_ := Aside0.mk (Nat.le_trans HP.out hb.size); clear HB HP; have HB := nb_; have HP := np_; clear nb_ np_
  clear hoH1 hoH2 hb hlo_ hhi_
  have HOH := Aside0.mk hp_; have HLH := Aside0.mk hl_; clear HP; have HP := Aside0.mk hs_; clear hp_ hl_ hs_
  obtain ⟨AH1, cH1, eH1⟩ := Kd.S_slice hH1; subst eH1
  have HH1 := Aside0.mk hH1; clear hH1
  obtain ⟨AH2, cH2, eH2⟩ := Kd.R_slice hH2; subst eH2
  have HH2 := Aside0.mk hH2; clear hH2
  clear hcz_arg_0
  clear hfz_arg_0
  clear hcz_bw_0
  clear hfz_bw_0
  clear hcz_bw_1
  clear hfz_bw_1
  clear hcz_bw_2
  clear hfz_bw_2
  clear hcz_bx_0
  clear hfz_bx_0
  clear hcz_bg_0
  clear hfz_bg_0
  clear hcz_bg_1
  clear hfz_bg_1
  clear hcz_bg_2
  clear hfz_bg_2
  clear hnb_arg_bw
  clear hnb_arg_bx
  clear hnb_arg_bg
  clear hnb_bw_arg
  clear hnb_bw_bx
  clear hnb_bw_bg
  clear hnb_bx_arg
  clear hnb_bx_bw
  clear hnb_bx_bg
  clear hnb_bg_arg
  clear hnb_bg_bw
  clear hnb_bg_bx
  have hcz_arg_0 : w28_.cell? ⟨loarg, 0, none⟩ = some (.slice A1 l1.length c1) := (blk_cell HBarg.out 0).trans rfl; have hfz_arg_0 := blk_frozen HBarg.out 0
  have hcz_bw_0 : w28_.cell? ⟨lobw, 0, none⟩ = some (.int .i64 rb) := (blk_cell HBbw.out 0).trans rfl; have hfz_bw_0 := blk_frozen HBbw.out 0
  have hcz_bw_1 : w28_.cell? ⟨lobw, 1, none⟩ = some (.slice AW1 R1.length cW1) := (blk_cell HBbw.out 1).trans rfl; have hfz_bw_1 := blk_frozen HBbw.out 1
  have hcz_bw_2 : w28_.cell? ⟨lobw, 2, none⟩ = some (.slice AW2 R2.length cW2) := (blk_cell HBbw.out 2).trans rfl; have hfz_bw_2 := blk_frozen HBbw.out 2
  have hcz_bx_0 : w28_.cell? ⟨lobx, 0, none⟩ = some (.slice AX1 l1.length cX1) := (blk_cell HBbx.out 0).trans rfl; have hfz_bx_0 := blk_frozen HBbx.out 0
  have hcz_bg_0 : w28_.cell? ⟨lobg, 0, none⟩ = some (.int .i64 rb) := (blk_cell HBbg.out 0).trans rfl; have hfz_bg_0 := blk_frozen HBbg.out 0
  have hcz_bg_1 : w28_.cell? ⟨lobg, 1, none⟩ = some (.slice AG1 R1.length cG1) := (blk_cell HBbg.out 1).trans rfl; have hfz_bg_1 := blk_frozen HBbg.out 1
  have hcz_bg_2 : w28_.cell? ⟨lobg, 2, none⟩ = some (.slice AG2 R2.length cG2) := (blk_cell HBbg.out 2).trans rfl; have hfz_bg_2 := blk_frozen HBbg.out 2
  have ha_ : hiarg ≤ lobw := by
    have h0_ := HOT1.out
    have h1_ := HOT2.out
    have h2_ := HOW.out
    have h3_ := HObw.out
    have s0_ := HLT1.out
    have s1_ := HLT2.out
    have s2_ := HLW.out
    omega
  have hnb_arg_bw : loarg ≠ lobw := by have h0_ := HHarg.out; have h1_ := HHbw.out; omega
  clear ha_
  have ha_ : hiarg ≤ lobx := by
    have h0_ := HOT1.out
    have h1_ := HOT2.out
    have h2_ := HOW.out
    have h3_ := HObw.out
    have h4_ := HOX1.out
    have h5_ := HObx.out
    have s0_ := HLT1.out
    have s1_ := HLT2.out
    have s2_ := HLW.out
    have s3_ := HLbw.out
    have s4_ := HLX1.out
    omega
  have hnb_arg_bx : loarg ≠ lobx := by have h0_ := HHarg.out; have h1_ := HHbx.out; omega
  clear ha_
  have ha_ : hiarg ≤ lobg := by
    have h0_ := HOT1.out
    have h1_ := HOT2.out
    have h2_ := HOW.out
    have h3_ := HObw.out
    have h4_ := HOX1.out
    have h5_ := HObx.out
    have h6_ := HOX2.out
    have h7_ := HOG.out
    have h8_ := HObg.out
    have s0_ := HLT1.out
    have s1_ := HLT2.out
    have s2_ := HLW.out
    have s3_ := HLbw.out
    have s4_ := HLX1.out
    have s5_ := HLbx.out
    have s6_ := HLX2.out
    have s7_ := HLG.out
    omega
  have hnb_arg_bg : loarg ≠ lobg := by have h0_ := HHarg.out; have h1_ := HHbg.out; omega
  clear ha_
  have ha_ : hiarg ≤ lobw := by
    have h0_ := HOT1.out
    have h1_ := HOT2.out
    have h2_ := HOW.out
    have h3_ := HObw.out
    have s0_ := HLT1.out
    have s1_ := HLT2.out
    have s2_ := HLW.out
    omega
  have hnb_bw_arg : lobw ≠ loarg := by have h0_ := HHbw.out; have h1_ := HHarg.out; omega
  clear ha_
  have ha_ : hibw ≤ lobx := by
    have h0_ := HOX1.out
    have h1_ := HObx.out
    have s0_ := HLX1.out
    omega
  have hnb_bw_bx : lobw ≠ lobx := by have h0_ := HHbw.out; have h1_ := HHbx.out; omega
  clear ha_
  have ha_ : hibw ≤ lobg := by
    have h0_ := HOX1.out
    have h1_ := HObx.out
    have h2_ := HOX2.out
    have h3_ := HOG.out
    have h4_ := HObg.out
    have s0_ := HLX1.out
    have s1_ := HLbx.out
    have s2_ := HLX2.out
    have s3_ := HLG.out
    omega
  have hnb_bw_bg : lobw ≠ lobg := by have h0_ := HHbw.out; have h1_ := HHbg.out; omega
  clear ha_
  have ha_ : hiarg ≤ lobx := by
    have h0_ := HOT1.out
    have h1_ := HOT2.out
    have h2_ := HOW.out
    have h3_ := HObw.out
    have h4_ := HOX1.out
    have h5_ := HObx.out
    have s0_ := HLT1.out
    have s1_ := HLT2.out
    have s2_ := HLW.out
    have s3_ := HLbw.out
    have s4_ := HLX1.out
    omega
  have hnb_bx_arg : lobx ≠ loarg := by have h0_ := HHbx.out; have h1_ := HHarg.out; omega
  clear ha_
  have ha_ : hibw ≤ lobx := by
    have h0_ := HOX1.out
    have h1_ := HObx.out
    have s0_ := HLX1.out
    omega
  have hnb_bx_bw : lobx ≠ lobw := by have h0_ := HHbx.out; have h1_ := HHbw.out; omega
  clear ha_
  have ha_ : hibx ≤ lobg := by
    have h0_ := HOX2.out
    have h1_ := HOG.out
    have h2_ := HObg.out
    have s0_ := HLX2.out
    have s1_ := HLG.out
    omega
  have hnb_bx_bg : lobx ≠ lobg := by have h0_ := HHbx.out; have h1_ := HHbg.out; omega
  clear ha_
  have ha_ : hiarg ≤ lobg := by
    have h0_ := HOT1.out
    have h1_ := HOT2.out
    have h2_ := HOW.out
    have h3_ := HObw.out
    have h4_ := HOX1.out
    have h5_ := HObx.out
    have h6_ := HOX2.out
    have h7_ := HOG.out
    have h8_ := HObg.out
    have s0_ := HLT1.out
    have s1_ := HLT2.out
    have s2_ := HLW.out
    have s3_ := HLbw.out
    have s4_ := HLX1.out
    have s5_ := HLbx.out
    have s6_ := HLX2.out
    have s7_ := HLG.out
    omega
  have hnb_bg_arg : lobg ≠ loarg := by have h0_ := HHbg.out; have h1_ := HHarg.out; omega
  clear ha_
  have ha_ : hibw ≤ lobg := by
    have h0_ := HOX1.out
    have h1_ := HObx.out
    have h2_ := HOX2.out
    have h3_ := HOG.out
    have h4_ := HObg.out
    have s0_ := HLX1.out
    have s1_ := HLbx.out
    have s2_ := HLX2.out
    have s3_ := HLG.out
    omega
  have hnb_bg_bw : lobg ≠ lobw := by have h0_ := HHbg.out; have h1_ := HHbw.out; omega
  clear ha_
  have ha_ : hibx ≤ lobg := by
    have h0_ := HOX2.out
    have h1_ := HOG.out
    have h2_ := HObg.out
    have s0_ := HLX2.out
    have s1_ := HLG.out
    omega
  have hnb_bg_bx : lobg ≠ lobx := by have h0_ := HHbg.out; have h1_ := HHbx.out; omega
  clear ha_
  clear HU1
  clear HU2
  go_wp2_with (first | (
    (with_reducible refine gate_dst (N := 15) rfl ?_); refine box_event ?hg (N := 15) ?hd (cs := #[.int .i64 0, .slice none 0 0, .slice none 0 0]) (t := 51) ?hr ?_; (case hd => rfl); (case hg => rfl); (case hr => first | (go_simp; done) | (go_simp; rfl))
    intro lobh hg w29_ hbox hb
    obtain ⟨hibh, hh_⟩ : ∃ h, h = lobh + 1 := ⟨_, rfl⟩
    have hp_ : hiH ≤ lobh := by rw [hg]; exact HP.out
    have hl_ : lobh ≤ hibh := by omega
    have hs_ : hibh ≤ w29_.heap.size := by rw [hh_]; exact blk_lt hbox
    have HGbh := Aside0.mk (show w.heap.size ≤ lobh from by rw [hg]; exact HB.out.size)
    have n0_ := Aside0.mk (blk_below HBarg.out hb)
    have n1_ := Aside0.mk (Kd.S_below HW1.out hb)
    have n2_ := Aside0.mk (Kd.R_below HW2.out hb)
    have n3_ := Aside0.mk (blk_below HBbw.out hb)
    have n4_ := Aside0.mk (blk_below HBbx.out hb)
    have n5_ := Aside0.mk (blk_below HBbg.out hb)
    have n6_ := Aside0.mk (Kd.S_below HG1.out hb)
    have n7_ := Aside0.mk (Kd.R_below HG2.out hb)
    have n8_ := Aside0.mk (Kd.S_below HH1.out hb)
    have n9_ := Aside0.mk (Kd.R_below HH2.out hb)
    clear HBarg; have HBarg := n0_; clear n0_
    clear HW1; have HW1 := n1_; clear n1_
    clear HW2; have HW2 := n2_; clear n2_
    clear HBbw; have HBbw := n3_; clear n3_
    clear HBbx; have HBbx := n4_; clear n4_
    clear HBbg; have HBbg := n5_; clear n5_
    clear HG1; have HG1 := n6_; clear n6_
    clear HG2; have HG2 := n7_; clear n7_
    clear HH1; have HH1 := n8_; clear n8_
    clear HH2; have HH2 := n9_; clear n9_
    have nb_ := Aside0.mk (below_step HB.out hb); have np_ := Aside0.mk (Nat.le_trans HP.out hb.size); clear HB HP; have HB := nb_; have HP := np_; clear nb_ np_
    have HHbh := Aside0.mk hh_
    have HObh := Aside0.mk hp_; have HLbh := Aside0.mk hl_; clear HP; have HP := Aside0.mk hs_; clear hp_ hl_ hs_
    have HBbh := Aside0.mk hbox; clear hbox hb hg hh_
    clear hcz_arg_0
    clear hfz_arg_0
    clear hcz_bw_0
    clear hfz_bw_0
    clear hcz_bw_1
    clear hfz_bw_1
    clear hcz_bw_2
    clear hfz_bw_2
    clear hcz_bx_0
    clear hfz_bx_0
    clear hcz_bg_0
    clear hfz_bg_0
    clear hcz_bg_1
    clear hfz_bg_1
    clear hcz_bg_2
    clear hfz_bg_2
    clear hnb_arg_bw
    clear hnb_arg_bx
    clear hnb_arg_bg
    clear hnb_bw_arg
    clear hnb_bw_bx
    clear hnb_bw_bg
    clear hnb_bx_arg
    clear hnb_bx_bw
    clear hnb_bx_bg
    clear hnb_bg_arg
    clear hnb_bg_bw
    clear hnb_bg_bx
    have hcz_arg_0 : w29_.cell? ⟨loarg, 0, none⟩ = some (.slice A1 l1.length c1) := (blk_cell HBarg.out 0).trans rfl; have hfz_arg_0 := blk_frozen HBarg.out 0
    have hcz_bw_0 : w29_.cell? ⟨lobw, 0, none⟩ = some (.int .i64 rb) := (blk_cell HBbw.out 0).trans rfl; have hfz_bw_0 := blk_frozen HBbw.out 0
    have hcz_bw_1 : w29_.cell? ⟨lobw, 1, none⟩ = some (.slice AW1 R1.length cW1) := (blk_cell HBbw.out 1).trans rfl; have hfz_bw_1 := blk_frozen HBbw.out 1
    have hcz_bw_2 : w29_.cell? ⟨lobw, 2, none⟩ = some (.slice AW2 R2.length cW2) := (blk_cell HBbw.out 2).trans rfl; have hfz_bw_2 := blk_frozen HBbw.out 2
    have hcz_bx_0 : w29_.cell? ⟨lobx, 0, none⟩ = some (.slice AX1 l1.length cX1) := (blk_cell HBbx.out 0).trans rfl; have hfz_bx_0 := blk_frozen HBbx.out 0
    have hcz_bg_0 : w29_.cell? ⟨lobg, 0, none⟩ = some (.int .i64 rb) := (blk_cell HBbg.out 0).trans rfl; have hfz_bg_0 := blk_frozen HBbg.out 0
    have hcz_bg_1 : w29_.cell? ⟨lobg, 1, none⟩ = some (.slice AG1 R1.length cG1) := (blk_cell HBbg.out 1).trans rfl; have hfz_bg_1 := blk_frozen HBbg.out 1
    have hcz_bg_2 : w29_.cell? ⟨lobg, 2, none⟩ = some (.slice AG2 R2.length cG2) := (blk_cell HBbg.out 2).trans rfl; have hfz_bg_2 := blk_frozen HBbg.out 2
    have hcz_bh_0 : w29_.cell? ⟨lobh, 0, none⟩ = some (.int .i64 0) := (blk_cell HBbh.out 0).trans rfl; have hfz_bh_0 := blk_frozen HBbh.out 0
    have hcz_bh_1 : w29_.cell? ⟨lobh, 1, none⟩ = some (.slice none 0 0) := (blk_cell HBbh.out 1).trans rfl; have hfz_bh_1 := blk_frozen HBbh.out 1
    have hcz_bh_2 : w29_.cell? ⟨lobh, 2, none⟩ = some (.slice none 0 0) := (blk_cell HBbh.out 2).trans rfl; have hfz_bh_2 := blk_frozen HBbh.out 2
    have ha_ : hiarg ≤ lobw := by
      have h0_ := HOT1.out
      have h1_ := HOT2.out
      have h2_ := HOW.out
      have h3_ := HObw.out
      have s0_ := HLT1.out
      have s1_ := HLT2.out
      have s2_ := HLW.out
      omega
    have hnb_arg_bw : loarg ≠ lobw := by have h0_ := HHarg.out; have h1_ := HHbw.out; omega
    clear ha_
    have ha_ : hiarg ≤ lobx := by
      have h0_ := HOT1.out
      have h1_ := HOT2.out
      have h2_ := HOW.out
      have h3_ := HObw.out
      have h4_ := HOX1.out
      have h5_ := HObx.out
      have s0_ := HLT1.out
      have s1_ := HLT2.out
      have s2_ := HLW.out
      have s3_ := HLbw.out
      have s4_ := HLX1.out
      omega
    have hnb_arg_bx : loarg ≠ lobx := by have h0_ := HHarg.out; have h1_ := HHbx.out; omega
    clear ha_
    have ha_ : hiarg ≤ lobg := by
      have h0_ := HOT1.out
      have h1_ := HOT2.out
      have h2_ := HOW.out
      have h3_ := HObw.out
      have h4_ := HOX1.out
      have h5_ := HObx.out
      have h6_ := HOX2.out
      have h7_ := HOG.out
      have h8_ := HObg.out
      have s0_ := HLT1.out
      have s1_ := HLT2.out
      have s2_ := HLW.out
      have s3_ := HLbw.out
      have s4_ := HLX1.out
      have s5_ := HLbx.out
      have s6_ := HLX2.out
      have s7_ := HLG.out
      omega
    have hnb_arg_bg : loarg ≠ lobg := by have h0_ := HHarg.out; have h1_ := HHbg.out; omega
    clear ha_
    have ha_ : hiarg ≤ lobh := by
      have h0_ := HOT1.out
      have h1_ := HOT2.out
      have h2_ := HOW.out
      have h3_ := HObw.out
      have h4_ := HOX1.out
      have h5_ := HObx.out
      have h6_ := HOX2.out
      have h7_ := HOG.out
      have h8_ := HObg.out
      have h9_ := HOY1.out
      have h10_ := HOY2.out
      have h11_ := HOU1.out
      have h12_ := HOU2.out
      have h13_ := HOH.out
      have h14_ := HObh.out
      have s0_ := HLT1.out
      have s1_ := HLT2.out
      have s2_ := HLW.out
      have s3_ := HLbw.out
      have s4_ := HLX1.out
      have s5_ := HLbx.out
      have s6_ := HLX2.out
      have s7_ := HLG.out
      have s8_ := HLbg.out
      have s9_ := HLY1.out
      have s10_ := HLY2.out
      have s11_ := HLU1.out
      have s12_ := HLU2.out
      have s13_ := HLH.out
      omega
    have hnb_arg_bh : loarg ≠ lobh := by have h0_ := HHarg.out; have h1_ := HHbh.out; omega
    clear ha_
    have ha_ : hiarg ≤ lobw := by
      have h0_ := HOT1.out
      have h1_ := HOT2.out
      have h2_ := HOW.out
      have h3_ := HObw.out
      have s0_ := HLT1.out
      have s1_ := HLT2.out
      have s2_ := HLW.out
      omega
    have hnb_bw_arg : lobw ≠ loarg := by have h0_ := HHbw.out; have h1_ := HHarg.out; omega
    clear ha_
    have ha_ : hibw ≤ lobx := by
      have h0_ := HOX1.out
      have h1_ := HObx.out
      have s0_ := HLX1.out
      omega
    have hnb_bw_bx : lobw ≠ lobx := by have h0_ := HHbw.out; have h1_ := HHbx.out; omega
    clear ha_
    have ha_ : hibw ≤ lobg := by
      have h0_ := HOX1.out
      have h1_ := HObx.out
      have h2_ := HOX2.out
      have h3_ := HOG.out
      have h4_ := HObg.out
      have s0_ := HLX1.out
      have s1_ := HLbx.out
      have s2_ := HLX2.out
      have s3_ := HLG.out
      omega
    have hnb_bw_bg : lobw ≠ lobg := by have h0_ := HHbw.out; have h1_ := HHbg.out; omega
    clear ha_
    have ha_ : hibw ≤ lobh := by
      have h0_ := HOX1.out
      have h1_ := HObx.out
      have h2_ := HOX2.out
      have h3_ := HOG.out
      have h4_ := HObg.out
      have h5_ := HOY1.out
      have h6_ := HOY2.out
      have h7_ := HOU1.out
      have h8_ := HOU2.out
      have h9_ := HOH.out
      have h10_ := HObh.out
      have s0_ := HLX1.out
      have s1_ := HLbx.out
      have s2_ := HLX2.out
      have s3_ := HLG.out
      have s4_ := HLbg.out
      have s5_ := HLY1.out
      have s6_ := HLY2.out
      have s7_ := HLU1.out
      have s8_ := HLU2.out
      have s9_ := HLH.out
      omega
    have hnb_bw_bh : lobw ≠ lobh := by have h0_ := HHbw.out; have h1_ := HHbh.out; omega
    clear ha_
    have ha_ : hiarg ≤ lobx := by
      have h0_ := HOT1.out
      have h1_ := HOT2.out
      have h2_ := HOW.out
      have h3_ := HObw.out
      have h4_ := HOX1.out
      have h5_ := HObx.out
      have s0_ := HLT1.out
      have s1_ := HLT2.out
      have s2_ := HLW.out
      have s3_ := HLbw.out
      have s4_ := HLX1.out
      omega
    have hnb_bx_arg : lobx ≠ loarg := by have h0_ := HHbx.out; have h1_ := HHarg.out; omega
    clear ha_
    have ha_ : hibw ≤ lobx := by
      have h0_ := HOX1.out
      have h1_ := HObx.out
      have s0_ := HLX1.out
      omega
    have hnb_bx_bw : lobx ≠ lobw := by have h0_ := HHbx.out; have h1_ := HHbw.out; omega
    clear ha_
    have ha_ : hibx ≤ lobg := by
      have h0_ := HOX2.out
      have h1_ := HOG.out
      have h2_ := HObg.out
      have s0_ := HLX2.out
      have s1_ := HLG.out
      omega
    have hnb_bx_bg : lobx ≠ lobg := by have h0_ := HHbx.out; have h1_ := HHbg.out; omega
    clear ha_
    have ha_ : hibx ≤ lobh := by
      have h0_ := HOX2.out
      have h1_ := HOG.out
      have h2_ := HObg.out
      have h3_ := HOY1.out
      have h4_ := HOY2.out
      have h5_ := HOU1.out
      have h6_ := HOU2.out
      have h7_ := HOH.out
      have h8_ := HObh.out
      have s0_ := HLX2.out
      have s1_ := HLG.out
      have s2_ := HLbg.out
      have s3_ := HLY1.out
      have s4_ := HLY2.out
      have s5_ := HLU1.out
      have s6_ := HLU2.out
      have s7_ := HLH.out
      omega
    have hnb_bx_bh : lobx ≠ lobh := by have h0_ := HHbx.out; have h1_ := HHbh.out; omega
    clear ha_
    have ha_ : hiarg ≤ lobg := by
      have h0_ := HOT1.out
      have h1_ := HOT2.out
      have h2_ := HOW.out
      have h3_ := HObw.out
      have h4_ := HOX1.out
      have h5_ := HObx.out
      have h6_ := HOX2.out
      have h7_ := HOG.out
      have h8_ := HObg.out
      have s0_ := HLT1.out
      have s1_ := HLT2.out
      have s2_ := HLW.out
      have s3_ := HLbw.out
      have s4_ := HLX1.out
      have s5_ := HLbx.out
      have s6_ := HLX2.out
      have s7_ := HLG.out
      omega
    have hnb_bg_arg : lobg ≠ loarg := by have h0_ := HHbg.out; have h1_ := HHarg.out; omega
    clear ha_
    have ha_ : hibw ≤ lobg := by
      have h0_ := HOX1.out
      have h1_ := HObx.out
      have h2_ := HOX2.out
      have h3_ := HOG.out
      have h4_ := HObg.out
      have s0_ := HLX1.out
      have s1_ := HLbx.out
      have s2_ := HLX2.out
      have s3_ := HLG.out
      omega
    have hnb_bg_bw : lobg ≠ lobw := by have h0_ := HHbg.out; have h1_ := HHbw.out; omega
    clear ha_
    have ha_ : hibx ≤ lobg := by
      have h0_ := HOX2.out
      have h1_ := HOG.out
      have h2_ := HObg.out
      have s0_ := HLX2.out
      have s1_ := HLG.out
      omega
    have hnb_bg_bx : lobg ≠ lobx := by have h0_ := HHbg.out; have h1_ := HHbx.out; omega
    clear ha_
    have ha_ : hibg ≤ lobh := by
      have h0_ := HOY1.out
      have h1_ := HOY2.out
      have h2_ := HOU1.out
      have h3_ := HOU2.out
      have h4_ := HOH.out
      have h5_ := HObh.out
      have s0_ := HLY1.out
      have s1_ := HLY2.out
      have s2_ := HLU1.out
      have s3_ := HLU2.out
      have s4_ := HLH.out
      omega
    have hnb_bg_bh : lobg ≠ lobh := by have h0_ := HHbg.out; have h1_ := HHbh.out; omega
    clear ha_
    have ha_ : hiarg ≤ lobh := by
      have h0_ := HOT1.out
      have h1_ := HOT2.out
      have h2_ := HOW.out
      have h3_ := HObw.out
      have h4_ := HOX1.out
      have h5_ := HObx.out
      have h6_ := HOX2.out
      have h7_ := HOG.out
      have h8_ := HObg.out
      have h9_ := HOY1.out
      have h10_ := HOY2.out
      have h11_ := HOU1.out
      have h12_ := HOU2.out
      have h13_ := HOH.out
      have h14_ := HObh.out
      have s0_ := HLT1.out
      have s1_ := HLT2.out
      have s2_ := HLW.out
      have s3_ := HLbw.out
      have s4_ := HLX1.out
      have s5_ := HLbx.out
      have s6_ := HLX2.out
      have s7_ := HLG.out
      have s8_ := HLbg.out
      have s9_ := HLY1.out
      have s10_ := HLY2.out
      have s11_ := HLU1.out
      have s12_ := HLU2.out
      have s13_ := HLH.out
      omega
    have hnb_bh_arg : lobh ≠ loarg := by have h0_ := HHbh.out; have h1_ := HHarg.out; omega
    clear ha_
    have ha_ : hibw ≤ lobh := by
      have h0_ := HOX1.out
      have h1_ := HObx.out
      have h2_ := HOX2.out
      have h3_ := HOG.out
      have h4_ := HObg.out
      have h5_ := HOY1.out
      have h6_ := HOY2.out
      have h7_ := HOU1.out
      have h8_ := HOU2.out
      have h9_ := HOH.out
      have h10_ := HObh.out
      have s0_ := HLX1.out
      have s1_ := HLbx.out
      have s2_ := HLX2.out
      have s3_ := HLG.out
      have s4_ := HLbg.out
      have s5_ := HLY1.out
      have s6_ := HLY2.out
      have s7_ := HLU1.out
      have s8_ := HLU2.out
      have s9_ := HLH.out
      omega
    have hnb_bh_bw : lobh ≠ lobw := by have h0_ := HHbh.out; have h1_ := HHbw.out; omega
    clear ha_
    have ha_ : hibx ≤ lobh := by
      have h0_ := HOX2.out
      have h1_ := HOG.out
      have h2_ := HObg.out
      have h3_ := HOY1.out
      have h4_ := HOY2.out
      have h5_ := HOU1.out
      have h6_ := HOU2.out
      have h7_ := HOH.out
      have h8_ := HObh.out
      have s0_ := HLX2.out
      have s1_ := HLG.out
      have s2_ := HLbg.out
      have s3_ := HLY1.out
      have s4_ := HLY2.out
      have s5_ := HLU1.out
      have s6_ := HLU2.out
      have s7_ := HLH.out
      omega
    have hnb_bh_bx : lobh ≠ lobx := by have h0_ := HHbh.out; have h1_ := HHbx.out; omega
    clear ha_
    have ha_ : hibg ≤ lobh := by
      have h0_ := HOY1.out
      have h1_ := HOY2.out
      have h2_ := HOU1.out
      have h3_ := HOU2.out
      have h4_ := HOH.out
      have h5_ := HObh.out
      have s0_ := HLY1.out
      have s1_ := HLY2.out
      have s2_ := HLU1.out
      have s3_ := HLU2.out
      have s4_ := HLH.out
      omega
    have hnb_bh_bg : lobh ≠ lobg := by have h0_ := HHbh.out; have h1_ := HHbg.out; omega
    clear ha_))
  refine G.genC (F := fun w1 => Kept w29_ w1 (G.Span lobh hibh) ∧ Below w.heap.size w w1 ∧ w1.heap[lobh]? = some (.cells #[.int .i64 rb, .slice AH1 R1.length cH1, .slice AH2 R2.length cH2] 51 (0, 0))) ⟨?k0, ?k1, ?k2⟩ ?_
  case k0 => exact (by have hh_ := HHbh.out; repeat (first | exact Kept.refl _ _ | refine Kept.setCell ?_ (.inl ⟨Nat.le_refl _, by show lobh < hibh; omega⟩) _ | refine Kept.drewN ?_ _ | refine Kept.drew ?_))
  case k1 => exact (by repeat (first | (with_reducible first | exact HB.out | apply below_drew1 | apply pw_below_drewN | refine below_set ?_ HGbh.out) | exact HB.out))
  case k2 => exact (by (with_reducible repeat (first | refine blk_drewN ?_ _ | refine blk_drew ?_)); refine blk_put (cs := #[.int .i64 rb, .slice AH1 R1.length cH1, .slice none 0 0]) ?_ 2 _ rfl; (with_reducible repeat (first | refine blk_drewN ?_ _ | refine blk_drew ?_)); refine blk_put (cs := #[.int .i64 rb, .slice none 0 0, .slice none 0 0]) ?_ 1 _ rfl; (with_reducible repeat (first | refine blk_drewN ?_ _ | refine blk_drew ?_)); refine blk_put (cs := #[.int .i64 0, .slice none 0 0, .slice none 0 0]) ?_ 0 _ rfl; (with_reducible repeat (first | refine blk_drewN ?_ _ | refine blk_drew ?_)); exact HBbh.out)
  rintro w30_ ⟨hkp, hb1_, hbk_⟩
  clear HBbh
  have ha_arg : hiarg ≤ lobh := by
    have h0_ := HOT1.out
    have h1_ := HOT2.out
    have h2_ := HOW.out
    have h3_ := HObw.out
    have h4_ := HOX1.out
    have h5_ := HObx.out
    have h6_ := HOX2.out
    have h7_ := HOG.out
    have h8_ := HObg.out
    have h9_ := HOY1.out
    have h10_ := HOY2.out
    have h11_ := HOU1.out
    have h12_ := HOU2.out
    have h13_ := HOH.out
    have h14_ := HObh.out
    have s0_ := HLT1.out
    have s1_ := HLT2.out
    have s2_ := HLW.out
    have s3_ := HLbw.out
    have s4_ := HLX1.out
    have s5_ := HLbx.out
    have s6_ := HLX2.out
    have s7_ := HLG.out
    have s8_ := HLbg.out
    have s9_ := HLY1.out
    have s10_ := HLY2.out
    have s11_ := HLU1.out
    have s12_ := HLU2.out
    have s13_ := HLH.out
    omega
  have ha_W : hiW ≤ lobh := by
    have h0_ := HObw.out
    have h1_ := HOX1.out
    have h2_ := HObx.out
    have h3_ := HOX2.out
    have h4_ := HOG.out
    have h5_ := HObg.out
    have h6_ := HOY1.out
    have h7_ := HOY2.out
    have h8_ := HOU1.out
    have h9_ := HOU2.out
    have h10_ := HOH.out
    have h11_ := HObh.out
    have s0_ := HLbw.out
    have s1_ := HLX1.out
    have s2_ := HLbx.out
    have s3_ := HLX2.out
    have s4_ := HLG.out
    have s5_ := HLbg.out
    have s6_ := HLY1.out
    have s7_ := HLY2.out
    have s8_ := HLU1.out
    have s9_ := HLU2.out
    have s10_ := HLH.out
    omega
  have ha_bw : hibw ≤ lobh := by
    have h0_ := HOX1.out
    have h1_ := HObx.out
    have h2_ := HOX2.out
    have h3_ := HOG.out
    have h4_ := HObg.out
    have h5_ := HOY1.out
    have h6_ := HOY2.out
    have h7_ := HOU1.out
    have h8_ := HOU2.out
    have h9_ := HOH.out
    have h10_ := HObh.out
    have s0_ := HLX1.out
    have s1_ := HLbx.out
    have s2_ := HLX2.out
    have s3_ := HLG.out
    have s4_ := HLbg.out
    have s5_ := HLY1.out
    have s6_ := HLY2.out
    have s7_ := HLU1.out
    have s8_ := HLU2.out
    have s9_ := HLH.out
    omega
  have ha_bx : hibx ≤ lobh := by
    have h0_ := HOX2.out
    have h1_ := HOG.out
    have h2_ := HObg.out
    have h3_ := HOY1.out
    have h4_ := HOY2.out
    have h5_ := HOU1.out
    have h6_ := HOU2.out
    have h7_ := HOH.out
    have h8_ := HObh.out
    have s0_ := HLX2.out
    have s1_ := HLG.out
    have s2_ := HLbg.out
    have s3_ := HLY1.out
    have s4_ := HLY2.out
    have s5_ := HLU1.out
    have s6_ := HLU2.out
    have s7_ := HLH.out
    omega
  have ha_bg : hibg ≤ lobh := by
    have h0_ := HOY1.out
    have h1_ := HOY2.out
    have h2_ := HOU1.out
    have h3_ := HOU2.out
    have h4_ := HOH.out
    have h5_ := HObh.out
    have s0_ := HLY1.out
    have s1_ := HLY2.out
    have s2_ := HLU1.out
    have s3_ := HLU2.out
    have s4_ := HLH.out
    omega
  have ha_G : hiG ≤ lobh := by
    have h0_ := HObg.out
    have h1_ := HOY1.out
    have h2_ := HOY2.out
    have h3_ := HOU1.out
    have h4_ := HOU2.out
    have h5_ := HOH.out
    have h6_ := HObh.out
    have s0_ := HLbg.out
    have s1_ := HLY1.out
    have s2_ := HLY2.out
    have s3_ := HLU1.out
    have s4_ := HLU2.out
    have s5_ := HLH.out
    omega
  have ha_H : hiH ≤ lobh := by
    have h0_ := HObh.out
    omega
  have n0_ := Aside0.mk (blk_kept HBarg.out hkp (by have h0_ := HHarg.out; have h1_ := ha_arg; unfold G.Span; omega))
  have n1_ := Aside0.mk (G.S_marked2 HW1.out hkp (.inl ha_W))
  have n2_ := Aside0.mk (G.R_marked HW2.out hkp (.inl ha_W))
  have n3_ := Aside0.mk (blk_kept HBbw.out hkp (by have h0_ := HHbw.out; have h1_ := ha_bw; unfold G.Span; omega))
  have n4_ := Aside0.mk (blk_kept HBbx.out hkp (by have h0_ := HHbx.out; have h1_ := ha_bx; unfold G.Span; omega))
  have n5_ := Aside0.mk (blk_kept HBbg.out hkp (by have h0_ := HHbg.out; have h1_ := ha_bg; unfold G.Span; omega))
  have n6_ := Aside0.mk (G.S_marked2 HG1.out hkp (.inl ha_G))
  have n7_ := Aside0.mk (G.R_marked HG2.out hkp (.inl ha_G))
  have n8_ := Aside0.mk (G.S_marked2 HH1.out hkp (.inl ha_H))
  have n9_ := Aside0.mk (G.R_marked HH2.out hkp (.inl ha_H))
  clear HBarg; have HBarg := n0_; clear n0_
  clear HW1; have HW1 := n1_; clear n1_
  clear HW2; have HW2 := n2_; clear n2_
  clear HBbw; have HBbw := n3_; clear n3_
  clear HBbx; have HBbx := n4_; clear n4_
  clear HBbg; have HBbg := n5_; clear n5_
  clear HG1; have HG1 := n6_; clear n6_
  clear HG2; have HG2 := n7_; clear n7_
  clear HH1; have HH1 := n8_; clear n8_
  clear HH2; have HH2 := n9_; clear n9_
  have np_ := Aside0.mk (Nat.le_trans HP.out hkp.1); have nb_ := Aside0.mk hb1_; clear HP HB hb1_; have HP := np_; have HB := nb_; clear np_ nb_ ha_arg ha_W ha_bw ha_bx ha_bg ha_G ha_H
  have HBbh := Aside0.mk hbk_; clear hbk_ hkp
  clear hcz_arg_0
  clear hfz_arg_0
  clear hcz_bw_0
  clear hfz_bw_0
  clear hcz_bw_1
  clear hfz_bw_1
  clear hcz_bw_2
  clear hfz_bw_2
  clear hcz_bx_0
  clear hfz_bx_0
  clear hcz_bg_0
  clear hfz_bg_0
  clear hcz_bg_1
  clear hfz_bg_1
  clear hcz_bg_2
  clear hfz_bg_2
  clear hcz_bh_0
  clear hfz_bh_0
  clear hcz_bh_1
  clear hfz_bh_1
  clear hcz_bh_2
  clear hfz_bh_2
  clear hnb_arg_bw
  clear hnb_arg_bx
  clear hnb_arg_bg
  clear hnb_arg_bh
  clear hnb_bw_arg
  clear hnb_bw_bx
  clear hnb_bw_bg
  clear hnb_bw_bh
  clear hnb_bx_arg
  clear hnb_bx_bw
  clear hnb_bx_bg
  clear hnb_bx_bh
  clear hnb_bg_arg
  clear hnb_bg_bw
  clear hnb_bg_bx
  clear hnb_bg_bh
  clear hnb_bh_arg
  clear hnb_bh_bw
  clear hnb_bh_bx
  clear hnb_bh_bg
  have hcz_arg_0 : w30_.cell? ⟨loarg, 0, none⟩ = some (.slice A1 l1.length c1) := (blk_cell HBarg.out 0).trans rfl; have hfz_arg_0 := blk_frozen HBarg.out 0
  have hcz_bw_0 : w30_.cell? ⟨lobw, 0, none⟩ = some (.int .i64 rb) := (blk_cell HBbw.out 0).trans rfl; have hfz_bw_0 := blk_frozen HBbw.out 0
  have hcz_bw_1 : w30_.cell? ⟨lobw, 1, none⟩ = some (.slice AW1 R1.length cW1) := (blk_cell HBbw.out 1).trans rfl; have hfz_bw_1 := blk_frozen HBbw.out 1
  have hcz_bw_2 : w30_.cell? ⟨lobw, 2, none⟩ = some (.slice AW2 R2.length cW2) := (blk_cell HBbw.out 2).trans rfl; have hfz_bw_2 := blk_frozen HBbw.out 2
  have hcz_bx_0 : w30_.cell? ⟨lobx, 0, none⟩ = some (.slice AX1 l1.length cX1) := (blk_cell HBbx.out 0).trans rfl; have hfz_bx_0 := blk_frozen HBbx.out 0
  have hcz_bg_0 : w30_.cell? ⟨lobg, 0, none⟩ = some (.int .i64 rb) := (blk_cell HBbg.out 0).trans rfl; have hfz_bg_0 := blk_frozen HBbg.out 0
  have hcz_bg_1 : w30_.cell? ⟨lobg, 1, none⟩ = some (.slice AG1 R1.length cG1) := (blk_cell HBbg.out 1).trans rfl; have hfz_bg_1 := blk_frozen HBbg.out 1
  have hcz_bg_2 : w30_.cell? ⟨lobg, 2, none⟩ = some (.slice AG2 R2.length cG2) := (blk_cell HBbg.out 2).trans rfl; have hfz_bg_2 := blk_frozen HBbg.out 2
  have hcz_bh_0 : w30_.cell? ⟨lobh, 0, none⟩ = some (.int .i64 rb) := (blk_cell HBbh.out 0).trans rfl; have hfz_bh_0 := blk_frozen HBbh.out 0
  have hcz_bh_1 : w30_.cell? ⟨lobh, 1, none⟩ = some (.slice AH1 R1.length cH1) := (blk_cell HBbh.out 1).trans rfl; have hfz_bh_1 := blk_frozen HBbh.out 1
  have hcz_bh_2 : w30_.cell? ⟨lobh, 2, none⟩ = some (.slice AH2 R2.length cH2) := (blk_cell HBbh.out 2).trans rfl; have hfz_bh_2 := blk_frozen HBbh.out 2
  have ha_ : hiarg ≤ lobw := by
    have h0_ := HOT1.out
    have h1_ := HOT2.out
    have h2_ := HOW.out
    have h3_ := HObw.out
    have s0_ := HLT1.out
    have s1_ := HLT2.out
    have s2_ := HLW.out
    omega
  have hnb_arg_bw : loarg ≠ lobw := by have h0_ := HHarg.out; have h1_ := HHbw.out; omega
  clear ha_
  have ha_ : hiarg ≤ lobx := by
    have h0_ := HOT1.out
    have h1_ := HOT2.out
    have h2_ := HOW.out
    have h3_ := HObw.out
    have h4_ := HOX1.out
    have h5_ := HObx.out
    have s0_ := HLT1.out
    have s1_ := HLT2.out
    have s2_ := HLW.out
    have s3_ := HLbw.out
    have s4_ := HLX1.out
    omega
  have hnb_arg_bx : loarg ≠ lobx := by have h0_ := HHarg.out; have h1_ := HHbx.out; omega
  clear ha_
  have ha_ : hiarg ≤ lobg := by
    have h0_ := HOT1.out
    have h1_ := HOT2.out
    have h2_ := HOW.out
    have h3_ := HObw.out
    have h4_ := HOX1.out
    have h5_ := HObx.out
    have h6_ := HOX2.out
    have h7_ := HOG.out
    have h8_ := HObg.out
    have s0_ := HLT1.out
    have s1_ := HLT2.out
    have s2_ := HLW.out
    have s3_ := HLbw.out
    have s4_ := HLX1.out
    have s5_ := HLbx.out
    have s6_ := HLX2.out
    have s7_ := HLG.out
    omega
  have hnb_arg_bg : loarg ≠ lobg := by have h0_ := HHarg.out; have h1_ := HHbg.out; omega
  clear ha_
  have ha_ : hiarg ≤ lobh := by
    have h0_ := HOT1.out
    have h1_ := HOT2.out
    have h2_ := HOW.out
    have h3_ := HObw.out
    have h4_ := HOX1.out
    have h5_ := HObx.out
    have h6_ := HOX2.out
    have h7_ := HOG.out
    have h8_ := HObg.out
    have h9_ := HOY1.out
    have h10_ := HOY2.out
    have h11_ := HOU1.out
    have h12_ := HOU2.out
    have h13_ := HOH.out
    have h14_ := HObh.out
    have s0_ := HLT1.out
    have s1_ := HLT2.out
    have s2_ := HLW.out
    have s3_ := HLbw.out
    have s4_ := HLX1.out
    have s5_ := HLbx.out
    have s6_ := HLX2.out
    have s7_ := HLG.out
    have s8_ := HLbg.out
    have s9_ := HLY1.out
    have s10_ := HLY2.out
    have s11_ := HLU1.out
    have s12_ := HLU2.out
    have s13_ := HLH.out
    omega
  have hnb_arg_bh : loarg ≠ lobh := by have h0_ := HHarg.out; have h1_ := HHbh.out; omega
  clear ha_
  have ha_ : hiarg ≤ lobw := by
    have h0_ := HOT1.out
    have h1_ := HOT2.out
    have h2_ := HOW.out
    have h3_ := HObw.out
    have s0_ := HLT1.out
    have s1_ := HLT2.out
    have s2_ := HLW.out
    omega
  have hnb_bw_arg : lobw ≠ loarg := by have h0_ := HHbw.out; have h1_ := HHarg.out; omega
  clear ha_
  have ha_ : hibw ≤ lobx := by
    have h0_ := HOX1.out
    have h1_ := HObx.out
    have s0_ := HLX1.out
    omega
  have hnb_bw_bx : lobw ≠ lobx := by have h0_ := HHbw.out; have h1_ := HHbx.out; omega
  clear ha_
  have ha_ : hibw ≤ lobg := by
    have h0_ := HOX1.out
    have h1_ := HObx.out
    have h2_ := HOX2.out
    have h3_ := HOG.out
    have h4_ := HObg.out
    have s0_ := HLX1.out
    have s1_ := HLbx.out
    have s2_ := HLX2.out
    have s3_ := HLG.out
    omega
  have hnb_bw_bg : lobw ≠ lobg := by have h0_ := HHbw.out; have h1_ := HHbg.out; omega
  clear ha_
  have ha_ : hibw ≤ lobh := by
    have h0_ := HOX1.out
    have h1_ := HObx.out
    have h2_ := HOX2.out
    have h3_ := HOG.out
    have h4_ := HObg.out
    have h5_ := HOY1.out
    have h6_ := HOY2.out
    have h7_ := HOU1.out
    have h8_ := HOU2.out
    have h9_ := HOH.out
    have h10_ := HObh.out
    have s0_ := HLX1.out
    have s1_ := HLbx.out
    have s2_ := HLX2.out
    have s3_ := HLG.out
    have s4_ := HLbg.out
    have s5_ := HLY1.out
    have s6_ := HLY2.out
    have s7_ := HLU1.out
    have s8_ := HLU2.out
    have s9_ := HLH.out
    omega
  have hnb_bw_bh : lobw ≠ lobh := by have h0_ := HHbw.out; have h1_ := HHbh.out; omega
  clear ha_
  have ha_ : hiarg ≤ lobx := by
    have h0_ := HOT1.out
    have h1_ := HOT2.out
    have h2_ := HOW.out
    have h3_ := HObw.out
    have h4_ := HOX1.out
    have h5_ := HObx.out
    have s0_ := HLT1.out
    have s1_ := HLT2.out
    have s2_ := HLW.out
    have s3_ := HLbw.out
    have s4_ := HLX1.out
    omega
  have hnb_bx_arg : lobx ≠ loarg := by have h0_ := HHbx.out; have h1_ := HHarg.out; omega
  clear ha_
  have ha_ : hibw ≤ lobx := by
    have h0_ := HOX1.out
    have h1_ := HObx.out
    have s0_ := HLX1.out
    omega
  have hnb_bx_bw : lobx ≠ lobw := by have h0_ := HHbx.out; have h1_ := HHbw.out; omega
  clear ha_
  have ha_ : hibx ≤ lobg := by
    have h0_ := HOX2.out
    have h1_ := HOG.out
    have h2_ := HObg.out
    have s0_ := HLX2.out
    have s1_ := HLG.out
    omega
  have hnb_bx_bg : lobx ≠ lobg := by have h0_ := HHbx.out; have h1_ := HHbg.out; omega
  clear ha_
  have ha_ : hibx ≤ lobh := by
    have h0_ := HOX2.out
    have h1_ := HOG.out
    have h2_ := HObg.out
    have h3_ := HOY1.out
    have h4_ := HOY2.out
    have h5_ := HOU1.out
    have h6_ := HOU2.out
    have h7_ := HOH.out
    have h8_ := HObh.out
    have s0_ := HLX2.out
    have s1_ := HLG.out
    have s2_ := HLbg.out
    have s3_ := HLY1.out
    have s4_ := HLY2.out
    have s5_ := HLU1.out
    have s6_ := HLU2.out
    have s7_ := HLH.out
    omega
  have hnb_bx_bh : lobx ≠ lobh := by have h0_ := HHbx.out; have h1_ := HHbh.out; omega
  clear ha_
  have ha_ : hiarg ≤ lobg := by
    have h0_ := HOT1.out
    have h1_ := HOT2.out
    have h2_ := HOW.out
    have h3_ := HObw.out
    have h4_ := HOX1.out
    have h5_ := HObx.out
    have h6_ := HOX2.out
    have h7_ := HOG.out
    have h8_ := HObg.out
    have s0_ := HLT1.out
    have s1_ := HLT2.out
    have s2_ := HLW.out
    have s3_ := HLbw.out
    have s4_ := HLX1.out
    have s5_ := HLbx.out
    have s6_ := HLX2.out
    have s7_ := HLG.out
    omega
  have hnb_bg_arg : lobg ≠ loarg := by have h0_ := HHbg.out; have h1_ := HHarg.out; omega
  clear ha_
  have ha_ : hibw ≤ lobg := by
    have h0_ := HOX1.out
    have h1_ := HObx.out
    have h2_ := HOX2.out
    have h3_ := HOG.out
    have h4_ := HObg.out
    have s0_ := HLX1.out
    have s1_ := HLbx.out
    have s2_ := HLX2.out
    have s3_ := HLG.out
    omega
  have hnb_bg_bw : lobg ≠ lobw := by have h0_ := HHbg.out; have h1_ := HHbw.out; omega
  clear ha_
  have ha_ : hibx ≤ lobg := by
    have h0_ := HOX2.out
    have h1_ := HOG.out
    have h2_ := HObg.out
    have s0_ := HLX2.out
    have s1_ := HLG.out
    omega
  have hnb_bg_bx : lobg ≠ lobx := by have h0_ := HHbg.out; have h1_ := HHbx.out; omega
  clear ha_
  have ha_ : hibg ≤ lobh := by
    have h0_ := HOY1.out
    have h1_ := HOY2.out
    have h2_ := HOU1.out
    have h3_ := HOU2.out
    have h4_ := HOH.out
    have h5_ := HObh.out
    have s0_ := HLY1.out
    have s1_ := HLY2.out
    have s2_ := HLU1.out
    have s3_ := HLU2.out
    have s4_ := HLH.out
    omega
  have hnb_bg_bh : lobg ≠ lobh := by have h0_ := HHbg.out; have h1_ := HHbh.out; omega
  clear ha_
  have ha_ : hiarg ≤ lobh := by
    have h0_ := HOT1.out
    have h1_ := HOT2.out
    have h2_ := HOW.out
    have h3_ := HObw.out
    have h4_ := HOX1.out
    have h5_ := HObx.out
    have h6_ := HOX2.out
    have h7_ := HOG.out
    have h8_ := HObg.out
    have h9_ := HOY1.out
    have h10_ := HOY2.out
    have h11_ := HOU1.out
    have h12_ := HOU2.out
    have h13_ := HOH.out
    have h14_ := HObh.out
    have s0_ := HLT1.out
    have s1_ := HLT2.out
    have s2_ := HLW.out
    have s3_ := HLbw.out
    have s4_ := HLX1.out
    have s5_ := HLbx.out
    have s6_ := HLX2.out
    have s7_ := HLG.out
    have s8_ := HLbg.out
    have s9_ := HLY1.out
    have s10_ := HLY2.out
    have s11_ := HLU1.out
    have s12_ := HLU2.out
    have s13_ := HLH.out
    omega
  have hnb_bh_arg : lobh ≠ loarg := by have h0_ := HHbh.out; have h1_ := HHarg.out; omega
  clear ha_
  have ha_ : hibw ≤ lobh := by
    have h0_ := HOX1.out
    have h1_ := HObx.out
    have h2_ := HOX2.out
    have h3_ := HOG.out
    have h4_ := HObg.out
    have h5_ := HOY1.out
    have h6_ := HOY2.out
    have h7_ := HOU1.out
    have h8_ := HOU2.out
    have h9_ := HOH.out
    have h10_ := HObh.out
    have s0_ := HLX1.out
    have s1_ := HLbx.out
    have s2_ := HLX2.out
    have s3_ := HLG.out
    have s4_ := HLbg.out
    have s5_ := HLY1.out
    have s6_ := HLY2.out
    have s7_ := HLU1.out
    have s8_ := HLU2.out
    have s9_ := HLH.out
    omega
  have hnb_bh_bw : lobh ≠ lobw := by have h0_ := HHbh.out; have h1_ := HHbw.out; omega
  clear ha_
  have ha_ : hibx ≤ lobh := by
    have h0_ := HOX2.out
    have h1_ := HOG.out
    have h2_ := HObg.out
    have h3_ := HOY1.out
    have h4_ := HOY2.out
    have h5_ := HOU1.out
    have h6_ := HOU2.out
    have h7_ := HOH.out
    have h8_ := HObh.out
    have s0_ := HLX2.out
    have s1_ := HLG.out
    have s2_ := HLbg.out
    have s3_ := HLY1.out
    have s4_ := HLY2.out
    have s5_ := HLU1.out
    have s6_ := HLU2.out
    have s7_ := HLH.out
    omega
  have hnb_bh_bx : lobh ≠ lobx := by have h0_ := HHbh.out; have h1_ := HHbx.out; omega
  clear ha_
  have ha_ : hibg ≤ lobh := by
    have h0_ := HOY1.out
    have h1_ := HOY2.out
    have h2_ := HOU1.out
    have h3_ := HOU2.out
    have h4_ := HOH.out
    have h5_ := HObh.out
    have s0_ := HLY1.out
    have s1_ := HLY2.out
    have s2_ := HLU1.out
    have s3_ := HLU2.out
    have s4_ := HLH.out
    omega
  have hnb_bh_bg : lobh ≠ lobg := by have h0_ := HHbh.out; have h1_ := HHbg.out; omega
  clear ha_
  refine (laws_eqSequence.calls k rb _ _ R1 _ _ R2 rb _ _ R1 _ _ R2 true _ (Kd.S_reads' HH1.out).2.2 (Kd.S_reads' HH1.out).2.1 (Kd.R_reads' HH2.out).2.2 (Kd.R_reads' HH2.out).2.1 (Kd.S_reads' HW1.out).2.2 (Kd.S_reads' HW1.out).2.1 (Kd.R_reads' HW2.out).2.2 (Kd.R_reads' HW2.out).2.1 FE.out).mono ?_
  rintro e w31_ ⟨rfl, hb⟩
  have n0_ := Aside0.mk (blk_below HBarg.out hb)
  have n1_ := Aside0.mk (Kd.S_below HW1.out hb)
  have n2_ := Aside0.mk (Kd.R_below HW2.out hb)
  have n3_ := Aside0.mk (blk_below HBbw.out hb)
  have n4_ := Aside0.mk (blk_below HBbx.out hb)
  have n5_ := Aside0.mk (blk_below HBbg.out hb)
  have n6_ := Aside0.mk (Kd.S_below HG1.out hb)
  have n7_ := Aside0.mk (Kd.R_below HG2.out hb)
  have n8_ := Aside0.mk (Kd.S_below HH1.out hb)
  have n9_ := Aside0.mk (Kd.R_below HH2.out hb)
  have n10_ := Aside0.mk (blk_below HBbh.out hb)
  clear HBarg; have HBarg := n0_; clear n0_
  clear HW1; have HW1 := n1_; clear n1_
  clear HW2; have HW2 := n2_; clear n2_
  clear HBbw; have HBbw := n3_; clear n3_
  clear HBbx; have HBbx := n4_; clear n4_
  clear HBbg; have HBbg := n5_; clear n5_
  clear HG1; have HG1 := n6_; clear n6_
  clear HG2; have HG2 := n7_; clear n7_
  clear HH1; have HH1 := n8_; clear n8_
  clear HH2; have HH2 := n9_; clear n9_
  clear HBbh; have HBbh := n10_; clear n10_
  have nb_ := Aside0.mk (below_step HB.out hb); have np_ := Aside0.mk (Nat.le_trans HP.out hb.size); clear HB HP; have HB := nb_; have HP := np_; clear nb_ np_
  clear hb
  clear hcz_arg_0
  clear hfz_arg_0
  clear hcz_bw_0
  clear hfz_bw_0
  clear hcz_bw_1
  clear hfz_bw_1
  clear hcz_bw_2
  clear hfz_bw_2
  clear hcz_bx_0
  clear hfz_bx_0
  clear hcz_bg_0
  clear hfz_bg_0
  clear hcz_bg_1
  clear hfz_bg_1
  clear hcz_bg_2
  clear hfz_bg_2
  clear hcz_bh_0
  clear hfz_bh_0
  clear hcz_bh_1
  clear hfz_bh_1
  clear hcz_bh_2
  clear hfz_bh_2
  clear hnb_arg_bw
  clear hnb_arg_bx
  clear hnb_arg_bg
  clear hnb_arg_bh
  clear hnb_bw_arg
  clear hnb_bw_bx
  clear hnb_bw_bg
  clear hnb_bw_bh
  clear hnb_bx_arg
  clear hnb_bx_bw
  clear hnb_bx_bg
  clear hnb_bx_bh
  clear hnb_bg_arg
  clear hnb_bg_bw
  clear hnb_bg_bx
  clear hnb_bg_bh
  clear hnb_bh_arg
  clear hnb_bh_bw
  clear hnb_bh_bx
  clear hnb_bh_bg
  have hcz_arg_0 : w31_.cell? ⟨loarg, 0, none⟩ = some (.slice A1 l1.length c1) := (blk_cell HBarg.out 0).trans rfl; have hfz_arg_0 := blk_frozen HBarg.out 0
  have hcz_bw_0 : w31_.cell? ⟨lobw, 0, none⟩ = some (.int .i64 rb) := (blk_cell HBbw.out 0).trans rfl; have hfz_bw_0 := blk_frozen HBbw.out 0
  have hcz_bw_1 : w31_.cell? ⟨lobw, 1, none⟩ = some (.slice AW1 R1.length cW1) := (blk_cell HBbw.out 1).trans rfl; have hfz_bw_1 := blk_frozen HBbw.out 1
  have hcz_bw_2 : w31_.cell? ⟨lobw, 2, none⟩ = some (.slice AW2 R2.length cW2) := (blk_cell HBbw.out 2).trans rfl; have hfz_bw_2 := blk_frozen HBbw.out 2
  have hcz_bx_0 : w31_.cell? ⟨lobx, 0, none⟩ = some (.slice AX1 l1.length cX1) := (blk_cell HBbx.out 0).trans rfl; have hfz_bx_0 := blk_frozen HBbx.out 0
  have hcz_bg_0 : w31_.cell? ⟨lobg, 0, none⟩ = some (.int .i64 rb) := (blk_cell HBbg.out 0).trans rfl; have hfz_bg_0 := blk_frozen HBbg.out 0
  have hcz_bg_1 : w31_.cell? ⟨lobg, 1, none⟩ = some (.slice AG1 R1.length cG1) := (blk_cell HBbg.out 1).trans rfl; have hfz_bg_1 := blk_frozen HBbg.out 1
  have hcz_bg_2 : w31_.cell? ⟨lobg, 2, none⟩ = some (.slice AG2 R2.length cG2) := (blk_cell HBbg.out 2).trans rfl; have hfz_bg_2 := blk_frozen HBbg.out 2
  have hcz_bh_0 : w31_.cell? ⟨lobh, 0, none⟩ = some (.int .i64 rb) := (blk_cell HBbh.out 0).trans rfl; have hfz_bh_0 := blk_frozen HBbh.out 0
  have hcz_bh_1 : w31_.cell? ⟨lobh, 1, none⟩ = some (.slice AH1 R1.length cH1) := (blk_cell HBbh.out 1).trans rfl; have hfz_bh_1 := blk_frozen HBbh.out 1
  have hcz_bh_2 : w31_.cell? ⟨lobh, 2, none⟩ = some (.slice AH2 R2.length cH2) := (blk_cell HBbh.out 2).trans rfl; have hfz_bh_2 := blk_frozen HBbh.out 2
  have ha_ : hiarg ≤ lobw := by
    have h0_ := HOT1.out
    have h1_ := HOT2.out
    have h2_ := HOW.out
    have h3_ := HObw.out
    have s0_ := HLT1.out
    have s1_ := HLT2.out
    have s2_ := HLW.out
    omega
  have hnb_arg_bw : loarg ≠ lobw := by have h0_ := HHarg.out; have h1_ := HHbw.out; omega
  clear ha_
  have ha_ : hiarg ≤ lobx := by
    have h0_ := HOT1.out
    have h1_ := HOT2.out
    have h2_ := HOW.out
    have h3_ := HObw.out
    have h4_ := HOX1.out
    have h5_ := HObx.out
    have s0_ := HLT1.out
    have s1_ := HLT2.out
    have s2_ := HLW.out
    have s3_ := HLbw.out
    have s4_ := HLX1.out
    omega
  have hnb_arg_bx : loarg ≠ lobx := by have h0_ := HHarg.out; have h1_ := HHbx.out; omega
  clear ha_
  have ha_ : hiarg ≤ lobg := by
    have h0_ := HOT1.out
    have h1_ := HOT2.out
    have h2_ := HOW.out
    have h3_ := HObw.out
    have h4_ := HOX1.out
    have h5_ := HObx.out
    have h6_ := HOX2.out
    have h7_ := HOG.out
    have h8_ := HObg.out
    have s0_ := HLT1.out
    have s1_ := HLT2.out
    have s2_ := HLW.out
    have s3_ := HLbw.out
    have s4_ := HLX1.out
    have s5_ := HLbx.out
    have s6_ := HLX2.out
    have s7_ := HLG.out
    omega
  have hnb_arg_bg : loarg ≠ lobg := by have h0_ := HHarg.out; have h1_ := HHbg.out; omega
  clear ha_
  have ha_ : hiarg ≤ lobh := by
    have h0_ := HOT1.out
    have h1_ := HOT2.out
    have h2_ := HOW.out
    have h3_ := HObw.out
    have h4_ := HOX1.out
    have h5_ := HObx.out
    have h6_ := HOX2.out
    have h7_ := HOG.out
    have h8_ := HObg.out
    have h9_ := HOY1.out
    have h10_ := HOY2.out
    have h11_ := HOU1.out
    have h12_ := HOU2.out
    have h13_ := HOH.out
    have h14_ := HObh.out
    have s0_ := HLT1.out
    have s1_ := HLT2.out
    have s2_ := HLW.out
    have s3_ := HLbw.out
    have s4_ := HLX1.out
    have s5_ := HLbx.out
    have s6_ := HLX2.out
    have s7_ := HLG.out
    have s8_ := HLbg.out
    have s9_ := HLY1.out
    have s10_ := HLY2.out
    have s11_ := HLU1.out
    have s12_ := HLU2.out
    have s13_ := HLH.out
    omega
  have hnb_arg_bh : loarg ≠ lobh := by have h0_ := HHarg.out; have h1_ := HHbh.out; omega
  clear ha_
  have ha_ : hiarg ≤ lobw := by
    have h0_ := HOT1.out
    have h1_ := HOT2.out
    have h2_ := HOW.out
    have h3_ := HObw.out
    have s0_ := HLT1.out
    have s1_ := HLT2.out
    have s2_ := HLW.out
    omega
  have hnb_bw_arg : lobw ≠ loarg := by have h0_ := HHbw.out; have h1_ := HHarg.out; omega
  clear ha_
  have ha_ : hibw ≤ lobx := by
    have h0_ := HOX1.out
    have h1_ := HObx.out
    have s0_ := HLX1.out
    omega
  have hnb_bw_bx : lobw ≠ lobx := by have h0_ := HHbw.out; have h1_ := HHbx.out; omega
  clear ha_
  have ha_ : hibw ≤ lobg := by
    have h0_ := HOX1.out
    have h1_ := HObx.out
    have h2_ := HOX2.out
    have h3_ := HOG.out
    have h4_ := HObg.out
    have s0_ := HLX1.out
    have s1_ := HLbx.out
    have s2_ := HLX2.out
    have s3_ := HLG.out
    omega
  have hnb_bw_bg : lobw ≠ lobg := by have h0_ := HHbw.out; have h1_ := HHbg.out; omega
  clear ha_
  have ha_ : hibw ≤ lobh := by
    have h0_ := HOX1.out
    have h1_ := HObx.out
    have h2_ := HOX2.out
    have h3_ := HOG.out
    have h4_ := HObg.out
    have h5_ := HOY1.out
    have h6_ := HOY2.out
    have h7_ := HOU1.out
    have h8_ := HOU2.out
    have h9_ := HOH.out
    have h10_ := HObh.out
    have s0_ := HLX1.out
    have s1_ := HLbx.out
    have s2_ := HLX2.out
    have s3_ := HLG.out
    have s4_ := HLbg.out
    have s5_ := HLY1.out
    have s6_ := HLY2.out
    have s7_ := HLU1.out
    have s8_ := HLU2.out
    have s9_ := HLH.out
    omega
  have hnb_bw_bh : lobw ≠ lobh := by have h0_ := HHbw.out; have h1_ := HHbh.out; omega
  clear ha_
  have ha_ : hiarg ≤ lobx := by
    have h0_ := HOT1.out
    have h1_ := HOT2.out
    have h2_ := HOW.out
    have h3_ := HObw.out
    have h4_ := HOX1.out
    have h5_ := HObx.out
    have s0_ := HLT1.out
    have s1_ := HLT2.out
    have s2_ := HLW.out
    have s3_ := HLbw.out
    have s4_ := HLX1.out
    omega
  have hnb_bx_arg : lobx ≠ loarg := by have h0_ := HHbx.out; have h1_ := HHarg.out; omega
  clear ha_
  have ha_ : hibw ≤ lobx := by
    have h0_ := HOX1.out
    have h1_ := HObx.out
    have s0_ := HLX1.out
    omega
  have hnb_bx_bw : lobx ≠ lobw := by have h0_ := HHbx.out; have h1_ := HHbw.out; omega
  clear ha_
  have ha_ : hibx ≤ lobg := by
    have h0_ := HOX2.out
    have h1_ := HOG.out
    have h2_ := HObg.out
    have s0_ := HLX2.out
    have s1_ := HLG.out
    omega
  have hnb_bx_bg : lobx ≠ lobg := by have h0_ := HHbx.out; have h1_ := HHbg.out; omega
  clear ha_
  have ha_ : hibx ≤ lobh := by
    have h0_ := HOX2.out
    have h1_ := HOG.out
    have h2_ := HObg.out
    have h3_ := HOY1.out
    have h4_ := HOY2.out
    have h5_ := HOU1.out
    have h6_ := HOU2.out
    have h7_ := HOH.out
    have h8_ := HObh.out
    have s0_ := HLX2.out
    have s1_ := HLG.out
    have s2_ := HLbg.out
    have s3_ := HLY1.out
    have s4_ := HLY2.out
    have s5_ := HLU1.out
    have s6_ := HLU2.out
    have s7_ := HLH.out
    omega
  have hnb_bx_bh : lobx ≠ lobh := by have h0_ := HHbx.out; have h1_ := HHbh.out; omega
  clear ha_
  have ha_ : hiarg ≤ lobg := by
    have h0_ := HOT1.out
    have h1_ := HOT2.out
    have h2_ := HOW.out
    have h3_ := HObw.out
    have h4_ := HOX1.out
    have h5_ := HObx.out
    have h6_ := HOX2.out
    have h7_ := HOG.out
    have h8_ := HObg.out
    have s0_ := HLT1.out
    have s1_ := HLT2.out
    have s2_ := HLW.out
    have s3_ := HLbw.out
    have s4_ := HLX1.out
    have s5_ := HLbx.out
    have s6_ := HLX2.out
    have s7_ := HLG.out
    omega
  have hnb_bg_arg : lobg ≠ loarg := by have h0_ := HHbg.out; have h1_ := HHarg.out; omega
  clear ha_
  have ha_ : hibw ≤ lobg := by
    have h0_ := HOX1.out
    have h1_ := HObx.out
    have h2_ := HOX2.out
    have h3_ := HOG.out
    have h4_ := HObg.out
    have s0_ := HLX1.out
    have s1_ := HLbx.out
    have s2_ := HLX2.out
    have s3_ := HLG.out
    omega
  have hnb_bg_bw : lobg ≠ lobw := by have h0_ := HHbg.out; have h1_ := HHbw.out; omega
  clear ha_
  have ha_ : hibx ≤ lobg := by
    have h0_ := HOX2.out
    have h1_ := HOG.out
    have h2_ := HObg.out
    have s0_ := HLX2.out
    have s1_ := HLG.out
    omega
  have hnb_bg_bx : lobg ≠ lobx := by have h0_ := HHbg.out; have h1_ := HHbx.out; omega
  clear ha_
  have ha_ : hibg ≤ lobh := by
    have h0_ := HOY1.out
    have h1_ := HOY2.out
    have h2_ := HOU1.out
    have h3_ := HOU2.out
    have h4_ := HOH.out
    have h5_ := HObh.out
    have s0_ := HLY1.out
    have s1_ := HLY2.out
    have s2_ := HLU1.out
    have s3_ := HLU2.out
    have s4_ := HLH.out
    omega
  have hnb_bg_bh : lobg ≠ lobh := by have h0_ := HHbg.out; have h1_ := HHbh.out; omega
  clear ha_
  have ha_ : hiarg ≤ lobh := by
    have h0_ := HOT1.out
    have h1_ := HOT2.out
    have h2_ := HOW.out
    have h3_ := HObw.out
    have h4_ := HOX1.out
    have h5_ := HObx.out
    have h6_ := HOX2.out
    have h7_ := HOG.out
    have h8_ := HObg.out
    have h9_ := HOY1.out
    have h10_ := HOY2.out
    have h11_ := HOU1.out
    have h12_ := HOU2.out
    have h13_ := HOH.out
    have h14_ := HObh.out
    have s0_ := HLT1.out
    have s1_ := HLT2.out
    have s2_ := HLW.out
    have s3_ := HLbw.out
    have s4_ := HLX1.out
    have s5_ := HLbx.out
    have s6_ := HLX2.out
    have s7_ := HLG.out
    have s8_ := HLbg.out
    have s9_ := HLY1.out
    have s10_ := HLY2.out
    have s11_ := HLU1.out
    have s12_ := HLU2.out
    have s13_ := HLH.out
    omega
  have hnb_bh_arg : lobh ≠ loarg := by have h0_ := HHbh.out; have h1_ := HHarg.out; omega
  clear ha_
  have ha_ : hibw ≤ lobh := by
    have h0_ := HOX1.out
    have h1_ := HObx.out
    have h2_ := HOX2.out
    have h3_ := HOG.out
    have h4_ := HObg.out
    have h5_ := HOY1.out
    have h6_ := HOY2.out
    have h7_ := HOU1.out
    have h8_ := HOU2.out
    have h9_ := HOH.out
    have h10_ := HObh.out
    have s0_ := HLX1.out
    have s1_ := HLbx.out
    have s2_ := HLX2.out
    have s3_ := HLG.out
    have s4_ := HLbg.out
    have s5_ := HLY1.out
    have s6_ := HLY2.out
    have s7_ := HLU1.out
    have s8_ := HLU2.out
    have s9_ := HLH.out
    omega
  have hnb_bh_bw : lobh ≠ lobw := by have h0_ := HHbh.out; have h1_ := HHbw.out; omega
  clear ha_
  have ha_ : hibx ≤ lobh := by
    have h0_ := HOX2.out
    have h1_ := HOG.out
    have h2_ := HObg.out
    have h3_ := HOY1.out
    have h4_ := HOY2.out
    have h5_ := HOU1.out
    have h6_ := HOU2.out
    have h7_ := HOH.out
    have h8_ := HObh.out
    have s0_ := HLX2.out
    have s1_ := HLG.out
    have s2_ := HLbg.out
    have s3_ := HLY1.out
    have s4_ := HLY2.out
    have s5_ := HLU1.out
    have s6_ := HLU2.out
    have s7_ := HLH.out
    omega
  have hnb_bh_bx : lobh ≠ lobx := by have h0_ := HHbh.out; have h1_ := HHbx.out; omega
  clear ha_
  have ha_ : hibg ≤ lobh := by
    have h0_ := HOY1.out
    have h1_ := HOY2.out
    have h2_ := HOU1.out
    have h3_ := HOU2.out
    have h4_ := HOH.out
    have h5_ := HObh.out
    have s0_ := HLY1.out
    have s1_ := HLY2.out
    have s2_ := HLU1.out
    have s3_ := HLU2.out
    have s4_ := HLH.out
    omega
  have hnb_bh_bg : lobh ≠ lobg := by have h0_ := HHbh.out; have h1_ := HHbg.out; omega
  clear ha_
  go_wp2_with fail
  refine (G_held k rb _ _ R1.length R1' _ _ R2.length R2' 1 mg _ (Kd.S_reads' HG1.out).2.2 (Kd.S_reads' HG1.out).1 (Kd.S_reads' HG1.out).2.1 (Kd.R_reads' HG2.out).2.2 (Kd.R_reads' HG2.out).1 (Kd.R_reads' HG2.out).2.1 FH.out).mono ?_
  rintro e w32_ ⟨rfl, hb⟩
  have n0_ := Aside0.mk (blk_below HBarg.out hb)
  have n1_ := Aside0.mk (Kd.S_below HW1.out hb)
  have n2_ := Aside0.mk (Kd.R_below HW2.out hb)
  have n3_ := Aside0.mk (blk_below HBbw.out hb)
  have n4_ := Aside0.mk (blk_below HBbx.out hb)
  have n5_ := Aside0.mk (blk_below HBbg.out hb)
  have n6_ := Aside0.mk (Kd.S_below HG1.out hb)
  have n7_ := Aside0.mk (Kd.R_below HG2.out hb)
  have n8_ := Aside0.mk (Kd.S_below HH1.out hb)
  have n9_ := Aside0.mk (Kd.R_below HH2.out hb)
  have n10_ := Aside0.mk (blk_below HBbh.out hb)
  clear HBarg; have HBarg := n0_; clear n0_
  clear HW1; have HW1 := n1_; clear n1_
  clear HW2; have HW2 := n2_; clear n2_
  clear HBbw; have HBbw := n3_; clear n3_
  clear HBbx; have HBbx := n4_; clear n4_
  clear HBbg; have HBbg := n5_; clear n5_
  clear HG1; have HG1 := n6_; clear n6_
  clear HG2; have HG2 := n7_; clear n7_
  clear HH1; have HH1 := n8_; clear n8_
  clear HH2; have HH2 := n9_; clear n9_
  clear HBbh; have HBbh := n10_; clear n10_
  have nb_ := Aside0.mk (below_step HB.out hb); have np_ := Aside0.mk (Nat.le_trans HP.out hb.size); clear HB HP; have HB := nb_; have HP := np_; clear nb_ np_
  clear hb
  clear hcz_arg_0
  clear hfz_arg_0
  clear hcz_bw_0
  clear hfz_bw_0
  clear hcz_bw_1
  clear hfz_bw_1
  clear hcz_bw_2
  clear hfz_bw_2
  clear hcz_bx_0
  clear hfz_bx_0
  clear hcz_bg_0
  clear hfz_bg_0
  clear hcz_bg_1
  clear hfz_bg_1
  clear hcz_bg_2
  clear hfz_bg_2
  clear hcz_bh_0
  clear hfz_bh_0
  clear hcz_bh_1
  clear hfz_bh_1
  clear hcz_bh_2
  clear hfz_bh_2
  clear hnb_arg_bw
  clear hnb_arg_bx
  clear hnb_arg_bg
  clear hnb_arg_bh
  clear hnb_bw_arg
  clear hnb_bw_bx
  clear hnb_bw_bg
  clear hnb_bw_bh
  clear hnb_bx_arg
  clear hnb_bx_bw
  clear hnb_bx_bg
  clear hnb_bx_bh
  clear hnb_bg_arg
  clear hnb_bg_bw
  clear hnb_bg_bx
  clear hnb_bg_bh
  clear hnb_bh_arg
  clear hnb_bh_bw
  clear hnb_bh_bx
  clear hnb_bh_bg
  have hcz_arg_0 : w32_.cell? ⟨loarg, 0, none⟩ = some (.slice A1 l1.length c1) := (blk_cell HBarg.out 0).trans rfl; have hfz_arg_0 := blk_frozen HBarg.out 0
  have hcz_bw_0 : w32_.cell? ⟨lobw, 0, none⟩ = some (.int .i64 rb) := (blk_cell HBbw.out 0).trans rfl; have hfz_bw_0 := blk_frozen HBbw.out 0
  have hcz_bw_1 : w32_.cell? ⟨lobw, 1, none⟩ = some (.slice AW1 R1.length cW1) := (blk_cell HBbw.out 1).trans rfl; have hfz_bw_1 := blk_frozen HBbw.out 1
  have hcz_bw_2 : w32_.cell? ⟨lobw, 2, none⟩ = some (.slice AW2 R2.length cW2) := (blk_cell HBbw.out 2).trans rfl; have hfz_bw_2 := blk_frozen HBbw.out 2
  have hcz_bx_0 : w32_.cell? ⟨lobx, 0, none⟩ = some (.slice AX1 l1.length cX1) := (blk_cell HBbx.out 0).trans rfl; have hfz_bx_0 := blk_frozen HBbx.out 0
  have hcz_bg_0 : w32_.cell? ⟨lobg, 0, none⟩ = some (.int .i64 rb) := (blk_cell HBbg.out 0).trans rfl; have hfz_bg_0 := blk_frozen HBbg.out 0
  have hcz_bg_1 : w32_.cell? ⟨lobg, 1, none⟩ = some (.slice AG1 R1.length cG1) := (blk_cell HBbg.out 1).trans rfl; have hfz_bg_1 := blk_frozen HBbg.out 1
  have hcz_bg_2 : w32_.cell? ⟨lobg, 2, none⟩ = some (.slice AG2 R2.length cG2) := (blk_cell HBbg.out 2).trans rfl; have hfz_bg_2 := blk_frozen HBbg.out 2
  have hcz_bh_0 : w32_.cell? ⟨lobh, 0, none⟩ = some (.int .i64 rb) := (blk_cell HBbh.out 0).trans rfl; have hfz_bh_0 := blk_frozen HBbh.out 0
  have hcz_bh_1 : w32_.cell? ⟨lobh, 1, none⟩ = some (.slice AH1 R1.length cH1) := (blk_cell HBbh.out 1).trans rfl; have hfz_bh_1 := blk_frozen HBbh.out 1
  have hcz_bh_2 : w32_.cell? ⟨lobh, 2, none⟩ = some (.slice AH2 R2.length cH2) := (blk_cell HBbh.out 2).trans rfl; have hfz_bh_2 := blk_frozen HBbh.out 2
  have ha_ : hiarg ≤ lobw := by
    have h0_ := HOT1.out
    have h1_ := HOT2.out
    have h2_ := HOW.out
    have h3_ := HObw.out
    have s0_ := HLT1.out
    have s1_ := HLT2.out
    have s2_ := HLW.out
    omega
  have hnb_arg_bw : loarg ≠ lobw := by have h0_ := HHarg.out; have h1_ := HHbw.out; omega
  clear ha_
  have ha_ : hiarg ≤ lobx := by
    have h0_ := HOT1.out
    have h1_ := HOT2.out
    have h2_ := HOW.out
    have h3_ := HObw.out
    have h4_ := HOX1.out
    have h5_ := HObx.out
    have s0_ := HLT1.out
    have s1_ := HLT2.out
    have s2_ := HLW.out
    have s3_ := HLbw.out
    have s4_ := HLX1.out
    omega
  have hnb_arg_bx : loarg ≠ lobx := by have h0_ := HHarg.out; have h1_ := HHbx.out; omega
  clear ha_
  have ha_ : hiarg ≤ lobg := by
    have h0_ := HOT1.out
    have h1_ := HOT2.out
    have h2_ := HOW.out
    have h3_ := HObw.out
    have h4_ := HOX1.out
    have h5_ := HObx.out
    have h6_ := HOX2.out
    have h7_ := HOG.out
    have h8_ := HObg.out
    have s0_ := HLT1.out
    have s1_ := HLT2.out
    have s2_ := HLW.out
    have s3_ := HLbw.out
    have s4_ := HLX1.out
    have s5_ := HLbx.out
    have s6_ := HLX2.out
    have s7_ := HLG.out
    omega
  have hnb_arg_bg : loarg ≠ lobg := by have h0_ := HHarg.out; have h1_ := HHbg.out; omega
  clear ha_
  have ha_ : hiarg ≤ lobh := by
    have h0_ := HOT1.out
    have h1_ := HOT2.out
    have h2_ := HOW.out
    have h3_ := HObw.out
    have h4_ := HOX1.out
    have h5_ := HObx.out
    have h6_ := HOX2.out
    have h7_ := HOG.out
    have h8_ := HObg.out
    have h9_ := HOY1.out
    have h10_ := HOY2.out
    have h11_ := HOU1.out
    have h12_ := HOU2.out
    have h13_ := HOH.out
    have h14_ := HObh.out
    have s0_ := HLT1.out
    have s1_ := HLT2.out
    have s2_ := HLW.out
    have s3_ := HLbw.out
    have s4_ := HLX1.out
    have s5_ := HLbx.out
    have s6_ := HLX2.out
    have s7_ := HLG.out
    have s8_ := HLbg.out
    have s9_ := HLY1.out
    have s10_ := HLY2.out
    have s11_ := HLU1.out
    have s12_ := HLU2.out
    have s13_ := HLH.out
    omega
  have hnb_arg_bh : loarg ≠ lobh := by have h0_ := HHarg.out; have h1_ := HHbh.out; omega
  clear ha_
  have ha_ : hiarg ≤ lobw := by
    have h0_ := HOT1.out
    have h1_ := HOT2.out
    have h2_ := HOW.out
    have h3_ := HObw.out
    have s0_ := HLT1.out
    have s1_ := HLT2.out
    have s2_ := HLW.out
    omega
  have hnb_bw_arg : lobw ≠ loarg := by have h0_ := HHbw.out; have h1_ := HHarg.out; omega
  clear ha_
  have ha_ : hibw ≤ lobx := by
    have h0_ := HOX1.out
    have h1_ := HObx.out
    have s0_ := HLX1.out
    omega
  have hnb_bw_bx : lobw ≠ lobx := by have h0_ := HHbw.out; have h1_ := HHbx.out; omega
  clear ha_
  have ha_ : hibw ≤ lobg := by
    have h0_ := HOX1.out
    have h1_ := HObx.out
    have h2_ := HOX2.out
    have h3_ := HOG.out
    have h4_ := HObg.out
    have s0_ := HLX1.out
    have s1_ := HLbx.out
    have s2_ := HLX2.out
    have s3_ := HLG.out
    omega
  have hnb_bw_bg : lobw ≠ lobg := by have h0_ := HHbw.out; have h1_ := HHbg.out; omega
  clear ha_
  have ha_ : hibw ≤ lobh := by
    have h0_ := HOX1.out
    have h1_ := HObx.out
    have h2_ := HOX2.out
    have h3_ := HOG.out
    have h4_ := HObg.out
    have h5_ := HOY1.out
    have h6_ := HOY2.out
    have h7_ := HOU1.out
    have h8_ := HOU2.out
    have h9_ := HOH.out
    have h10_ := HObh.out
    have s0_ := HLX1.out
    have s1_ := HLbx.out
    have s2_ := HLX2.out
    have s3_ := HLG.out
    have s4_ := HLbg.out
    have s5_ := HLY1.out
    have s6_ := HLY2.out
    have s7_ := HLU1.out
    have s8_ := HLU2.out
    have s9_ := HLH.out
    omega
  have hnb_bw_bh : lobw ≠ lobh := by have h0_ := HHbw.out; have h1_ := HHbh.out; omega
  clear ha_
  have ha_ : hiarg ≤ lobx := by
    have h0_ := HOT1.out
    have h1_ := HOT2.out
    have h2_ := HOW.out
    have h3_ := HObw.out
    have h4_ := HOX1.out
    have h5_ := HObx.out
    have s0_ := HLT1.out
    have s1_ := HLT2.out
    have s2_ := HLW.out
    have s3_ := HLbw.out
    have s4_ := HLX1.out
    omega
  have hnb_bx_arg : lobx ≠ loarg := by have h0_ := HHbx.out; have h1_ := HHarg.out; omega
  clear ha_
  have ha_ : hibw ≤ lobx := by
    have h0_ := HOX1.out
    have h1_ := HObx.out
    have s0_ := HLX1.out
    omega
  have hnb_bx_bw : lobx ≠ lobw := by have h0_ := HHbx.out; have h1_ := HHbw.out; omega
  clear ha_
  have ha_ : hibx ≤ lobg := by
    have h0_ := HOX2.out
    have h1_ := HOG.out
    have h2_ := HObg.out
    have s0_ := HLX2.out
    have s1_ := HLG.out
    omega
  have hnb_bx_bg : lobx ≠ lobg := by have h0_ := HHbx.out; have h1_ := HHbg.out; omega
  clear ha_
  have ha_ : hibx ≤ lobh := by
    have h0_ := HOX2.out
    have h1_ := HOG.out
    have h2_ := HObg.out
    have h3_ := HOY1.out
    have h4_ := HOY2.out
    have h5_ := HOU1.out
    have h6_ := HOU2.out
    have h7_ := HOH.out
    have h8_ := HObh.out
    have s0_ := HLX2.out
    have s1_ := HLG.out
    have s2_ := HLbg.out
    have s3_ := HLY1.out
    have s4_ := HLY2.out
    have s5_ := HLU1.out
    have s6_ := HLU2.out
    have s7_ := HLH.out
    omega
  have hnb_bx_bh : lobx ≠ lobh := by have h0_ := HHbx.out; have h1_ := HHbh.out; omega
  clear ha_
  have ha_ : hiarg ≤ lobg := by
    have h0_ := HOT1.out
    have h1_ := HOT2.out
    have h2_ := HOW.out
    have h3_ := HObw.out
    have h4_ := HOX1.out
    have h5_ := HObx.out
    have h6_ := HOX2.out
    have h7_ := HOG.out
    have h8_ := HObg.out
    have s0_ := HLT1.out
    have s1_ := HLT2.out
    have s2_ := HLW.out
    have s3_ := HLbw.out
    have s4_ := HLX1.out
    have s5_ := HLbx.out
    have s6_ := HLX2.out
    have s7_ := HLG.out
    omega
  have hnb_bg_arg : lobg ≠ loarg := by have h0_ := HHbg.out; have h1_ := HHarg.out; omega
  clear ha_
  have ha_ : hibw ≤ lobg := by
    have h0_ := HOX1.out
    have h1_ := HObx.out
    have h2_ := HOX2.out
    have h3_ := HOG.out
    have h4_ := HObg.out
    have s0_ := HLX1.out
    have s1_ := HLbx.out
    have s2_ := HLX2.out
    have s3_ := HLG.out
    omega
  have hnb_bg_bw : lobg ≠ lobw := by have h0_ := HHbg.out; have h1_ := HHbw.out; omega
  clear ha_
  have ha_ : hibx ≤ lobg := by
    have h0_ := HOX2.out
    have h1_ := HOG.out
    have h2_ := HObg.out
    have s0_ := HLX2.out
    have s1_ := HLG.out
    omega
  have hnb_bg_bx : lobg ≠ lobx := by have h0_ := HHbg.out; have h1_ := HHbx.out; omega
  clear ha_
  have ha_ : hibg ≤ lobh := by
    have h0_ := HOY1.out
    have h1_ := HOY2.out
    have h2_ := HOU1.out
    have h3_ := HOU2.out
    have h4_ := HOH.out
    have h5_ := HObh.out
    have s0_ := HLY1.out
    have s1_ := HLY2.out
    have s2_ := HLU1.out
    have s3_ := HLU2.out
    have s4_ := HLH.out
    omega
  have hnb_bg_bh : lobg ≠ lobh := by have h0_ := HHbg.out; have h1_ := HHbh.out; omega
  clear ha_
  have ha_ : hiarg ≤ lobh := by
    have h0_ := HOT1.out
    have h1_ := HOT2.out
    have h2_ := HOW.out
    have h3_ := HObw.out
    have h4_ := HOX1.out
    have h5_ := HObx.out
    have h6_ := HOX2.out
    have h7_ := HOG.out
    have h8_ := HObg.out
    have h9_ := HOY1.out
    have h10_ := HOY2.out
    have h11_ := HOU1.out
    have h12_ := HOU2.out
    have h13_ := HOH.out
    have h14_ := HObh.out
    have s0_ := HLT1.out
    have s1_ := HLT2.out
    have s2_ := HLW.out
    have s3_ := HLbw.out
    have s4_ := HLX1.out
    have s5_ := HLbx.out
    have s6_ := HLX2.out
    have s7_ := HLG.out
    have s8_ := HLbg.out
    have s9_ := HLY1.out
    have s10_ := HLY2.out
    have s11_ := HLU1.out
    have s12_ := HLU2.out
    have s13_ := HLH.out
    omega
  have hnb_bh_arg : lobh ≠ loarg := by have h0_ := HHbh.out; have h1_ := HHarg.out; omega
  clear ha_
  have ha_ : hibw ≤ lobh := by
    have h0_ := HOX1.out
    have h1_ := HObx.out
    have h2_ := HOX2.out
    have h3_ := HOG.out
    have h4_ := HObg.out
    have h5_ := HOY1.out
    have h6_ := HOY2.out
    have h7_ := HOU1.out
    have h8_ := HOU2.out
    have h9_ := HOH.out
    have h10_ := HObh.out
    have s0_ := HLX1.out
    have s1_ := HLbx.out
    have s2_ := HLX2.out
    have s3_ := HLG.out
    have s4_ := HLbg.out
    have s5_ := HLY1.out
    have s6_ := HLY2.out
    have s7_ := HLU1.out
    have s8_ := HLU2.out
    have s9_ := HLH.out
    omega
  have hnb_bh_bw : lobh ≠ lobw := by have h0_ := HHbh.out; have h1_ := HHbw.out; omega
  clear ha_
  have ha_ : hibx ≤ lobh := by
    have h0_ := HOX2.out
    have h1_ := HOG.out
    have h2_ := HObg.out
    have h3_ := HOY1.out
    have h4_ := HOY2.out
    have h5_ := HOU1.out
    have h6_ := HOU2.out
    have h7_ := HOH.out
    have h8_ := HObh.out
    have s0_ := HLX2.out
    have s1_ := HLG.out
    have s2_ := HLbg.out
    have s3_ := HLY1.out
    have s4_ := HLY2.out
    have s5_ := HLU1.out
    have s6_ := HLU2.out
    have s7_ := HLH.out
    omega
  have hnb_bh_bx : lobh ≠ lobx := by have h0_ := HHbh.out; have h1_ := HHbx.out; omega
  clear ha_
  have ha_ : hibg ≤ lobh := by
    have h0_ := HOY1.out
    have h1_ := HOY2.out
    have h2_ := HOU1.out
    have h3_ := HOU2.out
    have h4_ := HOH.out
    have h5_ := HObh.out
    have s0_ := HLY1.out
    have s1_ := HLY2.out
    have s2_ := HLU1.out
    have s3_ := HLU2.out
    have s4_ := HLH.out
    omega
  have hnb_bh_bg : lobh ≠ lobg := by have h0_ := HHbh.out; have h1_ := HHbg.out; omega
  clear ha_
  go_wp2
  go_ret
  exact ⟨rfl, HB.out⟩

end Go.Proofs.Ytolikggioekalaa.PFnExactSequenceOf
