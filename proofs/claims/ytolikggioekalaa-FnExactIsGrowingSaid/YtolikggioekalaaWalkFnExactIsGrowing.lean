/- The law FnExactIsGrowing, walked call by call: where its pure parts answer as told, it answers true. No condition beyond those written. -/
import Derived.Test.YtolikggioekalaaMFnExactIsGrowingx0
import Derived.Test.YtolikggioekalaaMFnExactIsGrowingx1
import Derived.Test.YtolikggioekalaaMFnExactIsGrowingx2
import Derived.Test.YtolikggioekalaaMFnExactIsGrowingx3
import Derived.Test.YtolikggioekalaaMFnExactIsGrowingx4
import Derived.Test.YtolikggioekalaaMFnExactIsGrowingx5
import Derived.Test.YtolikggioekalaaGLaw
import Derived.Test.YtolikggioekalaaGLaw2
namespace Go.Proofs.Ytolikggioekalaa.PFnExactIsGrowing
open Go.RowKit Go.Proofs.YtolikggioekalaaW.PrintWords Go.Proofs.YtolikggioekalaaW.PrintLast Go.Proofs.YtolikggioekalaaW.PrintMore
set_option linter.unusedVariables false
set_option linter.unusedSimpArgs false

set_option maxHeartbeats 16000000 in
set_option maxRecDepth 100000 in
theorem laws_IsGrowing.neg (k : Nat) (A1 : Option Addr) (c1 : Nat) (l1 : List (List Int)) (a : Int) (t : Int) (w : World) (hr1 : Kd.C (Kd.slice 3 (Kd.int .i64)) w A1 l1.length l1) (hc1 : l1.length ≤ c1) (hZ : laws_szMorphism.f k l1 1048576 = some t) (ht : t < 0) :
    Calls Try.prog 3 #[.agg #[.slice A1 l1.length c1], .int .i64 a] w fun e w' => e = .returned (.bool true) ∧ Below w.heap.size w w' := by
  have FZ := Aside0.mk hZ
  have hq0 : decide (t < 0) = true := by simp; omega
  clear hZ ht
  have HA1 := Aside0.mk hr1; have HC1 := Aside0.mk hc1
  have HB := Aside0.mk (Below.refl w.heap.size w); have HP := Aside0.mk (Nat.le_refl w.heap.size)
  clear hr1 hc1
  have hu0 := Try.underlying24; have hu1 := Try.underlying27
  go_enter Try.func3, Try.ntmps3
  go_wp2_with (first | (
    (with_reducible refine gate_dst (N := 2) rfl ?_); refine box_event ?hg (N := 2) ?hd (cs := #[.slice A1 l1.length c1]) (t := 24) ?hr ?_; (case hd => rfl); (case hg => rfl); (case hr => first | (go_simp; done) | (go_simp; rfl))
    intro loarg hg w1_ hbox hb
    obtain ⟨hiarg, hh_⟩ : ∃ h, h = loarg + 1 := ⟨_, rfl⟩
    have hp_ : w.heap.size ≤ loarg := by rw [hg]; exact HP.out
    have hl_ : loarg ≤ hiarg := by omega
    have hs_ : hiarg ≤ w1_.heap.size := by rw [hh_]; exact blk_lt hbox
    have HGarg := Aside0.mk (show w.heap.size ≤ loarg from by rw [hg]; exact HB.out.size)
    have nb_ := Aside0.mk (below_step HB.out hb); have np_ := Aside0.mk (Nat.le_trans HP.out hb.size); clear HB HP; have HB := nb_; have HP := np_; clear nb_ np_
    have HHarg := Aside0.mk hh_
    have HOarg := Aside0.mk hp_; have HLarg := Aside0.mk hl_; clear HP; have HP := Aside0.mk hs_; clear hp_ hl_ hs_
    have HBarg := Aside0.mk hbox; clear hbox hb hg hh_
    have hcz_arg_0 : w1_.cell? ⟨loarg, 0, none⟩ = some (.slice A1 l1.length c1) := (blk_cell HBarg.out 0).trans rfl; have hfz_arg_0 := blk_frozen HBarg.out 0))
  refine (laws_szMorphism.calls k _ _ l1 1048576 t _ (Kd.C_below HA1.out HB.out) HC1.out FZ.out).mono ?_
  rintro e w2_ ⟨rfl, hb⟩
  have n0_ := Aside0.mk (blk_below HBarg.out hb)
  clear HBarg; have HBarg := n0_; clear n0_
  have nb_ := Aside0.mk (below_step HB.out hb); have np_ := Aside0.mk (Nat.le_trans HP.out hb.size); clear HB HP; have HB := nb_; have HP := np_; clear nb_ np_
  clear hb
  clear hcz_arg_0
  clear hfz_arg_0
  have hcz_arg_0 : w2_.cell? ⟨loarg, 0, none⟩ = some (.slice A1 l1.length c1) := (blk_cell HBarg.out 0).trans rfl; have hfz_arg_0 := blk_frozen HBarg.out 0
  go_wp2
  go_ret
  exact ⟨rfl, HB.out⟩

set_option maxHeartbeats 16000000 in
set_option maxRecDepth 100000 in
theorem laws_IsGrowing.calls (k : Nat) (A1 : Option Addr) (c1 : Nat) (l1 : List (List Int)) (a : Int) (r : Bool) (t : Int) (w : World) (hr1 : Kd.C (Kd.slice 3 (Kd.int .i64)) w A1 l1.length l1) (hc1 : l1.length ≤ c1) (ht : 0 ≤ t) (hFZ : laws_szMorphism.f k l1 1048576 = some t) (hFT : laws_toMorphism.f k l1 = some l1) (hFS : spec_IsGrowing.f k l1 a = some r) (hFI : impl_IsGrowing.f k l1 a = some r) (hFQ : laws_eqMorphism.f k l1 l1 = some true) :
    Calls Try.prog 3 #[.agg #[.slice A1 l1.length c1], .int .i64 a] w fun e w' => e = .returned (.bool true) ∧ Below w.heap.size w w' := by
  have FZ := Aside0.mk hFZ; have FT := Aside0.mk hFT; have FS := Aside0.mk hFS; have FI := Aside0.mk hFI; have FQ := Aside0.mk hFQ
  clear hFZ hFT hFS hFI hFQ
  have hq0 : decide (t < 0) = false := by simp; omega
  clear ht
  have HA1 := Aside0.mk hr1; have HC1 := Aside0.mk hc1
  have HB := Aside0.mk (Below.refl w.heap.size w); have HP := Aside0.mk (Nat.le_refl w.heap.size)
  clear hr1 hc1
  have hu0 := Try.underlying24; have hu1 := Try.underlying27
  go_enter Try.func3, Try.ntmps3
  go_wp2_with (first | (
    (with_reducible refine gate_dst (N := 2) rfl ?_); refine box_event ?hg (N := 2) ?hd (cs := #[.slice A1 l1.length c1]) (t := 24) ?hr ?_; (case hd => rfl); (case hg => rfl); (case hr => first | (go_simp; done) | (go_simp; rfl))
    intro loarg hg w1_ hbox hb
    obtain ⟨hiarg, hh_⟩ : ∃ h, h = loarg + 1 := ⟨_, rfl⟩
    have hp_ : w.heap.size ≤ loarg := by rw [hg]; exact HP.out
    have hl_ : loarg ≤ hiarg := by omega
    have hs_ : hiarg ≤ w1_.heap.size := by rw [hh_]; exact blk_lt hbox
    have HGarg := Aside0.mk (show w.heap.size ≤ loarg from by rw [hg]; exact HB.out.size)
    have nb_ := Aside0.mk (below_step HB.out hb); have np_ := Aside0.mk (Nat.le_trans HP.out hb.size); clear HB HP; have HB := nb_; have HP := np_; clear nb_ np_
    have HHarg := Aside0.mk hh_
    have HOarg := Aside0.mk hp_; have HLarg := Aside0.mk hl_; clear HP; have HP := Aside0.mk hs_; clear hp_ hl_ hs_
    have HBarg := Aside0.mk hbox; clear hbox hb hg hh_
    have hcz_arg_0 : w1_.cell? ⟨loarg, 0, none⟩ = some (.slice A1 l1.length c1) := (blk_cell HBarg.out 0).trans rfl; have hfz_arg_0 := blk_frozen HBarg.out 0))
  refine (laws_szMorphism.calls k _ _ l1 1048576 t _ (Kd.C_below HA1.out HB.out) HC1.out FZ.out).mono ?_
  rintro e w2_ ⟨rfl, hb⟩
  have n0_ := Aside0.mk (blk_below HBarg.out hb)
  clear HBarg; have HBarg := n0_; clear n0_
  have nb_ := Aside0.mk (below_step HB.out hb); have np_ := Aside0.mk (Nat.le_trans HP.out hb.size); clear HB HP; have HB := nb_; have HP := np_; clear nb_ np_
  clear hb
  clear hcz_arg_0
  clear hfz_arg_0
  have hcz_arg_0 : w2_.cell? ⟨loarg, 0, none⟩ = some (.slice A1 l1.length c1) := (blk_cell HBarg.out 0).trans rfl; have hfz_arg_0 := blk_frozen HBarg.out 0
  go_wp2_with fail
  refine (laws_toMorphism.calls k _ _ l1 l1 _ (Kd.C_below HA1.out HB.out) HC1.out FT.out).mono ?_
  rintro e w3_ ⟨v1_, rfl, hoT, hb⟩
  obtain ⟨loT, hiT, hlo_, hhi_, hp_, hl_, hs_⟩ := G.span_of hb HP.out
  have hT := G.S_in hoT HB.out hlo_ hhi_
  have n0_ := Aside0.mk (blk_below HBarg.out hb)
  clear HBarg; have HBarg := n0_; clear n0_
  have nb_ := Aside0.mk (below_step HB.out hb); have np_ := Aside0.mk (Nat.le_trans HP.out hb.size); clear HB HP; have HB := nb_; have HP := np_; clear nb_ np_
  clear hoT hb hlo_ hhi_
  have HOT := Aside0.mk hp_; have HLT := Aside0.mk hl_; clear HP; have HP := Aside0.mk hs_; clear hp_ hl_ hs_
  obtain ⟨AT, cT, eT⟩ := Kd.S_slice hT; subst eT
  have HT := Aside0.mk hT; clear hT
  clear hcz_arg_0
  clear hfz_arg_0
  have hcz_arg_0 : w3_.cell? ⟨loarg, 0, none⟩ = some (.slice A1 l1.length c1) := (blk_cell HBarg.out 0).trans rfl; have hfz_arg_0 := blk_frozen HBarg.out 0
  go_wp2_with fail
  refine (spec_IsGrowing.calls k (fun k_ => k_ < w3_.heap.size) _ _ l1 a r _ (Kd.V_mk (Kd.S_reads' HT.out).2.1 (fun W' hW => (Kd.heap_slice 3 (Kd.heap_int .i64)).C (fun k_ hk_ => hW k_ hk_ hk_) (Kd.S_reads' HT.out).2.2)) FS.out).mono ?_
  rintro e w4_ ⟨rfl, hb⟩
  have n0_ := Aside0.mk (blk_below HBarg.out hb)
  have n1_ := Aside0.mk (Kd.S_below HT.out hb)
  clear HBarg; have HBarg := n0_; clear n0_
  clear HT; have HT := n1_; clear n1_
  have nb_ := Aside0.mk (below_step HB.out hb); have np_ := Aside0.mk (Nat.le_trans HP.out hb.size); clear HB HP; have HB := nb_; have HP := np_; clear nb_ np_
  clear hb
  clear hcz_arg_0
  clear hfz_arg_0
  have hcz_arg_0 : w4_.cell? ⟨loarg, 0, none⟩ = some (.slice A1 l1.length c1) := (blk_cell HBarg.out 0).trans rfl; have hfz_arg_0 := blk_frozen HBarg.out 0
  clear HT
  go_wp2_with fail
  refine (laws_toMorphism.calls k _ _ l1 l1 _ (Kd.C_below HA1.out HB.out) HC1.out FT.out).mono ?_
  rintro e w5_ ⟨v1_, rfl, hoX, hb⟩
  obtain ⟨loX, hiX, hlo_, hhi_, hp_, hl_, hs_⟩ := G.span_of hb HP.out
  have hX := G.S_in hoX HB.out hlo_ hhi_
  have n0_ := Aside0.mk (blk_below HBarg.out hb)
  clear HBarg; have HBarg := n0_; clear n0_
  have nb_ := Aside0.mk (below_step HB.out hb); have np_ := Aside0.mk (Nat.le_trans HP.out hb.size); clear HB HP; have HB := nb_; have HP := np_; clear nb_ np_
  clear hoX hb hlo_ hhi_
  have HOX := Aside0.mk hp_; have HLX := Aside0.mk hl_; clear HP; have HP := Aside0.mk hs_; clear hp_ hl_ hs_
  obtain ⟨AX, cX, eX⟩ := Kd.S_slice hX; subst eX
  have HX := Aside0.mk hX; clear hX
  clear hcz_arg_0
  clear hfz_arg_0
  have hcz_arg_0 : w5_.cell? ⟨loarg, 0, none⟩ = some (.slice A1 l1.length c1) := (blk_cell HBarg.out 0).trans rfl; have hfz_arg_0 := blk_frozen HBarg.out 0
  go_wp2_with (first | (
    (with_reducible refine gate_dst (N := 7) rfl ?_); refine box_event ?hg (N := 7) ?hd (cs := #[.slice none 0 0]) (t := 27) ?hr ?_; (case hd => rfl); (case hg => rfl); (case hr => first | (go_simp; done) | (go_simp; rfl))
    intro lobx hg w6_ hbox hb
    obtain ⟨hibx, hh_⟩ : ∃ h, h = lobx + 1 := ⟨_, rfl⟩
    have hp_ : hiX ≤ lobx := by rw [hg]; exact HP.out
    have hl_ : lobx ≤ hibx := by omega
    have hs_ : hibx ≤ w6_.heap.size := by rw [hh_]; exact blk_lt hbox
    have HGbx := Aside0.mk (show w.heap.size ≤ lobx from by rw [hg]; exact HB.out.size)
    have n0_ := Aside0.mk (blk_below HBarg.out hb)
    have n1_ := Aside0.mk (Kd.S_below HX.out hb)
    clear HBarg; have HBarg := n0_; clear n0_
    clear HX; have HX := n1_; clear n1_
    have nb_ := Aside0.mk (below_step HB.out hb); have np_ := Aside0.mk (Nat.le_trans HP.out hb.size); clear HB HP; have HB := nb_; have HP := np_; clear nb_ np_
    have HHbx := Aside0.mk hh_
    have HObx := Aside0.mk hp_; have HLbx := Aside0.mk hl_; clear HP; have HP := Aside0.mk hs_; clear hp_ hl_ hs_
    have HBbx := Aside0.mk hbox; clear hbox hb hg hh_
    clear hcz_arg_0
    clear hfz_arg_0
    have hcz_arg_0 : w6_.cell? ⟨loarg, 0, none⟩ = some (.slice A1 l1.length c1) := (blk_cell HBarg.out 0).trans rfl; have hfz_arg_0 := blk_frozen HBarg.out 0
    have hcz_bx_0 : w6_.cell? ⟨lobx, 0, none⟩ = some (.slice none 0 0) := (blk_cell HBbx.out 0).trans rfl; have hfz_bx_0 := blk_frozen HBbx.out 0
    have ha_ : hiarg ≤ lobx := by
      have h0_ := HOT.out
      have h1_ := HOX.out
      have h2_ := HObx.out
      have s0_ := HLT.out
      have s1_ := HLX.out
      omega
    have hnb_arg_bx : loarg ≠ lobx := by have h0_ := HHarg.out; have h1_ := HHbx.out; omega
    clear ha_
    have ha_ : hiarg ≤ lobx := by
      have h0_ := HOT.out
      have h1_ := HOX.out
      have h2_ := HObx.out
      have s0_ := HLT.out
      have s1_ := HLX.out
      omega
    have hnb_bx_arg : lobx ≠ loarg := by have h0_ := HHbx.out; have h1_ := HHarg.out; omega
    clear ha_))
  refine G.genC (F := fun w1 => Kept w6_ w1 (G.Span lobx hibx) ∧ Below w.heap.size w w1 ∧ w1.heap[lobx]? = some (.cells #[.slice AX l1.length cX] 27 (0, 0))) ⟨?k0, ?k1, ?k2⟩ ?_
  case k0 => exact (by have hh_ := HHbx.out; repeat (first | exact Kept.refl _ _ | refine Kept.setCell ?_ (.inl ⟨Nat.le_refl _, by show lobx < hibx; omega⟩) _ | refine Kept.drewN ?_ _ | refine Kept.drew ?_))
  case k1 => exact (by repeat (first | (with_reducible first | exact HB.out | apply below_drew1 | apply pw_below_drewN | refine below_set ?_ HGbx.out) | exact HB.out))
  case k2 => exact (by (with_reducible repeat (first | refine blk_drewN ?_ _ | refine blk_drew ?_)); refine blk_put (cs := #[.slice none 0 0]) ?_ 0 _ rfl; (with_reducible repeat (first | refine blk_drewN ?_ _ | refine blk_drew ?_)); exact HBbx.out)
  rintro w7_ ⟨hkp, hb1_, hbk_⟩
  clear HBbx
  have ha_arg : hiarg ≤ lobx := by
    have h0_ := HOT.out
    have h1_ := HOX.out
    have h2_ := HObx.out
    have s0_ := HLT.out
    have s1_ := HLX.out
    omega
  have ha_X : hiX ≤ lobx := by
    have h0_ := HObx.out
    omega
  have n0_ := Aside0.mk (blk_kept HBarg.out hkp (by have h0_ := HHarg.out; have h1_ := ha_arg; unfold G.Span; omega))
  have n1_ := Aside0.mk (G.S_marked HX.out hkp (.inl ha_X))
  clear HBarg; have HBarg := n0_; clear n0_
  clear HX; have HX := n1_; clear n1_
  have np_ := Aside0.mk (Nat.le_trans HP.out hkp.1); have nb_ := Aside0.mk hb1_; clear HP HB hb1_; have HP := np_; have HB := nb_; clear np_ nb_ ha_arg ha_X
  have HBbx := Aside0.mk hbk_; clear hbk_ hkp
  clear hcz_arg_0
  clear hfz_arg_0
  clear hcz_bx_0
  clear hfz_bx_0
  clear hnb_arg_bx
  clear hnb_bx_arg
  have hcz_arg_0 : w7_.cell? ⟨loarg, 0, none⟩ = some (.slice A1 l1.length c1) := (blk_cell HBarg.out 0).trans rfl; have hfz_arg_0 := blk_frozen HBarg.out 0
  have hcz_bx_0 : w7_.cell? ⟨lobx, 0, none⟩ = some (.slice AX l1.length cX) := (blk_cell HBbx.out 0).trans rfl; have hfz_bx_0 := blk_frozen HBbx.out 0
  have ha_ : hiarg ≤ lobx := by
    have h0_ := HOT.out
    have h1_ := HOX.out
    have h2_ := HObx.out
    have s0_ := HLT.out
    have s1_ := HLX.out
    omega
  have hnb_arg_bx : loarg ≠ lobx := by have h0_ := HHarg.out; have h1_ := HHbx.out; omega
  clear ha_
  have ha_ : hiarg ≤ lobx := by
    have h0_ := HOT.out
    have h1_ := HOX.out
    have h2_ := HObx.out
    have s0_ := HLT.out
    have s1_ := HLX.out
    omega
  have hnb_bx_arg : lobx ≠ loarg := by have h0_ := HHbx.out; have h1_ := HHarg.out; omega
  clear ha_
  refine (impl_IsGrowing.calls k _ _ l1 a r _ (Kd.S_reads' HX.out).2.2 (Kd.S_reads' HX.out).2.1 FI.out).mono ?_
  rintro e w8_ ⟨rfl, hb⟩
  have n0_ := Aside0.mk (blk_below HBarg.out hb)
  have n1_ := Aside0.mk (Kd.S_below HX.out hb)
  have n2_ := Aside0.mk (blk_below HBbx.out hb)
  clear HBarg; have HBarg := n0_; clear n0_
  clear HX; have HX := n1_; clear n1_
  clear HBbx; have HBbx := n2_; clear n2_
  have nb_ := Aside0.mk (below_step HB.out hb); have np_ := Aside0.mk (Nat.le_trans HP.out hb.size); clear HB HP; have HB := nb_; have HP := np_; clear nb_ np_
  clear hb
  clear hcz_arg_0
  clear hfz_arg_0
  clear hcz_bx_0
  clear hfz_bx_0
  clear hnb_arg_bx
  clear hnb_bx_arg
  have hcz_arg_0 : w8_.cell? ⟨loarg, 0, none⟩ = some (.slice A1 l1.length c1) := (blk_cell HBarg.out 0).trans rfl; have hfz_arg_0 := blk_frozen HBarg.out 0
  have hcz_bx_0 : w8_.cell? ⟨lobx, 0, none⟩ = some (.slice AX l1.length cX) := (blk_cell HBbx.out 0).trans rfl; have hfz_bx_0 := blk_frozen HBbx.out 0
  have ha_ : hiarg ≤ lobx := by
    have h0_ := HOT.out
    have h1_ := HOX.out
    have h2_ := HObx.out
    have s0_ := HLT.out
    have s1_ := HLX.out
    omega
  have hnb_arg_bx : loarg ≠ lobx := by have h0_ := HHarg.out; have h1_ := HHbx.out; omega
  clear ha_
  have ha_ : hiarg ≤ lobx := by
    have h0_ := HOT.out
    have h1_ := HOX.out
    have h2_ := HObx.out
    have s0_ := HLT.out
    have s1_ := HLX.out
    omega
  have hnb_bx_arg : lobx ≠ loarg := by have h0_ := HHbx.out; have h1_ := HHarg.out; omega
  clear ha_
  go_wp2_with fail
  clear hcz_arg_0
  clear hfz_arg_0
  clear hcz_bx_0
  clear hfz_bx_0
  clear hnb_arg_bx
  clear hnb_bx_arg
  have n0_ := Aside0.mk (blk_drew HBarg.out)
  have n1_ := Aside0.mk (Kd.S_drew HX.out)
  have n2_ := Aside0.mk (blk_drew HBbx.out)
  clear HBarg; have HBarg := n0_; clear n0_
  clear HX; have HX := n1_; clear n1_
  clear HBbx; have HBbx := n2_; clear n2_
  have nb_ := Aside0.mk (below_drew1 HB.out); have np_ := Aside0.mk (show hibx ≤ w8_.drew.heap.size from HP.out); clear HB HP; have HB := nb_; have HP := np_; clear nb_ np_
  refine start_ (n := 5) (S := fun w' => w'.cell? ⟨lobx, 0, none⟩ = some (.slice AX l1.length cX) ∧ w'.cell? ⟨loarg, 0, none⟩ = some (.slice A1 l1.length c1)) (ds := []) #[false, false, false, false, false] (by kernel_rfl) rfl rfl ⟨(blk_cell HBbx.out 0).trans rfl, (blk_cell HBarg.out 0).trans rfl⟩ (fun hHeld => ?_)
  generalize w8_.drew = w9_ at HBarg HX HBbx HB HP hHeld ⊢
  refine take_ (i := 0) (N := some 26) (v := ?_) (a' := ?_) #[true, false, false, false, false] rfl rfl (by kernel_rfl) (fun _ _ _ h => h) (Or.inl ⟨by rfl, ?_⟩) hHeld ?_ ?_
  rotate_left
  · rintro w' ⟨s0, s1⟩; go_simp; with_reducible rfl
  rotate_left
  · simp only [Act.put, List.setIfInBounds_toArray, List.set_cons_zero, List.set_cons_succ, i64_w, i32_w]; rfl
  refine take_ (i := 1) (N := some 27) (v := ?_) (a' := ?_) #[true, true, false, false, false] rfl rfl (by kernel_rfl) (fun _ _ _ h => h) (Or.inl ⟨by rfl, ?_⟩) hHeld ?_ ?_
  rotate_left
  · rintro w' ⟨s0, s1⟩; go_simp; with_reducible rfl
  rotate_left
  · simp only [Act.put, List.setIfInBounds_toArray, List.set_cons_zero, List.set_cons_succ, i64_w, i32_w]; rfl
  refine one_ (i := 2) (N := some 28) #[true, true, true, false, false] rfl rfl (by kernel_rfl) (by decide) (fun K hK => ?_)
  refine goes_ Try.func17 (by kernel_rfl) rfl #[.agg #[.slice A1 l1.length c1]] (by rfl) rfl rfl (by (try simp only [List.map_toArray, List.map_cons, List.map_nil]); first | done | rfl | (simp only [List.length_drop, List.length_take]; rfl)) ?_
  refine (laws_toMorphism.calls k _ _ l1 l1 _ (Kd.C_below HA1.out HB.out) HC1.out FT.out).mono ?_
  rintro e w10_ ⟨v1_, rfl, hoY, hb⟩
  refine ⟨_, rfl, ?_⟩
  obtain ⟨loY, hiY, hlo_, hhi_, hp_, hl_, hs_⟩ := G.span_of hb HP.out
  have hY := G.S_in hoY HB.out hlo_ hhi_
  have n0_ := Aside0.mk (blk_below HBarg.out hb)
  have n1_ := Aside0.mk (Kd.S_below HX.out hb)
  have n2_ := Aside0.mk (blk_below HBbx.out hb)
  clear HBarg; have HBarg := n0_; clear n0_
  clear HX; have HX := n1_; clear n1_
  clear HBbx; have HBbx := n2_; clear n2_
  have nb_ := Aside0.mk (below_step HB.out hb); have np_ := Aside0.mk (Nat.le_trans HP.out hb.size); clear HB HP; have HB := nb_; have HP := np_; clear nb_ np_
  clear hoY hb hlo_ hhi_
  have HOY := Aside0.mk hp_; have HLY := Aside0.mk hl_; clear HP; have HP := Aside0.mk hs_; clear hp_ hl_ hs_
  obtain ⟨AY, cY, eY⟩ := Kd.S_slice hY; subst eY
  have HY := Aside0.mk hY; clear hY
  refine hK.out _ _ ⟨(blk_cell HBbx.out 0).trans rfl, (blk_cell HBarg.out 0).trans rfl⟩ (fun hHeld => ?_)
  refine norm_ (a' := ?_) ?_ ?_
  rotate_left
  · show Act.put _ (some 28) _ = _; simp only [Act.put, List.setIfInBounds_toArray, List.set_cons_zero, List.set_cons_succ, i64_w, i32_w]; rfl
  refine one_ (i := 3) (N := some 29) #[true, true, true, true, false] rfl rfl (by kernel_rfl) (by decide) (fun K hK => ?_)
  refine goes_ Try.func19 (by kernel_rfl) rfl #[.agg #[.slice AX l1.length cX], .agg #[.slice AY l1.length cY]] (by rfl) rfl rfl (by (try simp only [List.map_toArray, List.map_cons, List.map_nil]); first | done | rfl | (simp only [List.length_drop, List.length_take]; rfl)) ?_
  refine (laws_eqMorphism.calls k _ _ l1 _ _ l1 true _ (Kd.S_reads' HX.out).2.2 (Kd.S_reads' HX.out).2.1 (Kd.S_reads' HY.out).2.2 (Kd.S_reads' HY.out).2.1 FQ.out).mono ?_
  rintro e w11_ ⟨rfl, hb⟩
  refine ⟨_, rfl, ?_⟩
  have n0_ := Aside0.mk (blk_below HBarg.out hb)
  have n1_ := Aside0.mk (Kd.S_below HX.out hb)
  have n2_ := Aside0.mk (blk_below HBbx.out hb)
  have n3_ := Aside0.mk (Kd.S_below HY.out hb)
  clear HBarg; have HBarg := n0_; clear n0_
  clear HX; have HX := n1_; clear n1_
  clear HBbx; have HBbx := n2_; clear n2_
  clear HY; have HY := n3_; clear n3_
  have nb_ := Aside0.mk (below_step HB.out hb); have np_ := Aside0.mk (Nat.le_trans HP.out hb.size); clear HB HP; have HB := nb_; have HP := np_; clear nb_ np_
  clear hb
  refine hK.out _ _ ⟨(blk_cell HBbx.out 0).trans rfl, (blk_cell HBarg.out 0).trans rfl⟩ (fun hHeld => ?_)
  refine norm_ (a' := ?_) ?_ ?_
  rotate_left
  · show Act.put _ (some 29) _ = _; simp only [Act.put, List.setIfInBounds_toArray, List.set_cons_zero, List.set_cons_succ, i64_w, i32_w]; rfl
  refine pure_ (i := 4) (N := some 30) (v := ?_) (a' := ?_) #[true, true, true, true, true] rfl rfl (by kernel_rfl) (fun _ _ _ h => h) (Or.inl ⟨by rfl, ?_⟩) ?_ ?_
  rotate_left
  · intro w'; go_simp; with_reducible rfl
  rotate_left
  · simp only [Act.put, List.setIfInBounds_toArray, List.set_cons_zero, List.set_cons_succ, i64_w, i32_w]; rfl
  refine done_ (by kernel_rfl) ?_
  have hcz_arg_0 : w11_.cell? ⟨loarg, 0, none⟩ = some (.slice A1 l1.length c1) := (blk_cell HBarg.out 0).trans rfl; have hfz_arg_0 := blk_frozen HBarg.out 0
  have hcz_bx_0 : w11_.cell? ⟨lobx, 0, none⟩ = some (.slice AX l1.length cX) := (blk_cell HBbx.out 0).trans rfl; have hfz_bx_0 := blk_frozen HBbx.out 0
  have ha_ : hiarg ≤ lobx := by
    have h0_ := HOT.out
    have h1_ := HOX.out
    have h2_ := HObx.out
    have s0_ := HLT.out
    have s1_ := HLX.out
    omega
  have hnb_arg_bx : loarg ≠ lobx := by have h0_ := HHarg.out; have h1_ := HHbx.out; omega
  clear ha_
  have ha_ : hiarg ≤ lobx := by
    have h0_ := HOT.out
    have h1_ := HOX.out
    have h2_ := HObx.out
    have s0_ := HLT.out
    have s1_ := HLX.out
    omega
  have hnb_bx_arg : lobx ≠ loarg := by have h0_ := HHbx.out; have h1_ := HHarg.out; omega
  clear ha_
  go_wp2
  go_ret
  exact ⟨rfl, HB.out⟩

end Go.Proofs.Ytolikggioekalaa.PFnExactIsGrowing
