/- The Go functions that the law FnRuns reaches (part 7): each as a Lean function, and that its code comes to these answers. No condition beyond those written. -/
import Derived.Deep.RegionHeld3
import Derived.Test.YtolikggioekalabGreatVMFnRunsx6
namespace Go.Proofs.YtolikggioekalabGreat.PFnRuns
open Go.RowKit Go.Proofs.YtolikggioekalabGreatW.PrintWords Go.Proofs.YtolikggioekalabGreatW.PrintLast Go.Proofs.YtolikggioekalabGreatW.PrintMore
attribute [local go_sem] max2_int min2_int max_two min_two max_three min_three max_four min_four
set_option linter.unusedVariables false
set_option linter.unusedSimpArgs false
section
open Go.Proofs.YtolikggioekalabGreat.G
def growR (l : List (List Int)) (a : Int) : Bool := decide (okMor l = true ∧ 0 ≤ a ∧ a < (l.length : Int) ∧ 2 ≤ (img l a).length ∧ (img l a).getD 0 0 = a) && ((img l a).drop 1).any (lives l l.length)
theorem okMor_facts {l : List (List Int)} (h : okMor l = true) : (1 ≤ l.length ∧ l.length ≤ 16) ∧ okL l ∧ ∀ x : Int, (img l x).length ≤ 8 := by
 unfold okMor at h
 rw [decide_eq_true_eq] at h
 have key : ∀ x : Int, (img l x).length ≤ 8 ∧ ∀ y ∈ img l x, 0 ≤ y ∧ y < (l.length : Int) := by
  intro x
  by_cases c : x.toNat < l.length
  ·have hm : img l x ∈ l := by unfold img; rw [getD_eq c]; exact List.getElem_mem _
   exact h.2 _ hm
  ·have : img l x = [] := by unfold img; rw [List.getD_eq_getElem?_getD, List.getElem?_eq_none (by omega)]; rfl
   rw [this]; exact ⟨by simp, by simp⟩
 exact ⟨h.1, fun x y hy => (key x).2 y hy, fun x => (key x).1⟩
theorem lives_more {l : List (List Int)} (ho : okL l) {y : Int} (hy : 0 ≤ y ∧ y < (l.length : Int)) : lives l (l.length + 1) y = lives l l.length y := by
 have := still_n ho y.toNat (by omega)
 rwa [show ((y.toNat : Nat) : Int) = y by omega] at this
theorem F_of_C {w : World} {A : Option Addr} {l : List Int} (h : Kd.C (Kd.int .i64) w A l.length l) : Kd.F (Kd.int .i64) w (fun _ => True) A l.length l := fun W' hW => (Kd.heap_int _).C (fun k hk => hW k trivial hk) h
def NX (rows : List (List Int)) (rest : List Int) (i : Int) : List Int := nextAll rows [] (rest.take i.toNat)
def NY (rows : List (List Int)) (rest : List Int) (i j : Int) : List Int := nextS (NX rows rest i) ((img rows (rd rest i)).take j.toNat)
theorem NX_next {rows : List (List Int)} {rest : List Int} {i : Int} (h0 : 0 ≤ i) (h1 : i < (rest.length : Int)) : NX rows rest (i + 1) = NY rows rest i ((img rows (rd rest i)).length : Int) := by
 unfold NX NY NX
 rw [show (i + 1).toNat = i.toNat + 1 by omega, nextAll_snoc rows [] rest (by omega), Int.toNat_natCast, List.take_length]
 rfl
theorem NY_next {rows : List (List Int)} {rest : List Int} {i j : Int} (h0 : 0 ≤ j) (h1 : j < ((img rows (rd rest i)).length : Int)) : NY rows rest i (j + 1) = if rd (img rows (rd rest i)) j ∈ NY rows rest i j then NY rows rest i j else NY rows rest i j ++ [rd (img rows (rd rest i)) j] := by
 unfold NY
 rw [show (j + 1).toNat = j.toNat + 1 by omega, nextS_snoc _ _ (by omega)]
 rfl
theorem NY_len {rows : List (List Int)} (ho : okL rows) (hn : rows.length ≤ 16) (rest : List Int) (i j : Int) : (NY rows rest i j).length ≤ 16 := by
 have := nextS_in ho (y := rd rest i) j.toNat (nextAll_in ho (rest.take i.toNat))
 exact Nat.le_trans (letters_len this.1 this.2) hn
theorem NX_in {rows : List (List Int)} (ho : okL rows) (hn : rows.length ≤ 16) (rest : List Int) (i : Int) : (NX rows rest i).length ≤ 16 ∧ ∀ x ∈ NX rows rest i, 0 ≤ x ∧ x < (rows.length : Int) := by
 have := nextAll_in ho (rest.take i.toNat)
 exact ⟨Nat.le_trans (letters_len this.1 this.2) hn, this.2⟩
theorem addr0 (ad : Addr) : ad.add (Int.toNat 0) = ad := by
 rw [show Int.toNat 0 = 0 from rfl]
 unfold Addr.add
 split <;> simp_all
set_option maxHeartbeats 8000000 in
set_option maxRecDepth 100000 in
theorem spec_IsGrowing.any (A : Option Addr) (c : Nat) (rows : List (List Int)) (w : World) (hr : Kd.C (Kd.slice 3 (Kd.int .i64)) w A rows.length rows) (hl : rows.length ≤ 1048576) (hrl : ∀ r ∈ rows, r.length ≤ 1048576) :
  Calls Tryz.prog 74 #[.agg #[.slice A rows.length c], .int .i64 0] w fun e w' => e = .returned (.bool (growR rows 0)) ∧ Below w.heap.size w w' := by
 have huMo := Tryz.underlying72
 have HR := G.a hr
 have HL := G.a hl
 have HRL := G.a hrl
 clear hr hl hrl
 go_enter Tryz.func74, Tryz.ntmps74
 go_upto_region 1 with (first | ((with_reducible refine gate_dst (N := 2) rfl ?_); refine box_event ?hg (N := 2) ?hd (cs := #[.slice A rows.length c]) (t := 72) ?hr ?_; (case hd => rfl); (case hg => rfl); (case hr => first | (go_simp; done) | (go_simp; rfl)); intro gb hg w2 hbox hb; have BX := G.a (box1 hbox); have H0 := G.a hb; clear hg hbox hb))
 have HB := G.a (Below.refl w2.heap.size w2)
 obtain ⟨z0, y0⟩ := BX.out _ HB.out
 have hM : Calls Tryz.prog 89 #[.agg #[.slice A rows.length c]] w2 fun e w' => e = .returned (.bool (okMor rows)) ∧ Below w2.heap.size w2 w' := spec_IsMorphism.any A c rows w2 (Kd.C_below HR.out H0.out) HL.out HRL.out
 by_cases hok : okMor rows = true
 ·obtain ⟨⟨n1, n16⟩, ho, h8⟩ := okMor_facts hok
  rw [hok] at hM
  obtain ⟨ad, Ar, cr, e1, hx1, hl1, hi1⟩ := at_L2 HR.out 0 (by omega) (by omega)
  cases e1
  rw [addr0] at hx1
  have hx2 := pw_cell_below H0.out hx1
  have h80 : (rd_L2 rows 0).length ≤ 8 := h8 0
  have HOK := G.a hok
  have HN := G.a (And.intro n1 n16)
  have HO := G.a ho
  have H8 := G.a h8
  have H80 := G.a h80
  have HX1 := G.a hx1
  have HI1 := G.a hi1
  have HL1 := G.a hl1
  have d0 : decide ((rows.length : Int) ≤ 0) = false := decide_eq_false (by omega)
  have p1 := eq_true (show 0 < rows.length from n1)
  have p2 : (rows = []) = False := eq_false (fun e => by rw [e] at n1; simp at n1)
  clear hok n1 n16 ho h8 h80 hx1 hi1 hl1
  by_cases c2 : ((rd_L2 rows 0).length : Int) < 2
  ·have d2 : decide (((rd_L2 rows 0).length : Int) < 2) = true := decide_eq_true c2
   have HG := G.a (show growR rows 0 = false by
    unfold growR
    rw [Bool.and_eq_false_iff]
    left
    rw [decide_eq_false_iff_not]
    rintro ⟨_, _, _, h, _⟩
    have : ((img rows 0).length : Int) < 2 := c2
    omega)
   clear c2
   go_wp2_with (go_at_call 89; (with_reducible refine hM.mono ?_); rintro e w3 ⟨rfl, hb⟩; have HB3 := G.a hb; clear hb HB; have HB := HB3; clear HB3; obtain ⟨z1, y1⟩ := BX.out _ HB.out; have hx3 := pw_cell_below (below_step H0.out HB.out) HX1.out)
   go_ret
   exact ⟨by rw [HG.out]; rfl, below_step H0.out bel⟩
  ·have d2 : decide (((rd_L2 rows 0).length : Int) < 2) = false := decide_eq_false c2
   have HC2 := G.a c2
   obtain ⟨ad2, e2, hx4⟩ := Kd.at_int HI1.out 0 (by omega) (by omega)
   cases e2
   rw [addr0] at hx4
   have HX4 := G.a hx4
   have q1 := eq_true (show (0 : Int) < ((rd_L2 rows 0).length : Int) by omega)
   have q2 := eq_true (show 0 < (rd_L2 rows 0).length by omega)
   clear c2 hx4
   by_cases c3 : rd (rd_L2 rows 0) 0 = 0
   ·have d3 : (rd (rd_L2 rows 0) 0 != 0) = false := bne_eq_false_iff_eq.mpr c3
    have HC3 := G.a c3
    clear c3
    obtain ⟨i03, hi03, _, hsz3, _⟩ := info_parts info3
    obtain ⟨A', hcut, hA, hcl⟩ := print_drop_of (P := Tryz.prog) (Value.int .i64) (0 : Int) 24 3 .i64 Tryz.underlying24 hi03 hsz3 (some ad2) cr (rd_L2 rows 0) 1 (by omega) (by have := HC2.out; omega) HL1.out
    have hF := F_of_C (Kd.C_of_reads (h1 := fun _ => rfl) (hA w (Kd.reads_of_C HI1.out)))
    have HG := G.a (show growR rows 0 = ((rd_L2 rows 0).drop (Int.toNat 1)).any (lives rows (rows.length + 1)) by
     unfold growR
     rw [decide_eq_true (show okMor rows = true ∧ (0 : Int) ≤ 0 ∧ 0 < (rows.length : Int) ∧ 2 ≤ (img rows 0).length ∧ (img rows 0).getD 0 0 = 0 from ⟨HOK.out, by omega, by have := HN.out; omega, by have h_ : ¬ ((img rows 0).length : Int) < 2 := HC2.out; omega, HC3.out⟩), Bool.true_and]
     refine any_congr _ (fun y hy => ?_)
     exact (lives_more HO.out (HO.out 0 y (List.mem_of_mem_drop hy))).symm)
    have HIN := G.a (show ((rd_L2 rows 0).drop (Int.toNat 1)).length ≤ 16 ∧ ∀ x ∈ (rd_L2 rows 0).drop (Int.toNat 1), 0 ≤ x ∧ x < (rows.length : Int) from ⟨by have := H80.out; rw [List.length_drop]; omega, fun x hx => HO.out 0 x (List.mem_of_mem_drop hx)⟩)
    clear hA
    generalize (rd_L2 rows 0).drop (Int.toNat 1) = rest0 at hcut hF hcl HG HIN
    generalize cr - Int.toNat 1 = c0 at hcut hcl
    have HF := G.a (And.intro hcl hF)
    clear hF hcl
    go_wp2_with (go_at_call 89; (with_reducible refine hM.mono ?_); rintro e w3 ⟨rfl, hb⟩; have HB3 := G.a hb; clear hb HB; have HB := HB3; clear HB3; obtain ⟨z1, y1⟩ := BX.out _ HB.out; have hx3 := pw_cell_below (below_step H0.out HB.out) HX1.out; have hx5 := pw_cell_below (below_step H0.out HB.out) HX4.out)
    clear z0 z1 y1 hx2 hx3 hx5 y0 hM d0 p1 p2 d2 q1 q2 d3 hcut
    go_loopg [5, 6] (rows.length + 1) (fun kq v5 v6 w' => ∃ (A5 : Option Addr) (c5 : Nat) (rest : List Int) (t : Int), v5 = .slice A5 rest.length c5 ∧ v6 = .int .i64 t ∧ Aside0 (0 ≤ t ∧ t ≤ (rows.length : Int) + 1 ∧ (rows.length : Int) + 1 ≤ t + kq) ∧ Aside0 (rest.length ≤ 16 ∧ ∀ x ∈ rest, 0 ≤ x ∧ x < (rows.length : Int)) ∧ Aside0 (growR rows 0 = rest.any (lives rows (rows.length + 1 - t.toNat))) ∧ Aside0 (rest.length ≤ c5 ∧ Kd.F (Kd.int .i64) w' (fun _ => True) A5 rest.length rest) ∧ Aside0 (Below w2.heap.size w2 w'))
    case atStart => exact ⟨A', c0, rest0, 0, rfl, rfl, ⟨by omega⟩, HIN, HG, ⟨HF.out.1, Kd.F_below HF.out.2 (below_step H0.out bel)⟩, ⟨bel⟩⟩
    case round =>
     clear HB HF HG HIN
     obtain ⟨A5, c5, rest, t, rfl, rfl, HT, HIN, HG, HF, HB⟩ := hrel
     obtain ⟨z0, y0⟩ := BX.out _ HB.out
     by_cases ct : t ≤ (rows.length : Int)
     ·have cb : decide (t ≤ (rows.length : Int)) = true := decide_eq_true ct
      have HT2 := G.a ct
      clear ct
      obtain ⟨k1, rfl⟩ : ∃ k1, gk = k1 + 1 := ⟨gk - 1, by have := HT.out; have := HT2.out; omega⟩
      go_wp2_with (first | ((with_reducible refine gate_dst (N := 57) rfl ?_); refine Kd.R_lit (Kd.int .i64) _ 3 ?hg (N := 57) ?hd (xs := ([] : List Int)) (inner := []) (ok := fun _ => True) (okp := fun _ => True) ?hr ?hp (fun _ hk => hk) trivial (Below.refl _ _) (Nat.le_refl _) (by simp) ?_; (case hd => rfl); (case hg => rfl); (case hr => first | (go_simp; done) | (go_simp; rfl)); (case hp => exact (Reps.none _ _)); intro v7 w3 ho hb hg_ hnew_; clear hg_ hnew_; have n1_ := G.a (And.intro HF.out.1 (Kd.F_elder' HF.out.2 (Kd.R_base ho) hb)); have n2_ := G.a (below_step HB.out hb); have n3_ := G.a (Kd.R_lower ho (below_size HB.out)); clear HF HB ho hb z0 y0; have HF := n1_; have HB := n2_; have HO7 := n3_; clear n1_ n2_ n3_))
      clear cb
      go_loopg [7, 8] rest.length (fun kq v7 v8 w' => ∃ (i : Int), v8 = .int .i64 i ∧ Aside0 (0 ≤ i ∧ i ≤ (rest.length : Int) ∧ (rest.length : Int) ≤ i + kq) ∧ Aside0 (Kd.R (Kd.int .i64) 3 w' w2.heap.size (fun _ => True) v7 (NX rows rest i)) ∧ Aside0 (rest.length ≤ c5 ∧ Kd.F (Kd.int .i64) w' (fun k => True ∧ some k ≠ (v7 : Value).ownBlock) A5 rest.length rest) ∧ Aside0 (Below w2.heap.size w2 w'))
      case atStart => exact ⟨0, rfl, ⟨by omega⟩, HO7, HF, HB⟩
      case round =>
       clear HB HF HO7
       obtain ⟨i, rfl, HI, HO7, HF, HB⟩ := hrel
       by_cases ci : i < (rest.length : Int)
       ·have cb : decide (i < (rest.length : Int)) = true := decide_eq_true ci
        have HI2 := G.a ci
        clear ci
        obtain ⟨k2, rfl⟩ : ∃ k2, gk = k2 + 1 := ⟨gk - 1, by have := HI.out; have := HI2.out; omega⟩
        have HRI := G.a (HIN.out.2 (rd rest i) (mem_getD (by have := HI.out; have := HI2.out; omega)))
        go_wp2
        clear cb
        go_loopg [7, 9] (rd_L2 rows (rd rest i)).length (fun kq v7 v9 w' => ∃ (j : Int), v9 = .int .i64 j ∧ Aside0 (0 ≤ j ∧ j ≤ ((rd_L2 rows (rd rest i)).length : Int) ∧ ((rd_L2 rows (rd rest i)).length : Int) ≤ j + kq) ∧ Aside0 (Kd.R (Kd.int .i64) 3 w' w2.heap.size (fun _ => True) v7 (NY rows rest i j)) ∧ Aside0 (rest.length ≤ c5 ∧ Kd.F (Kd.int .i64) w' (fun k => True ∧ some k ≠ (v7 : Value).ownBlock) A5 rest.length rest) ∧ Aside0 (Below w2.heap.size w2 w'))
        case atStart => exact ⟨0, rfl, ⟨by omega⟩, HO7, HF, HB⟩
        case round =>
         clear HB HF HO7
         obtain ⟨j, rfl, HJ, HO7, HF, HB⟩ := hrel
         obtain ⟨z0, y0⟩ := BX.out _ HB.out
         obtain ⟨ad4, Ar4, cr4, e4, hx4, _, hi4⟩ := at_L2 HR.out (rd rest i) HRI.out.1 HRI.out.2
         cases e4
         have hx4w := hx4
         replace hx4 := pw_cell_below (below_step H0.out HB.out) hx4
         obtain ⟨ad5, e5, hx5⟩ := Kd.at_int (Kd.F_now HF.out.2) i HI.out.1 HI2.out
         cases e5
         have p1 := eq_true HI.out.1
         have q1 := eq_true HI2.out
         have p2 := eq_true HRI.out.1
         have q2 := eq_true HRI.out.2
         by_cases cj : j < ((rd_L2 rows (rd rest i)).length : Int)
         ·have cb : decide (j < ((rd_L2 rows (rd rest i)).length : Int)) = true := decide_eq_true cj
          have HJ2 := G.a cj
          obtain ⟨ad6, e6, hx6⟩ := Kd.at_int hi4 j HJ.out.1 cj
          cases e6
          have HX6 := G.a hx6
          have HX4 := G.a (show w.cell? (ad.add (rd rest i).toNat) = some (Value.slice (some ad6) (rd_L2 rows (rd rest i)).length cr4) from hx4w)
          clear hx6 hx4w
          have p3 := eq_true HJ.out.1
          have q3 := eq_true HJ2.out
          have hlen := NY_len HO.out HN.out.2 rest i j
          obtain ⟨K, hK⟩ := spec_l4Has_ev (NY rows rest i j) (rd (rd_L2 rows (rd rest i)) j) (by omega)
          have hK := hK K (Nat.le_refl _)
          have HLN := G.a hlen
          have HNX := G.a (NY_next (rows := rows) (rest := rest) (i := i) HJ.out.1 cj)
          obtain ⟨A7, c7, e7⟩ := Kd.R_slice HO7.out
          subst e7
          have hstep : wrap64 (j + 1) = j + 1 := wsx (n := 1099511627776) HJ.out.1 (by have h_ : (rd_L2 rows (rd rest i)).length ≤ 8 := H8.out _; omega) (by omega)
          have HST := G.a hstep
          clear cj hi4 hlen hstep
          go_wp2_with fail
          go_quiet (fail)
          go_wp2_with fail
          have n1_ := G.a (Kd.R_drewN HO7.out nq)
          have n2_ := G.a (And.intro HF.out.1 (Kd.F_drewN HF.out.2 nq))
          have n3_ := G.a (pw_below_drewN HB.out nq)
          clear z0 y0 hx4 hx5 HO7 HF HB cb
          generalize wr.drewN nq = W2 at n1_ n2_ n3_ ⊢
          have HO7 := n1_
          have HF := n2_
          have HB := n3_
          clear n1_ n2_ n3_
          obtain ⟨z0, y0⟩ := BX.out _ HB.out
          obtain ⟨ad5', e5', hx5⟩ := Kd.at_int (Kd.F_now HF.out.2) i HI.out.1 HI2.out
          cases e5'
          have hx4 := pw_cell_below (below_step H0.out HB.out) HX4.out
          have hx6 := pw_cell_below (below_step H0.out HB.out) HX6.out
          by_cases cm : rd (rd_L2 rows (rd rest i)) j ∈ NY rows rest i j
          ·rw [decide_eq_true cm] at hK
           have HD : ∀ q, Calls Tryz.prog 90 #[.slice A7 (NY rows rest i j).length c7, .int .i64 (rd (rd_L2 rows (rd rest i)) j)] (W2.drewN q) fun e w' => e = .returned (.bool true) ∧ ∃ m, w' = (W2.drewN q).drewN m := fun q => (spec_l4Has.calls K _ _ _ _ true _ ((Kd.R_reads' (Kd.R_drewN HO7.out q)).2.2) (Kd.R_reads' HO7.out).2.1 hK).mono (fun _ _ h => ⟨h.1, h.2.out⟩)
           have HNY := G.a (HNX.out.trans (if_pos cm))
           clear hK cm
           go_quiet ((go_at_call 90; exact Calls.quiet_of (HD _)))
           go_wp2_with fail
           go_roundg (gk - 1)
           case measure => have := HJ.out; have := HJ2.out; omega
           case rel =>
            refine ⟨wrap64 (j + 1), rfl, ⟨?_⟩, ⟨?_⟩, ⟨?_⟩, ⟨bel⟩⟩
            ·rw [HST.out]; have := HJ.out; have := HJ2.out; omega
            ·rw [HST.out, HNY.out]; exact (G.kR HO7.out)
            ·exact ⟨HF.out.1, by (with_reducible repeat (first | apply Kd.F_alloc | apply Kd.F_drewN | apply Kd.F_drew)); exact HF.out.2⟩
          ·rw [decide_eq_false cm] at hK
           have HD : ∀ q, Calls Tryz.prog 90 #[.slice A7 (NY rows rest i j).length c7, .int .i64 (rd (rd_L2 rows (rd rest i)) j)] (W2.drewN q) fun e w' => e = .returned (.bool false) ∧ ∃ m, w' = (W2.drewN q).drewN m := fun q => (spec_l4Has.calls K _ _ _ _ false _ ((Kd.R_reads' (Kd.R_drewN HO7.out q)).2.2) (Kd.R_reads' HO7.out).2.1 hK).mono (fun _ _ h => ⟨h.1, h.2.out⟩)
           have HNY := G.a (HNX.out.trans (if_neg cm))
           clear hK cm
           go_quiet ((go_at_call 90; exact Calls.quiet_of (HD _)))
           go_wp2_with fail
           have n1_ := G.a (Kd.R_drewN HO7.out nq)
           have n2_ := G.a (And.intro HF.out.1 (Kd.F_drewN HF.out.2 nq))
           have n3_ := G.a (pw_below_drewN HB.out nq)
           clear z0 y0 hx4 hx5 hx6 HO7 HF HB HD
           generalize W2.drewN nq = W3 at n1_ n2_ n3_ ⊢
           have HO7 := n1_
           have HF := n2_
           have HB := n3_
           clear n1_ n2_ n3_
           obtain ⟨z0, y0⟩ := BX.out _ HB.out
           obtain ⟨ad5', e5', hx5⟩ := Kd.at_int (Kd.F_now HF.out.2) i HI.out.1 HI2.out
           cases e5'
           have hx4 := pw_cell_below (below_step H0.out HB.out) HX4.out
           have hx6 := pw_cell_below (below_step H0.out HB.out) HX6.out
           have HX5 := G.a hx5
           clear hx5
           have hx5 := HX5.out
           generalize hrv : rd (rd_L2 rows (rd rest i)) j = rv at HNY HX6 hx6
           have HRV := G.a hrv
           clear hrv
           go_region_held3 (fun W => W.cell? ⟨gb, 0, none⟩ = some (.slice (some ad) rows.length c) ∧ W.cell? (ad.add (rd rest i).toNat) = some (Value.slice (some ad6) (rd_L2 rows (rd rest i)).length cr4) ∧ W.cell? (ad5.add i.toNat) = some (Value.int IntKind.i64 (rd rest i)) ∧ W.cell? (ad6.add j.toNat) = some (Value.int IntKind.i64 rv)) (first | exact ⟨(BX.out _ bel).1, pw_cell_below (below_step H0.out bel) HX4.out, pw_cell_below (by (with_reducible repeat (first | apply below_alloc | apply pw_below_drewN | apply below_drew1)); exact Below.refl _ _) HX5.out, pw_cell_below (below_step H0.out bel) HX6.out⟩) (first | (rw [show (W3.alloc (.cells #[.int .i64 rv] 3)).drew = W3.drew.alloc (.cells #[.int .i64 rv] 3) from rfl]; refine Kd.R_append_step (Kd.int .i64) (w0 := w2) w2.heap.size (by rfl) (.tmp 91) (.tmp 103) 24 3 (.int .i64 0) 8 rfl Tryz.underlying24 info3 rfl (by decide) (by omega) (.slice A7 (NY rows rest i j).length c7) (NY rows rest i j) rv [.int .i64 rv] (fun _ => True) (fun _ => False) rfl rfl ?aP (fun _ hk => hk.elim) ?aF ?aO ?aB ?aS ?aL ?_; (case aP => exact rfl); (case aF => exact (fun _ _ => trivial)); (case aO => exact (G.kR HO7.out)); (case aB => exact bel); (case aS => exact below_size bel); (case aL => have := HLN.out; omega); intro v1 w1 ho hb hg hat; generalize hl1 : NY rows rest i j ++ [rv] = l1 at ho; have HL1' := G.a hl1; clear hl1; obtain ⟨A1, c1, e1⟩ := Kd.R_slice ho; subst e1; have n2_ := G.a (And.intro HF.out.1 (Kd.F_after (by (with_reducible repeat (first | apply Kd.F_alloc | apply Kd.F_drewN | apply Kd.F_drew)); exact HF.out.2) hg hat)); have n3_ := G.a hb; have n1_ := G.a ho; clear HX5 HO7 HF HB ho hb hg hat; have HO7 := n1_; have HF := n2_; have HB := n3_; clear n1_ n2_ n3_; obtain ⟨ad7, e7, hx7⟩ := Kd.at_int (Kd.F_now HF.out.2) i HI.out.1 HI2.out; cases e7; have HX5 := G.a hx7; clear hx7))
           try go_wp2
           go_roundg (gk - 1)
           case measure => have := HJ.out; have := HJ2.out; omega
           case rel =>
            have e1 : NY rows rest i (j + 1) = l1 := by rw [HNY.out, ← HL1'.out]; rw [← HRV.out]; rfl
            refine ⟨wrap64 (j + 1), rfl, ⟨?_⟩, ⟨?_⟩, ⟨?_⟩, ⟨bel⟩⟩
            ·rw [HST.out]; have := HJ.out; have := HJ2.out; omega
            ·rw [HST.out, e1]; exact (G.kR HO7.out)
            ·exact ⟨HF.out.1, by (with_reducible repeat (first | apply Kd.F_alloc | apply Kd.F_drewN | apply Kd.F_drew)); exact HF.out.2⟩
         ·have cb : decide (j < ((rd_L2 rows (rd rest i)).length : Int)) = false := decide_eq_false cj
          have HJ2 := G.a (show j = ((rd_L2 rows (rd rest i)).length : Int) by have := HJ.out; omega)
          clear cj hi4
          go_wp2
          repeat (go_quiet (fail); try go_wp2)
          go_roundg k2
          case measure => omega
          case rel =>
           have hi := HI.out; have hi2 := HI2.out; have hin := HIN.out
           refine ⟨wrap64 (i + 1), rfl, ⟨?_⟩, ⟨?_⟩, ⟨?_⟩, ⟨?_⟩⟩
           ·rw [wsx (n := 1099511627776) (by omega) (by omega) (by omega)]; omega
           ·rw [wsx (n := 1099511627776) (by omega) (by omega) (by omega), NX_next hi.1 hi2]
            have := HJ2.out
            change j = ((img rows (rd rest i)).length : Int) at this
            rw [← this]
            exact (G.kR HO7.out)
           ·exact ⟨HF.out.1, by (with_reducible repeat (first | apply Kd.F_alloc | apply Kd.F_drewN | apply Kd.F_drew)); exact HF.out.2⟩
           ·exact bel
       ·have cb : decide (i < (rest.length : Int)) = false := decide_eq_false ci
        have HI2 := G.a (show i = (rest.length : Int) by have := HI.out; omega)
        clear ci
        obtain ⟨A7, c7, e7⟩ := Kd.R_slice HO7.out
        subst e7
        go_wp2
        go_roundg k1
        case measure => omega
        case rel =>
         have hnx := NX_in HO.out HN.out.2 rest rest.length
         have ht := HT.out
         have ht2 := HT2.out
         have hg := HG.out
         have e1 : NX rows rest (rest.length : Int) = nextAll rows [] rest := by unfold NX; rw [Int.toNat_natCast, List.take_length]
         have e2 : growR rows 0 = (NX rows rest (rest.length : Int)).any (lives rows (rows.length + 1 - (t + 1).toNat)) := by
          rw [hg, e1, show rows.length + 1 - t.toNat = (rows.length + 1 - (t + 1).toNat) + 1 by omega, nextAll_any]
         have en : NX rows rest i = NX rows rest (rest.length : Int) := by rw [HI2.out]
         rw [← en] at hnx e2
         have ho8 := Kd.R_reads' HO7.out
         refine ⟨A7, c7, NX rows rest i, t + 1, rfl, by rw [wsx (n := 1099511627776) (by omega) (by have := HN.out; omega) (by omega)], ⟨by omega⟩, ⟨hnx⟩, ⟨e2⟩, ⟨ho8.2.1, F_of_C ho8.2.2⟩, ⟨bel⟩⟩
     ·have cb : decide (t ≤ (rows.length : Int)) = false := decide_eq_false ct
      have HT2 := G.a (show t = (rows.length : Int) + 1 by have := HT.out; omega)
      clear ct
      go_wp2
      go_ret
      refine ⟨?_, below_step H0.out bel⟩
      have hg := HG.out
      rw [show rows.length + 1 - t.toNat = 0 by have := HT2.out; omega] at hg
      show Ending.returned (Value.bool (decide (0 < rest.length))) = _
      rw [hg]
      congr 2
      cases rest with
      | nil => rfl
      | cons y ys => simp [lives]
   ·have d3 : (rd (rd_L2 rows 0) 0 != 0) = true := bne_iff_ne.mpr c3
    have HG := G.a (show growR rows 0 = false by
     unfold growR
     rw [Bool.and_eq_false_iff]
     left
     rw [decide_eq_false_iff_not]
     rintro ⟨_, _, _, _, h⟩
     exact c3 h)
    clear c3
    go_wp2_with (go_at_call 89; (with_reducible refine hM.mono ?_); rintro e w3 ⟨rfl, hb⟩; have HB3 := G.a hb; clear hb HB; have HB := HB3; clear HB3; obtain ⟨z1, y1⟩ := BX.out _ HB.out; have hx3 := pw_cell_below (below_step H0.out HB.out) HX1.out; have hx5 := pw_cell_below (below_step H0.out HB.out) HX4.out)
    go_ret
    exact ⟨by rw [HG.out]; rfl, below_step H0.out bel⟩
 ·rw [Bool.not_eq_true] at hok
  rw [hok] at hM
  have HG := G.a (show growR rows 0 = false by
   unfold growR
   rw [Bool.and_eq_false_iff]
   left
   rw [decide_eq_false_iff_not]
   rintro ⟨h, _⟩
   rw [hok] at h
   cases h)
  clear hok
  go_wp2_with (go_at_call 89; (with_reducible refine hM.mono ?_); rintro e w3 ⟨rfl, hb⟩; have HB3 := G.a hb; clear hb HB; have HB := HB3; clear HB3)
  go_ret
  exact ⟨by rw [HG.out]; rfl, below_step H0.out bel⟩
end
end Go.Proofs.YtolikggioekalabGreat.PFnRuns
