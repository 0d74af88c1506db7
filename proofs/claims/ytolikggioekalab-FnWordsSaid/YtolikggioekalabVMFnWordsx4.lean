/- The Go functions that the law FnWords reaches (part 4): each as a Lean function, and that its code comes to these answers. No condition beyond those written. -/
import Derived.Test.YtolikggioekalabVGSlim
import Derived.Test.YtolikggioekalabVGPile
import Derived.Test.YtolikggioekalabVMFnWordsx3
import Derived.Test.YtolikggioekalabVMFnWordsx1
import Derived.Test.YtolikggioekalabVMFnWordsx0
import Derived.Test.YtolikggioekalabVMFnWordsx2
namespace Go.Proofs.Ytolikggioekalab.PFnWords
open Go.RowKit Go.Proofs.YtolikggioekalabW.PrintWords Go.Proofs.YtolikggioekalabW.PrintLast Go.Proofs.YtolikggioekalabW.PrintMore
attribute [local go_sem] max2_int min2_int max_two min_two max_three min_three max_four min_four   -- for this text's walks alone
set_option linter.unusedVariables false
set_option linter.unusedSimpArgs false

/-! ### impl_different: the rows sorted in place, what occurs twice left out (own walk over slices.SortFunc's contract) -/
-- lib: GPile
theorem diff_cmp1 (a b : Int) : cmp_Compare_int.f a b = some (if a < b then -1 else if b < a then 1 else 0) := by
 unfold cmp_Compare_int.f cmp_isNaN_int.f
 simp only [Option.bind_some, bne_self_eq_false, Bool.false_eq_true, if_false]
 split
 ·rfl
 ·split <;> rfl
theorem diff_succ {n m : Nat} (h : n < m) (hm : m ≤ 9223372036854775807) : wrap64 ((n : Int) + 1) = ((n + 1 : Nat) : Int) := by
 unfold wrap64; omega
theorem diff_cmp_loop (u v : List Int) (hu : u.length ≤ 9223372036854775807) (d : Nat) : ∀ n : Nat, n + d = u.length → n ≤ v.length →
  Ev (fun k => slices_Compare_int_int.l0 k u v u (u.length : Int) (n : Int)) (G.cmpW (u.drop n) (v.drop n)) := by
 induction d with
 | zero =>
  intro n h h2
  have hn : n = u.length := by omega
  subst hn
  refine G.Ev_succ ?_
  simp only [slices_Compare_int_int.l0]
  refine G.Ev_neg (by omega) ?_
  rw [List.drop_length, G.cmpW_nil_left]
  by_cases c : u.length < v.length
  ·refine G.Ev_pos (by omega) (G.Ev_some ?_)
   rw [if_neg (by simp; omega)]
  ·refine G.Ev_neg (by omega) (G.Ev_some ?_)
   rw [if_pos (by simp; omega)]
 | succ d ih =>
  intro n h h2
  refine G.Ev_succ ?_
  simp only [slices_Compare_int_int.l0]
  refine G.Ev_pos (by omega) (G.Ev_pos (by omega) (G.Ev_pos (by omega) ?_))
  by_cases c : n < v.length
  ·refine G.Ev_neg (by omega) (G.Ev_pos (by omega) ?_)
   simp only [diff_cmp1, Option.bind_some]
   rw [G.rd_cast, G.rd_cast, G.drop_cons u n 0 (by omega), G.drop_cons v n 0 c, G.cmpW_cons, diff_succ (show n < u.length by omega) hu]
   by_cases g : u.getD n 0 < v.getD n 0
   ·rw [if_pos g, if_pos g]
    exact G.Ev_neg (by omega) (Ev.now _)
   ·rw [if_neg g, if_neg g]
    by_cases g2 : v.getD n 0 < u.getD n 0
    ·rw [if_pos g2, if_pos g2]
     exact G.Ev_neg (by omega) (Ev.now _)
    ·rw [if_neg g2, if_neg g2]
     exact G.Ev_pos rfl (ih (n + 1) (by omega) (by omega))
  ·refine G.Ev_pos (by omega) (G.Ev_some ?_)
   rw [List.drop_eq_nil_of_le (show v.length ≤ n by omega), G.cmpW_nil_right, if_neg (by simp; omega)]
theorem diff_cmp_some (u v : List Int) (hu : u.length ≤ 9223372036854775807) : ∃ k, slices_Compare_int_int.f k u v = some (G.cmpW u v) := by
 refine Ev.rounds ?_
 unfold slices_Compare_int_int.f
 exact diff_cmp_loop u v hu _ 0 (Nat.zero_add _) (by omega)
theorem diff_eq_loop (a b : List Int) (hl : a.length = b.length) (hb : a.length ≤ 9223372036854775807) (d : Nat) : ∀ n : Nat, n ≤ a.length → a.length - n = d → a.take n = b.take n →
  Ev (fun k => slices_Equal_int_int.l0 k a b (a.length : Int) (n : Int)) (decide (a = b)) := by
 induction d with
 | zero =>
  intro n h1 h2 h3
  refine G.Ev_succ ?_
  simp only [slices_Equal_int_int.l0]
  refine G.Ev_neg (by omega) (G.Ev_some ?_)
  have : n = a.length := by omega
  subst this
  rw [List.take_length, hl, List.take_length] at h3
  simp [h3]
 | succ d ih =>
  intro n h1 h2 h3
  refine G.Ev_succ ?_
  simp only [slices_Equal_int_int.l0]
  refine G.Ev_pos (by omega) (G.Ev_pos (by omega) (G.Ev_pos (by omega) (G.Ev_pos (by omega) ?_)))
  rw [G.rd_cast, G.rd_cast, diff_succ (show n < a.length by omega) hb]
  refine G.Ev_ite (fun h => ?_) (fun h => G.Ev_some ?_)
  ·refine ih (n + 1) (by omega) (by omega) ?_
   rw [G.take_succ_getD a n 0 (by omega), G.take_succ_getD b n 0 (by omega), h3, h]
  ·symm
   rw [decide_eq_false_iff_not]
   intro e
   exact h (by rw [e])
theorem diff_eq_some (a b : List Int) (hb : a.length ≤ 9223372036854775807) : ∃ k, slices_Equal_int_int.f k a b = some (decide (a = b)) := by
 refine Ev.rounds ?_
 unfold slices_Equal_int_int.f
 refine G.Ev_ite (fun h => ?_) (fun h => G.Ev_some ?_)
 ·exact diff_eq_loop a b (by omega) hb _ 0 (by omega) rfl (by simp)
 ·symm
  rw [decide_eq_false_iff_not]
  intro e
  exact h (by rw [e])

/-- A row's header with what it holds, in whatever world in which w's blocks but g are as they were. -/
structure DRow (w : World) (g : Nat) where
 v : Value
 xs : List Int
 A : Option Addr
 c : Nat
 hv : v = .slice A xs.length c
 hc : xs.length ≤ c
 hm : xs.length ≤ 9223372036854775807
 hC : ∀ W : World, (∀ k, k < w.heap.size → k ≠ g → W.heap[k]? = w.heap[k]?) → Kd.C (Kd.int .i64) W A xs.length xs
instance (w : World) (g : Nat) : Inhabited (DRow w g) := ⟨⟨.slice none 0 0, [], none, 0, rfl, Nat.le_refl _, Nat.zero_le _, fun W _ => Kd.C_nil _ W⟩⟩
theorem DRow.one (w : World) (g : Nat) : OneCell (fun p : DRow w g => p.v) := fun p => by show p.v.oneCell' = true; rw [p.hv]; rfl
def dcmp {w : World} {g : Nat} (p q : DRow w g) : Int := G.cmpW p.xs q.xs
def deq {w : World} {g : Nat} (p q : DRow w g) : Bool := decide (p.xs = q.xs)
theorem dcmp_swo (w : World) (g : Nat) : Go.Sort.SWO (ltOf (dcmp (w := w) (g := g))) where
 irrefl x := by unfold ltOf dcmp; rw [G.cmpW_refl]; rfl
 trans x y z h1 h2 := by
  unfold ltOf dcmp at *
  simp only [decide_eq_true_eq] at *
  exact G.cmpW_trans _ _ _ h1 h2
 ntrans x y z h1 h2 := by
  unfold ltOf dcmp at *
  simp only [decide_eq_false_iff_not] at *
  intro h3
  -- x < z; y ≤ x and z ≤ y
  have a := G.cmpW_anti x.xs y.xs
  have b := G.cmpW_anti y.xs z.xs
  by_cases e : G.cmpW y.xs z.xs = 0
  ·have e' := (G.cmpW_zero _ _).1 e
   rw [e'] at h1
   exact h1 h3
  ·have h4 : G.cmpW z.xs y.xs < 0 := by omega
   exact h1 (G.cmpW_trans _ _ _ h3 h4)
theorem dcmp_calls {w : World} {g : Nat} (p q : DRow w g) (W : World) (hW : ∀ k, k < w.heap.size → k ≠ g → W.heap[k]? = w.heap[k]?) :
  Calls Try.prog 116 #[p.v, q.v] W fun e w' => e = .returned (.int .i64 (dcmp p q)) ∧ Drawn0 W w' := by
 obtain ⟨k, hk⟩ := diff_cmp_some p.xs q.xs p.hm
 rw [p.hv, q.hv]
 exact slices_Compare_int_int.calls k p.A p.c p.xs q.A q.c q.xs _ W (p.hC W hW) p.hc (q.hC W hW) q.hc hk
theorem deq_calls {w : World} {g : Nat} (p q : DRow w g) (W : World) (hW : ∀ k, k < w.heap.size → k ≠ g → W.heap[k]? = w.heap[k]?) :
  Calls Try.prog 118 #[p.v, q.v] W fun e w' => e = .returned (.bool (deq p q)) ∧ Drawn0 W w' := by
 obtain ⟨k, hk⟩ := diff_eq_some p.xs q.xs p.hm
 rw [p.hv, q.hv]
 exact slices_Equal_int_int.calls k p.A p.c p.xs q.A q.c q.xs _ W (p.hC W hW) p.hc (q.hC W hW) q.hc hk
def diff_sort_ren : Go.Shelf.Ren := ⟨fun | 6 => 114 | 15 => 156 | 14 => 159 | 28 => 175 | 29 => 176 | 20 => 177 | 21 => 178 | 22 => 179 | 23 => 180 | 24 => 181 | 25 => 182 | 26 => 183 | 27 => 184 | 46 => 197 | 47 => 193 | 48 => 194 | 49 => 198 | 50 => 199 | 57 => 207 | n => n, fun | 22 => 23 | 24 => 22 | 25 => 68 | 3 => 3 | 39 => 106 | 0 => 0 | 53 => 124 | 55 => 126 | 4 => 4 | 46 => 117 | 45 => 116 | 50 => 121 | 5 => 5 | 9 => 9 | 66 => 141 | 70 => 145 | 76 => 155 | 77 => 56 | n => n, fun | n => n⟩
theorem diff_sort : Go.Proofs.SlLaysF.n6 Try.prog diff_sort_ren :=
 {mixed := by kernel_rfl,
  f6 := ⟨Try.f114.name, by decide, Try.func114.trans (congrArg some (by kernel_rfl))⟩,
  f14 := ⟨Try.f159.name, by decide, Try.func159.trans (congrArg some (by kernel_rfl))⟩,
  f15 := Try.func156.trans (congrArg some (by kernel_rfl)),
  f20 := ⟨Try.f177.name, by decide, Try.func177.trans (congrArg some (by kernel_rfl))⟩,
  f21 := ⟨Try.f178.name, by decide, Try.func178.trans (congrArg some (by kernel_rfl))⟩,
  f22 := ⟨Try.f179.name, by decide, Try.func179.trans (congrArg some (by kernel_rfl))⟩,
  f23 := ⟨Try.f180.name, by decide, Try.func180.trans (congrArg some (by kernel_rfl))⟩,
  f24 := ⟨Try.f181.name, by decide, Try.func181.trans (congrArg some (by kernel_rfl))⟩,
  f25 := ⟨Try.f182.name, by decide, Try.func182.trans (congrArg some (by kernel_rfl))⟩,
  f26 := ⟨Try.f183.name, by decide, Try.func183.trans (congrArg some (by kernel_rfl))⟩,
  f27 := ⟨Try.f184.name, by decide, Try.func184.trans (congrArg some (by kernel_rfl))⟩,
  f28 := Try.func175.trans (congrArg some (by kernel_rfl)),
  f29 := Try.func176.trans (congrArg some (by kernel_rfl)),
  f46 := ⟨Try.f197.name, by decide, Try.func197.trans (congrArg some (by kernel_rfl))⟩,
  f47 := Try.func193.trans (congrArg some (by kernel_rfl)),
  f48 := Try.func194.trans (congrArg some (by kernel_rfl)),
  f49 := ⟨Try.f198.name, by decide, Try.func198.trans (congrArg some (by kernel_rfl))⟩,
  f50 := ⟨Try.f199.name, by decide, Try.func199.trans (congrArg some (by kernel_rfl))⟩,
  f57 := ⟨Try.f207.name, by decide, Try.func207.trans (congrArg some (by kernel_rfl))⟩,
  t0 := Try.underlying0,
  a0 := Try.isAgg0,
  z0 := Try.sizeOf0,
  v0 := Try.zeroValue0,
  t3 := Try.underlying3,
  a3 := Try.isAgg3,
  z3 := Try.sizeOf3,
  v3 := Try.zeroValue3,
  t4 := Try.underlying4,
  a4 := Try.isAgg4,
  z4 := Try.sizeOf4,
  v4 := Try.zeroValue4,
  t5 := Try.underlying5,
  a5 := Try.isAgg5,
  z5 := Try.sizeOf5,
  v5 := Try.zeroValue5,
  t9 := Try.underlying9,
  a9 := Try.isAgg9,
  z9 := Try.sizeOf9,
  v9 := Try.zeroValue9,
  t22 := Try.underlying23,
  a22 := Try.isAgg23,
  z22 := Try.sizeOf23,
  v22 := Try.zeroValue23,
  a24 := Try.isAgg22,
  z24 := Try.sizeOf22,
  t25 := Try.underlying68,
  a25 := Try.isAgg68,
  z25 := Try.sizeOf68,
  v25 := Try.zeroValue68,
  t39 := Try.underlying106,
  a39 := Try.isAgg106,
  z39 := Try.sizeOf106,
  v39 := Try.zeroValue106,
  t45 := Try.underlying116,
  a45 := Try.isAgg116,
  z45 := Try.sizeOf116,
  v45 := Try.zeroValue116,
  t46 := Try.underlying117,
  a46 := Try.isAgg117,
  z46 := Try.sizeOf117,
  v46 := Try.zeroValue117,
  t50 := Try.underlying121,
  a50 := Try.isAgg121,
  z50 := Try.sizeOf121,
  v50 := Try.zeroValue121,
  t53 := Try.underlying124,
  a53 := Try.isAgg124,
  z53 := Try.sizeOf124,
  v53 := Try.zeroValue124,
  t55 := Try.underlying126,
  a55 := Try.isAgg126,
  z55 := Try.sizeOf126,
  v55 := Try.zeroValue126,
  t66 := Try.underlying141,
  a66 := Try.isAgg141,
  z66 := Try.sizeOf141,
  v66 := Try.zeroValue141,
  t70 := Try.underlying145,
  a70 := Try.isAgg145,
  z70 := Try.sizeOf145,
  v70 := Try.zeroValue145,
  t76 := Try.underlying155,
  a76 := Try.isAgg155,
  z76 := Try.sizeOf155,
  v76 := Try.zeroValue155,
  t77 := Try.underlying56,
  a77 := Try.isAgg56,
  z77 := Try.sizeOf56,
  v77 := Try.zeroValue56 }
theorem diff_lays (w : World) (g size : Nat) : CmpLays1 Try.prog 116 #[] (fun p : DRow w g => p.v) dcmp g 0 size w := by
 intro m os dk hs x y
 refine (dcmp_calls x y _ (fun k hk hne => ?_)).mono fun e w' ⟨he, hd⟩ => ?_
 ·have hsz : (Go.Sort.putRow (fun p : DRow w g => p.v) (Go.Sort.ahead w m) g 0 dk).heap.size = w.heap.size := by simp [Go.Sort.putRow, Go.Sort.mapBlock, Go.Sort.ahead]
  unfold sortWorld Go.Sort.grow
  simp only [Array.getElem?_append, hsz, hk, if_true]
  simp only [Go.Sort.putRow, Go.Sort.mapBlock, Array.getElem?_modify, if_neg (Ne.symm hne)]
  rfl
 ·obtain ⟨q, hq⟩ := hd.out
  exact ⟨he, q, #[], by rw [hq, Go.Sort.grow_empty]⟩

theorem list_from {α β : Type} (F : α → β) : ∀ ps : List β, (∀ p ∈ ps, ∃ q, F q = p) → ∃ ds : List α, ds.map F = ps
 | [], _ => ⟨[], rfl⟩
 | p :: ps, h => by
  obtain ⟨q, hq⟩ := h p List.mem_cons_self
  obtain ⟨ds, hd⟩ := list_from F ps (fun x hx => h x (List.mem_cons_of_mem _ hx))
  exact ⟨q :: ds, by rw [List.map_cons, hq, hd]⟩
theorem diff_sorted (w : World) (g cap : Nat) (ds : List (DRow w g)) (t : G.Turned w w g cap 22 (ds.map (·.v))) (hsz : ds.length < 4611686018427387904) :
  Calls Try.prog 114 #[.slice (some ⟨g, 0, none⟩) ds.length cap, .func (.func 116) #[] #[]] w fun e w1 => e = .returned (.tuple #[]) ∧
   ∃ ds' : List (DRow w g), ds'.Perm ds ∧ (∀ i j, i < j → j < ds'.length → 0 ≤ G.cmpW (ds'.getD j default).xs (ds'.getD i default).xs) ∧ G.Turned w w1 g cap 22 (ds'.map (·.v)) := by
 have eg : ∀ args w, (callFunc 116 args).run Try.prog w = .ok (.enter 116 args) w := enters_of Try.func116 (by kernel_rfl) rfl
 obtain ⟨cur, hh, _, _⟩ := t.row
 have hH : Go.Sort.Holds (fun p : DRow w g => p.v) w g 0 ds.toArray := by
  intro j hj
  have hj' : j < ds.length := by simpa using hj
  have := t.cell j (default : DRow w g).v (by simpa using hj')
  rw [Nat.zero_add]
  refine ⟨this.1.trans ?_, this.2⟩
  congr 1
  rw [G.getD_eq (by simpa using hj'), getElem!_pos _ j hj]
  simp
 have hs := Any.slices_SortFunc diff_sort (fun p : DRow w g => p.v) (DRow.one w g) dcmp (dcmp_swo w g) 116 #[] g 0 cap ds.toArray w eg (diff_lays w g ds.toArray.size) hH (blk_lt hh) (by simpa using hsz)
 change Calls Try.prog 114 #[.slice (some ⟨g, 0, none⟩) ds.toArray.size cap, .func (.func 116) #[] #[]] w _ at hs
 rw [List.size_toArray] at hs
 refine hs.mono fun e w1 ⟨he, d', n, os, hp, hsrt, hw⟩ => ⟨he, d'.toList, ?_, ?_, ?_⟩
 ·obtain ⟨h1, _, h3⟩ := hp
  have e1 : d'.extract 0 ds.length = d' := by
   rw [Array.extract_eq_self_of_le]
   simp at h1
   omega
  have e2 : ds.toArray.extract 0 ds.length = ds.toArray := by
   rw [Array.extract_eq_self_of_le]
   simp
  change (d'.extract 0 ds.length).toList.Perm (ds.toArray.extract 0 ds.length).toList at h3
  rw [e1, e2] at h3
  exact h3
 ·intro i j hij hj
  have hj' : j < d'.size := by simpa using hj
  have hsz' : d'.size = ds.length := by simpa using hp.1
  have := hsrt i j (Nat.zero_le _) hij (by omega)
  unfold ltOf dcmp at this
  rw [decide_eq_false_iff_not, getElem!_pos _ j hj', getElem!_pos _ i (by omega)] at this
  rw [G.getD_eq hj, G.getD_eq (show i < d'.toList.length by simp; omega)]
  simp only [Array.getElem_toList]
  omega
 ·rw [hw]
  exact t.sorted n d' os (by rw [List.length_map]; have := hp.1; simp at this; omega)
theorem getD_v {w : World} {g : Nat} (ds : List (DRow w g)) (k : Nat) : (ds.map (·.v)).getD k (default : DRow w g).v = (ds.getD k default).v := by
 rw [List.getD_eq_getElem?_getD, List.getD_eq_getElem?_getD, List.getElem?_map]
 cases ds[k]? <;> rfl
theorem Turned0 {w W : World} {g cap er : Nat} {hs : List Value} (h : G.Turned w W g cap er hs) (vs : List Value) (o : Nat) (ho : hs.length ≤ o) : G.Turned w (W.setCells g o vs) g cap er hs := G.Turned.setCells vs o h ho
theorem Cp0.mk' {α : Type} {eq : α → α → Bool} {z : α} {l : List α} {k : Nat} (hk : k < l.length) (hall : ∀ j, j < k → G.stays eq z l j = true) (hdup : G.stays eq z l k = false) :
  G.Cp eq z l (k + 1) l ∧ (G.stayed eq z l (k + 1)).length = k := G.Cp.start hk hall hdup
set_option maxHeartbeats 4000000 in
set_option maxRecDepth 1000000 in
theorem diff_compacted (w W : World) (g cap : Nat) (ds : List (DRow w g)) (t : G.Turned w W g cap 22 (ds.map (·.v))) (hsz : ds.length < 4611686018427387904) :
  Calls Try.prog 117 #[.slice (some ⟨g, 0, none⟩) ds.length cap, .func (.func 118) #[] #[]] W fun e W' =>
   e = .returned (.slice (some ⟨g, 0, none⟩) (G.stayed deq default ds ds.length).length cap) ∧ G.Turned w W' g cap 22 ((G.stayed deq default ds ds.length).map (·.v)) := by
 have hcap := t.len
 rw [List.length_map] at hcap
 have T0 := Aside0.mk t
 clear t
 by_cases h2 : ds.length < 2
 ·go_enter Try.func117, Try.ntmps117
  go_wp2
  go_ret
  have e : G.stayed deq default ds ds.length = ds := by
   rw [G.stayed_take deq default ds _ (Nat.le_refl _) (fun j hj => (by have e0 : j = 0 := (by omega); rw [e0]; exact G.stays_first _ _ _)), List.take_length]
  rw [e]
  exact ⟨rfl, T0.out⟩
 ·go_enter Try.func117, Try.ntmps117
  go_wp2
  go_loopg [5] ds.length (fun gk s3 wr => ∃ k : Nat, 1 ≤ k ∧ k ≤ ds.length ∧ ds.length - k ≤ gk ∧ s3 = .int .i64 k ∧ Aside0 (G.Turned w wr g cap 22 (ds.map (·.v))) ∧ Aside0 (∀ j, j < k → G.stays deq default ds j = true))
  case atStart => exact ⟨1, Nat.le_refl _, by omega, by omega, rfl, T0, ⟨fun j hj => (by have e0 : j = 0 := (by omega); rw [e0]; exact G.stays_first _ _ _)⟩⟩
  case round =>
   obtain ⟨k, hk1, hk, hg, rfl, HT, HA⟩ := hrel
   by_cases hlt : k < ds.length
   ·obtain ⟨c1, f1⟩ := HT.out.cell k (default : DRow w g).v (by rw [List.length_map]; exact hlt)
    obtain ⟨c0, f0⟩ := HT.out.cell (k - 1) (default : DRow w g).v (by rw [List.length_map]; omega)
    rw [getD_v] at c1 c0
    clear f1 f0
    have HD : ∀ q, Calls Try.prog 118 #[(ds.getD k default).v, (ds.getD (k - 1) default).v] (wr.drewN q) fun e w' => e = .returned (.bool (deq (ds.getD k default) (ds.getD (k - 1) default))) ∧ ∃ m, w' = (wr.drewN q).drewN m := fun q => (deq_calls (ds.getD k default) (ds.getD (k - 1) default) (wr.drewN q) (fun j hj hne => HT.out.block j hj hne)).mono (fun _ _ h => ⟨h.1, h.2.out⟩)
    have HB : Aside0 (∀ b, deq (ds.getD k default) (ds.getD (k - 1) default) = b → b = true ∨ G.stays deq default ds k = true) := ⟨fun b hb => by cases b with
     | true => exact .inl rfl
     | false => exact .inr (G.stays_yes hb)⟩
    have HE : Aside0 (∀ b, deq (ds.getD k default) (ds.getD (k - 1) default) = b → b = false ∨ G.stays deq default ds k = false) := ⟨fun b hb => by cases b with
     | true => exact .inr (G.stays_no (by omega) hb)
     | false => exact .inl rfl⟩
    have hw1 : IntKind.i64.wrap ((k : Int) - 1) = (k : Int) - 1 := by unfold IntKind.wrap; simp [IntKind.bits, IntKind.signed]; omega
    have hw2 : 0 ≤ (k : Int) - 1 := by omega
    have hw3 : ((k : Int) - 1).toNat = k - 1 := by omega
    have hw4 : (k : Int) - 1 < (ds.length : Int) := by omega
    generalize hb : deq (ds.getD k default) (ds.getD (k - 1) default) = b at HD
    have HBb := HB.out b hb
    have HEb := HE.out b hb
    clear HB HE hb
    generalize (ds.getD k default).v = xv at c1 HD
    generalize (ds.getD (k - 1) default).v = yv at c0 HD
    have HBb' := Aside0.mk HBb
    have HEb' := Aside0.mk HEb
    clear HBb HEb
    cases b with
    | true =>
     go_wp2_with fail
     go_quiet ((go_at_call 118; exact Calls.quiet_of (HD _)))
     go_wp2
     have HN := HEb'.out.resolve_left (by simp)
     have HS := Cp0.mk' hlt HA.out HN
     have HS0 := Aside0.mk HS.1
     have HS1 := HS.2
     have HT2 := Aside0.mk (HT.out.drewN nq)
     clear c1 c0 HD HBb' HEb' HN HS HT HA hw1 hw2 hw3 hw4
     generalize hwq : wr.drewN nq = wq at HT2
     clear hwq
     go_loopg [5, 7] ds.length (fun gk s5 s7 w2 => ∃ (kk k2 : Nat) (cur : List (DRow w g)), s5 = .int .i64 kk ∧ s7 = .int .i64 k2 ∧ 1 ≤ k2 ∧ k + k2 ≤ ds.length ∧ ds.length - (k + k2) ≤ gk ∧ kk < k + k2 ∧ Aside0 (G.Turned w w2 g cap 22 (cur.map (·.v))) ∧ Aside0 (G.Cp deq default ds (k + k2) cur) ∧ Aside0 (kk = (G.stayed deq default ds (k + k2)).length))
     case atStart => exact ⟨k, 1, ds, rfl, rfl, Nat.le_refl _, by omega, by omega, by omega, HT2, HS0, ⟨HS1.symm⟩⟩
     case round =>
      obtain ⟨kk, k2, cur, rfl, rfl, h1, hle, hg2, hkk, HT3, HC, HK⟩ := hrel
      have hcs := HC.out.size hle
      by_cases hlt2 : k + k2 < ds.length
      ·obtain ⟨cm, _⟩ := HT3.out.cell (k + k2) (default : DRow w g).v (by rw [List.length_map, hcs]; exact hlt2)
       obtain ⟨cp, _⟩ := HT3.out.cell (k + (k2 - 1)) (default : DRow w g).v (by rw [List.length_map, hcs]; omega)
       obtain ⟨ck, fk⟩ := HT3.out.cell kk (default : DRow w g).v (by rw [List.length_map, hcs]; omega)
       rw [getD_v, HC.out.high (k + k2) (by rw [← HK.out]; omega)] at cm
       rw [getD_v, HC.out.high (k + (k2 - 1)) (by rw [← HK.out]; omega)] at cp
       clear hcs
       have hkm : k + k2 - 1 = k + (k2 - 1) := by omega
       have HD : ∀ q, Calls Try.prog 118 #[(ds.getD (k + k2) default).v, (ds.getD (k + (k2 - 1)) default).v] (wr.drewN q) fun e w' => e = .returned (.bool (deq (ds.getD (k + k2) default) (ds.getD (k + (k2 - 1)) default))) ∧ ∃ m, w' = (wr.drewN q).drewN m := fun q => (deq_calls (ds.getD (k + k2) default) (ds.getD (k + (k2 - 1)) default) (wr.drewN q) (fun j hj hne => HT3.out.block j hj hne)).mono (fun _ _ h => ⟨h.1, h.2.out⟩)
       have HBE : Aside0 (∀ b, deq (ds.getD (k + k2) default) (ds.getD (k + (k2 - 1)) default) = b → G.stays deq default ds (k + k2) = !b) := ⟨fun b hb => by cases b with
        | true => exact G.stays_no (by omega) (by rw [hkm]; exact hb)
        | false => exact G.stays_yes (by rw [hkm]; exact hb)⟩
       have hw1 : IntKind.i64.wrap ((k2 : Int) - 1) = (k2 : Int) - 1 := by unfold IntKind.wrap; simp [IntKind.bits, IntKind.signed]; omega
       have hw2 : 0 ≤ (k2 : Int) - 1 := by omega
       have hw3 : ((k2 : Int) - 1).toNat = k2 - 1 := by omega
       have hw4 : (k2 : Int) - 1 < ((ds.length - k : Nat) : Int) := by omega
       have hw5 : (k2 : Int) < ((ds.length - k : Nat) : Int) := by omega
       have hw6 : k2 < ds.length - k := by omega
       have hw7 : k2 - 1 < ds.length - k := by omega
       clear hkm
       generalize hb : deq (ds.getD (k + k2) default) (ds.getD (k + (k2 - 1)) default) = b at HD
       have HN := Aside0.mk (HBE.out b hb)
       clear HBE hb
       obtain ⟨Ax, nx, cx, ex⟩ : ∃ A n c, (ds.getD (k + k2) default).v = .slice A n c := ⟨_, _, _, (ds.getD (k + k2) default).hv⟩
       obtain ⟨Ay, ny, cy, ey⟩ : ∃ A n c, (ds.getD (k + (k2 - 1)) default).v = .slice A n c := ⟨_, _, _, (ds.getD (k + (k2 - 1)) default).hv⟩
       rw [ex] at cm HD
       rw [ey] at cp HD
       have EX := Aside0.mk ex
       clear ex ey
       generalize (cur.map (·.v)).getD kk (default : DRow w g).v = old at ck
       cases b with
       | true =>
        clear ck fk
        go_wp2_with fail
        go_quiet ((go_at_call 118; exact Calls.quiet_of (HD _)))
        go_wp2
        have HS := HC.out.skip HN.out
        go_roundg (ds.length - (k + (k2 + 1)))
        case measure => omega
        case rel => exact ⟨kk, k2 + 1, cur, rfl, by go_num, by omega, by omega, Nat.le_refl _, by omega, ⟨HT3.out.drewN nq⟩, ⟨HS.1⟩, ⟨HK.out.trans HS.2.symm⟩⟩
       | false =>
        go_wp2_with fail
        go_quiet ((go_at_call 118; exact Calls.quiet_of (HD _)))
        go_wp2
        have HS := HC.out.keep hlt2 HN.out
        rw [← HK.out] at HS
        have HT4 := (HT3.out.drewN nq).setCell kk (.slice Ax nx cx)
        go_roundg (ds.length - (k + (k2 + 1)))
        case measure => omega
        case rel => exact ⟨kk + 1, k2 + 1, cur.set kk (ds.getD (k + k2) default), by go_num, by go_num, by omega, by omega, Nat.le_refl _, by omega, ⟨by rw [List.map_set, EX.out]; exact HT4⟩, ⟨HS.1⟩, ⟨HS.2.symm⟩⟩
      ·have hend : k + k2 = ds.length := by omega
       have hcl : ∀ ty, (Builtin.clear_ #[23] ty #[.slice (some ⟨g, kk, none⟩) (ds.length - kk) (cap - kk)]).run Try.prog wr = .ok (.tuple #[]) (wr.setCells g kk (List.replicate (ds.length - kk) (.slice none 0 0))) :=
        fun ty => Lib.run_clear_slice wr _ _ ty _ Try.underlying23 Try.zeroValue22 rfl rfl g kk _ _ (by omega) (fun j hj => by rw [(HT3.out.cell (kk + j) (.slice none 0 0) (by rw [List.length_map, hcs]; omega)).1]; rfl) (fun j hj => (HT3.out.cell (kk + j) (.slice none 0 0) (by rw [List.length_map, hcs]; omega)).2)
       have HCS := Aside0.mk hcs
       clear hcs
       go_wp2
       go_ret
       have hK := HK.out
       rw [hend] at hK
       have hcur := HC.out.1
       rw [hend] at hcur
       refine ⟨by rw [← hK]; rfl, ?_⟩
       have e1 : (cur.map (·.v)).take kk = (G.stayed deq default ds ds.length).map (·.v) := by
        rw [← List.map_take]
        conv => lhs; rw [hcur, hK, List.take_left]
       have := Turned0 (HT3.out.take kk) (List.replicate (ds.length - kk) (.slice none 0 0)) kk (by rw [List.length_take]; omega)
       rwa [e1] at this
    | false =>
     go_wp2_with fail
     go_quiet ((go_at_call 118; exact Calls.quiet_of (HD _)))
     go_wp2
     go_roundg (ds.length - (k + 1))
     case measure => omega
     case rel =>
      have HN := HBb'.out.resolve_left (by simp)
      refine ⟨k + 1, by omega, by omega, Nat.le_refl _, by go_num, ⟨HT.out.drewN nq⟩, ⟨fun j hj => ?_⟩⟩
      by_cases e : j = k
      ·rw [e]; exact HN
      ·exact HA.out j (by omega)
   ·have hke : k = ds.length := by omega
    subst hke
    go_wp2
    go_ret
    have e : G.stayed deq default ds ds.length = ds := by
     rw [G.stayed_take deq default ds _ (Nat.le_refl _) HA.out, List.take_length]
    rw [e]
    exact ⟨rfl, HT.out⟩
def impl_different.f (k : Nat) (l0 : List (List Int)) : Option (List (List Int)) := if l0.length < 4611686018427387904 then some (G.canon l0) else none
theorem diff_short (W : World) (A : Option Addr) (cap : Nat) :
  Calls Try.prog 117 #[.slice A 0 cap, .func (.func 118) #[] #[]] W fun e W' => e = .returned (.slice A 0 cap) ∧ W' = W := by
 go_enter Try.func117, Try.ntmps117
 go_wp2
 go_ret
 exact ⟨rfl, rfl⟩
set_option maxHeartbeats 4000000 in
set_option maxRecDepth 100000 in
theorem impl_different.calls (k : Nat) (P0_ : Nat → Prop) (v : Value) (l0 : List (List Int)) (r : List (List Int)) (w0 w : World) (hB : Below w0.heap.size w0 w) (ho : Kd.S (Kd.slice 3 (Kd.int .i64)) 22 w w0.heap.size P0_ v l0) (h : impl_different.f k l0 = some r) :
  Calls Try.prog 100 #[v] w fun e w' => ∃ v', e = .returned v' ∧ Kd.S (Kd.slice 3 (Kd.int .i64)) 22 w' w0.heap.size P0_ v' r ∧ Below w0.heap.size w0 w' ∧ Kept w w' (fun k_ => P0_ k_) := by
 unfold impl_different.f at h
 by_cases hsz : l0.length < 4611686018427387904
 ·rw [if_pos hsz] at h
  have hr := (Option.some.inj h).symm
  clear h
  rcases Nat.eq_zero_or_pos l0.length with hz | hpos
  ·obtain rfl : l0 = [] := List.length_eq_zero_iff.1 hz
   obtain ⟨A, c, rfl⟩ := Kd.S_slice ho
   have hs := AnyF.slices_SortFunc_none { diff_sort with } A c (.func (.func 116) #[] #[]) w
   change Calls Try.prog 114 #[.slice A 0 c, .func (.func 116) #[] #[]] w _ at hs
   have hc := diff_short w A c
   have HO := Aside0.mk ho
   have HB := Aside0.mk hB
   have HR := Aside0.mk hr
   clear ho hB hr hz hsz
   show Calls Try.prog 100 #[.slice A 0 c] w _
   go_enter Try.func100, Try.ntmps100
   go_wp2_with (first | (go_at_call 114; refine hs.mono ?_; rintro e w' ⟨rfl, rfl⟩) | (go_at_call 117; refine hc.mono ?_; rintro e w' ⟨rfl, rfl⟩))
   go_ret
   refine ⟨_, rfl, ?_, HB.out, Kept.refl _ _⟩
   rw [HR.out]
   exact HO.out
  ·obtain ⟨g, cap, rfl, hbase, hlt, _⟩ := Kd.S_form ho hpos
   obtain ⟨ps, hps, hP⟩ := G.Pile_of_S ho
   have hpl : ps.length = l0.length := by rw [← hps, List.length_map]
   have hds : ∃ ds : List (DRow w g), ds.map (fun q => (q.v, q.xs)) = ps := by
    refine list_from _ _ (fun p hp => ?_)
    have hR := hP.2.2.1 p hp
    have hC : ∀ W : World, (∀ k, k < w.heap.size → k ≠ g → W.heap[k]? = w.heap[k]?) → ∃ A c, p.1 = .slice A p.2.length c ∧ p.2.length ≤ c ∧ Kd.C (Kd.int .i64) W A p.2.length p.2 := fun W hW =>
     Kd.R_reads (Kd.R_step hR (fun k hk hkl => hW k hkl (fun e => hk.2 (by rw [e]; rfl))))
    obtain ⟨A, c, e, hc, hCw⟩ := hC w (fun _ _ _ => rfl)
    refine ⟨⟨p.1, p.2, A, c, e, hc, hCw.2.1, fun W hW => ?_⟩, rfl⟩
    obtain ⟨A', c', e', _, h'⟩ := hC W hW
    rw [e] at e'
    injection e' with ea _ _
    rw [ea]
    exact h'
   obtain ⟨ds, hds⟩ := hds
   have hv : ds.map (·.v) = ps.map (·.1) := by rw [← hds, List.map_map]; rfl
   have hx : ds.map (·.xs) = l0 := by rw [← hps, ← hds, List.map_map]; rfl
   have hdl : ds.length = l0.length := by rw [← hx, List.length_map]
   have hT : G.Turned w w g cap 22 (ds.map (·.v)) := by
    rw [hv]
    have := hP.2.1
    rw [hpl] at this
    exact G.Turned.start this
   have hs := diff_sorted w g cap ds hT (by omega)
   have hc := fun (ds' : List (DRow w g)) (W : World) (t : G.Turned w W g cap 22 (ds'.map (·.v))) (hl : ds'.length = l0.length) => (diff_compacted w W g cap ds' t (by omega))
   rw [hdl] at hs
   have HC := Aside0.mk (show ∀ (ds' : List (DRow w g)) (W : World) (t : G.Turned w W g cap 22 (ds'.map (·.v))) (hl : ds'.length = l0.length), Calls Try.prog 117 #[.slice (some ⟨g, 0, none⟩) l0.length cap, .func (.func 118) #[] #[]] W fun e W' =>
    e = .returned (.slice (some ⟨g, 0, none⟩) (G.stayed deq default ds' ds'.length).length cap) ∧ G.Turned w W' g cap 22 ((G.stayed deq default ds' ds'.length).map (·.v)) from fun ds' W t hl => by rw [← hl]; exact diff_compacted w W g cap ds' t (by omega))
   have HEND : Aside0 (∀ (ds' : List (DRow w g)) (W' : World), ds'.Perm ds → (∀ i j, i < j → j < ds'.length → 0 ≤ G.cmpW (ds'.getD j default).xs (ds'.getD i default).xs) → G.Turned w W' g cap 22 ((G.stayed deq default ds' ds'.length).map (·.v)) →
     Kd.S (Kd.slice 3 (Kd.int .i64)) 22 W' w0.heap.size P0_ (.slice (some ⟨g, 0, none⟩) (G.stayed deq default ds' ds'.length).length cap) r ∧ Below w0.heap.size w0 W' ∧ Kept w W' (fun k_ => P0_ k_)) := by
    refine ⟨fun ds' W' hperm hsrt hT' => ?_⟩
    have hkeys := G.stayed_keys (key := fun p : DRow w g => p.xs) (z := default) (l := ds') (eq := deq) (fun x y => rfl) hsrt ds'.length (Nat.le_refl _)
    rw [List.take_length] at hkeys
    have hsub := G.stayed_sub deq default ds' ds'.length (Nat.le_refl _)
    rw [List.take_length] at hsub
    generalize G.stayed deq default ds' ds'.length = st at hkeys hsub hT'
    have hres : r = st.map (·.xs) := by
     rw [hr]
     refine (G.canon_eq hkeys.1 (fun x => ?_)).symm
     rw [hkeys.2 x, ← hx]
     exact (hperm.map _).mem_iff
    have hP2 : (ds'.map (fun q => (q.v, q.xs))).Perm ps := by rw [← hds]; exact hperm.map _
    have hpw : (st.map (fun q => (q.v, q.xs))).Pairwise (fun a b => ∀ k, a.1.ownBlock = some k → b.1.ownBlock ≠ some k) := by
     have h1 : (ds'.map (fun q => (q.v, q.xs))).Pairwise (fun a b => ∀ k, a.1.ownBlock = some k → b.1.ownBlock ≠ some k) :=
      (hP2.pairwise_iff (fun {a b} hab k h1 h2 => hab k h2 h1)).2 hP.2.2.2
     exact h1.sublist (hsub.map _)
    have hT2 : G.Turned w W' g cap 22 ((st.map (fun q => (q.v, q.xs))).map (·.1)) := by rw [List.map_map]; exact hT'
    have hF := G.Pile.turned hP hT2 (fun p hp => hP2.mem_iff.1 ((hsub.map _).subset hp)) hpw
    have hS := hF.toS
    rw [List.length_map, List.map_map] at hS
    refine ⟨?_, ?_, ?_, ?_⟩
    ·rw [hres]; exact hS
    ·exact hB.trans ⟨hT'.os, hT'.tape, hT'.output, hT'.size, fun k hk => hT'.block k (Nat.lt_of_lt_of_le hk hB.size) (by omega)⟩
    ·exact hT'.size
    ·exact fun i hi hn => hT'.block i hi (fun e => hn (hP.1 i (by rw [e]; rfl)))
   clear hc hT hv hx hds hpl hP hps hr ho hB
   have HL := Aside0.mk hdl
   clear hdl hsz hpos hbase hlt
   go_enter Try.func100, Try.ntmps100
   go_wp2_with (first | (go_at_call 114; refine hs.mono ?_; rintro e w1 ⟨rfl, ds', hperm, hsrt, hT1⟩; have HP := Aside0.mk hperm; have HSR := Aside0.mk hsrt; have hcc := HC.out ds' w1 hT1 (by rw [hperm.length_eq]; exact HL.out); clear hperm hsrt hT1) | (go_at_call 117; refine hcc.mono ?_; rintro e w2 ⟨rfl, hT2⟩; have HT2 := Aside0.mk hT2; clear hT2))
   go_ret
   exact ⟨_, rfl, HEND.out ds' _ HP.out HSR.out HT2.out⟩
 ·rw [if_neg hsz] at h
  cases h

/-! ### impl_parts: function 102 -/
def impl_parts.l0 : Nat → List Int → Int → List (List Int) → Int → Option ((List (List Int)))
 | 0, _, _, _, _ => none
 | k + 1, x0, x1, x5, x6 => if (wrap64 (x6 + x1)) ≤ (x0.length : Int) then ((some (([] : List Int) : List Int)).bind fun y202 => (if 0 ≤ x6 then (if x6 ≤ (wrap64 (x6 + x1)) then (if y202.length + ((x0.take ((wrap64 (x6 + x1)) : Int).toNat).drop (x6 : Int).toNat).length < 17592186044416 then (if x5.length < 5864062014805 then (impl_parts.l0 k x0 x1 (x5 ++ [(y202 ++ ((x0.take ((wrap64 (x6 + x1)) : Int).toNat).drop (x6 : Int).toNat))]) (wrap64 (x6 + 1))) else (none)) else (none)) else (none)) else (none))) else ((impl_different.f k x5).bind fun t212 => (some t212))
def impl_parts.f (k : Nat) (l0 : List Int) (a1 : Int) : Option ((List (List Int))) := impl_parts.l0 k l0 a1 (([] : List (List Int))) 0
set_option maxHeartbeats 8000000 in
set_option maxRecDepth 100000 in
theorem impl_parts.calls (k : Nat) (A0 : Option Addr) (c0 : Nat) (l0 : List Int) (a1 : Int) (r : List (List Int)) (w : World) (hr0 : Kd.C (Kd.int .i64) w A0 l0.length l0) (hc0 : l0.length ≤ c0) (h : impl_parts.f k l0 a1 = some r) :
  Calls Try.prog 102 #[.slice A0 l0.length c0, .int .i64 a1] w fun e w' => ∃ v0_ : Value, e = .returned (v0_) ∧ Kd.S (Kd.slice 3 (Kd.int .i64)) 22 w' w.heap.size (fun _ => True) v0_ r ∧ Below w.heap.size w w' := by
 have HR0 := Aside0.mk hr0
 have HC0 := Aside0.mk hc0
 clear hr0 hc0
 have HB := Aside0.mk (Below.refl w.heap.size w)
 have H : (impl_parts.l0 k l0 a1 (([] : List (List Int))) 0) = some r := h
 clear h
 obtain ⟨y199, hy199⟩ : ∃ y_ : List (List Int), y_ = (([] : List (List Int))) := ⟨_, rfl⟩
 replace H : (impl_parts.l0 k l0 a1 y199 0) = some r := by first | (rw [hy199]; with_reducible exact H) | (have H2_ := (Option.bind_some _ _).symm.trans H; rw [hy199]; with_reducible exact H2_) | (have H2_ := (Option.bind_some _ _).symm.trans H; with_reducible exact H2_) | with_reducible exact H | (rw [hy199]; exact H) | exact H
 have Ny199 := Aside0.mk hy199
 clear hy199
 have H' := Aside0.mk H
 clear H
 go_enter Try.func102, Try.ntmps102
 go_wp2_with (first | ((with_reducible refine gate_dst (N := 7) rfl ?_); refine Kd.S_lit (Kd.slice 3 (Kd.int .i64)) _ 22 ?hg (N := 7) ?hd (xs := ([] : List (List Int))) (inner := []) (ok := fun _ => True) (okp := fun _ => True) ?hr ?hp (fun _ hk => hk) trivial (Below.refl _ _) (Nat.le_refl _) (by simp) ?_; (case hd => rfl); (case hg => rfl); (case hr => first | (go_simp; done) | (go_simp; rfl)); (case hp => exact (Reps.none _ _)); intro v200 w3 ho4 hb hg_ hnew_; clear hg_ hnew_; (first | rw [← Ny199.out] at ho4 | (simp only [Int.reduceToNat] at ho4; rw [← Ny199.out] at ho4)); have n0_ := Aside0.mk (Kd.S_lower ho4 (below_size G.bel)); have n1_ := Aside0.mk (below_step G.bel hb); clear HB; have HO201 := n0_; have HB := n1_; clear n0_ n1_; clear hb ho4))
 go_loopg [5, 6] k (fun kq v5 v6 w' => ∃ (x5_1 : List (List Int)) (x6_1 : Int), v6 = .int .i64 x6_1 ∧ Aside0 (impl_parts.l0 kq l0 a1 x5_1 x6_1 = some r) ∧ Aside0 (kq ≤ k) ∧ Aside0 (Kd.S (Kd.slice 3 (Kd.int .i64)) 22 w' w.heap.size (fun _ => True) v5 x5_1) ∧ Aside0 (Below w.heap.size w w'))
 case atStart => exact ⟨(y199), (0), G.tr, H', ⟨Nat.le_refl _⟩, ⟨G.kS HO201.out⟩, ⟨G.bel⟩⟩
 case round =>
  clear H'
  try clear c1; try clear p2
  obtain ⟨x5_1, x6_1, rfl, HA, HK1, HO_5, HB⟩ := hrel
  cases gk with
  | zero => exact absurd HA.out (by simp [impl_parts.l0])
  | succ k1 =>
   have H := HA.out
   clear HA
   simp only [impl_parts.l0] at H
   by_cases c5 : (wrap64 (x6_1 + a1)) ≤ (l0.length : Int)
   ·rw [if_pos c5] at H
    have c5b0 : decide ((wrap64 (x6_1 + a1)) ≤ (l0.length : Int)) = true := decide_eq_true c5
    clear c5
    obtain ⟨y202, hy202⟩ : ∃ y_ : List Int, y_ = (([] : List Int)) := ⟨_, rfl⟩
    replace H : (if 0 ≤ x6_1 then (if x6_1 ≤ (wrap64 (x6_1 + a1)) then (if y202.length + ((l0.take ((wrap64 (x6_1 + a1)) : Int).toNat).drop (x6_1 : Int).toNat).length < 17592186044416 then (if x5_1.length < 5864062014805 then (impl_parts.l0 k1 l0 a1 (x5_1 ++ [(y202 ++ ((l0.take ((wrap64 (x6_1 + a1)) : Int).toNat).drop (x6_1 : Int).toNat))]) (wrap64 (x6_1 + 1))) else (none)) else (none)) else (none)) else (none)) = some r := by first | (rw [hy202]; with_reducible exact H) | (have H2_ := (Option.bind_some _ _).symm.trans H; rw [hy202]; with_reducible exact H2_) | (have H2_ := (Option.bind_some _ _).symm.trans H; with_reducible exact H2_) | with_reducible exact H | (rw [hy202]; exact H) | exact H
    have Ny202 := Aside0.mk hy202
    clear hy202
    by_cases c6 : 0 ≤ x6_1
    ·rw [if_pos c6] at H
     have c6b0 := eq_true c6
     have c6b1 : decide (0 ≤ x6_1) = true := decide_eq_true c6
     clear c6
     by_cases c7 : x6_1 ≤ (wrap64 (x6_1 + a1))
     ·rw [if_pos c7] at H
      have c7b0 := eq_true c7
      have c7b1 : decide (x6_1 ≤ (wrap64 (x6_1 + a1))) = true := decide_eq_true c7
      have c8b0 := eq_true (G.odt : (wrap64 (x6_1 + a1)) ≤ (l0.length : Int))
      by_cases c9 : y202.length + ((l0.take ((wrap64 (x6_1 + a1)) : Int).toNat).drop (x6_1 : Int).toNat).length < 17592186044416
      ·rw [if_pos c9] at H
       have LMc9 := Aside0.mk c9
       clear c9
       obtain ⟨y206, hy206⟩ : ∃ y_ : List Int, y_ = (y202 ++ ((l0.take ((wrap64 (x6_1 + a1)) : Int).toNat).drop (x6_1 : Int).toNat)) := ⟨_, rfl⟩
       replace H : (if x5_1.length < 5864062014805 then (impl_parts.l0 k1 l0 a1 (x5_1 ++ [y206]) (wrap64 (x6_1 + 1))) else (none)) = some r := by first | (rw [hy206]; with_reducible exact H) | (have H2_ := (Option.bind_some _ _).symm.trans H; rw [hy206]; with_reducible exact H2_) | (have H2_ := (Option.bind_some _ _).symm.trans H; with_reducible exact H2_) | with_reducible exact H | (rw [hy206]; exact H) | exact H
       have Ny206 := Aside0.mk hy206
       clear hy206
       by_cases c10 : x5_1.length < 5864062014805
       ·rw [if_pos c10] at H
        have LMc10 := Aside0.mk c10
        clear c10
        obtain ⟨y209, hy209⟩ : ∃ y_ : List (List Int), y_ = (x5_1 ++ [y206]) := ⟨_, rfl⟩
        replace H : (impl_parts.l0 k1 l0 a1 y209 (wrap64 (x6_1 + 1))) = some r := by first | (rw [hy209]; with_reducible exact H) | (have H2_ := (Option.bind_some _ _).symm.trans H; rw [hy209]; with_reducible exact H2_) | (have H2_ := (Option.bind_some _ _).symm.trans H; with_reducible exact H2_) | with_reducible exact H | (rw [hy209]; exact H) | exact H
        have Ny209 := Aside0.mk hy209
        clear hy209
        have H' := Aside0.mk H
        clear H
        go_wp2_with (first | ((with_reducible refine gate_dst (N := 17) rfl ?_); refine Kd.R_lit (Kd.int .i64) _ 3 ?hg (N := 17) ?hd (xs := ([] : List Int)) (inner := []) (ok := fun _ => True) (okp := fun _ => True) ?hr ?hp (fun _ hk => hk) trivial (Below.refl _ _) (Nat.le_refl _) (by simp) ?_; (case hd => rfl); (case hg => rfl); (case hr => first | (go_simp; done) | (go_simp; rfl)); (case hp => exact (Reps.none _ _)); intro v203 w11 ho12 hb hg_ hnew_; clear hg_ hnew_; (first | rw [← Ny202.out] at ho12 | (simp only [Int.reduceToNat] at ho12; rw [← Ny202.out] at ho12)); have n0_ := Aside0.mk (Kd.S_elder' (G.kS HO_5.out) (Kd.R_base ho12) hb); have n1_ := Aside0.mk (Kd.R_lower ho12 (below_size G.bel)); have n2_ := Aside0.mk (below_step G.bel hb); clear HO_5; clear HB; have HO_5 := n0_; have HO204 := n1_; have HB := n2_; clear n0_ n1_ n2_; clear hb ho12; obtain ⟨i013, hi013, _, hsz13, _⟩ := info_parts info3; obtain ⟨A13, hcut13, hA13, hC13⟩ := print_mid_of (P := Try.prog) (Value.int .i64) 0 22 3 .i64 .i64 Try.underlying22 hi013 hsz13 A0 c0 l0 x6_1 (wrap64 (x6_1 + a1)) G.odt (by first | omega | exact G.odt) G.odt HC0.out; have HR205 := Aside0.mk (Kd.C_of_reads (h1 := fun _ => rfl) (hA13 _ (Kd.reads_of_C HR0.out))); have HC205 := Aside0.mk hC13; clear hA13 hC13 hi013 hsz13) | ((with_reducible refine gate_builtin (b := .append) (xs := #[.tmp 17, .tmp 23]) rfl ?_); at_builtin; refine Kd.R_append_rows (Kd.int .i64) (w0 := w) w.heap.size rfl (.tmp 17) (.tmp 23) 22 3 (.int .i64 0) 8 rfl Try.underlying22 info3 rfl (by decide) (by omega) v203 y202 ((l0.take ((wrap64 (x6_1 + a1)) : Int).toNat).drop (x6_1 : Int).toNat) _ _ _ (fun _ => True) (fun _ => False) rfl rfl ?aO ?aR (fun _ _ h => h) (fun _ h => h.elim) ?aF ?aB ?aS ?aL ?_; (case aR => first | (rw [← show ((l0.take ((wrap64 (x6_1 + a1)) : Int).toNat).drop (x6_1 : Int).toNat).length = ((wrap64 (x6_1 + a1)).toNat - x6_1.toNat) from (by rw [List.length_drop, List.length_take]; have h_ : ((wrap64 (x6_1 + a1)) : Int) ≤ (l0.length : Int) := G.odt; omega)]; repeat (first | exact (Kd.C_below HR205.out HB.out) | (with_reducible refine Kd.C_alloc ?_ _) | (with_reducible refine Kd.C_drewN ?_ _) | (with_reducible refine Kd.C_drew ?_))) | (repeat (first | exact (Kd.C_below HR205.out HB.out) | (with_reducible refine Kd.C_alloc ?_ _) | (with_reducible refine Kd.C_drewN ?_ _) | (with_reducible refine Kd.C_drew ?_)))); (case aB => exact G.bel); (case aF => exact (fun _ _ => trivial)); (case aO => exact (G.kR HO204.out)); (case aS => exact (below_size G.bel)); (case aL => have := LMc9.out; have hlx_ := (show ((l0.take ((wrap64 (x6_1 + a1)) : Int).toNat).drop (x6_1 : Int).toNat).length = ((wrap64 (x6_1 + a1)).toNat - x6_1.toNat) from (by rw [List.length_drop, List.length_take]; have h_ : ((wrap64 (x6_1 + a1)) : Int) ≤ (l0.length : Int) := G.odt; omega)); omega); intro v207 w14 ho hb hg hat; rw [← Ny206.out] at ho; have n0_ := Aside0.mk (Kd.S_after (ok := (fun _ => True)) (G.kS HO_5.out) hg hat); have n1_ := Aside0.mk (hb); have n2_ := Aside0.mk (ho); clear HO_5; clear HB; clear HO204; have HO_5 := n0_; have HB := n1_; have HO208 := n2_; clear n0_ n1_ n2_; clear ho hb hg hat; obtain ⟨Ao16, co16, eo16⟩ := Kd.R_slice HO208.out; subst eo16) | ((with_reducible refine gate_builtin (b := .append) (xs := #[.tmp 16, .tmp 25]) rfl ?_); at_builtin; refine Kd.S_append (Kd.slice 3 (Kd.int .i64)) (w0 := w) w.heap.size rfl (.tmp 16) (.tmp 25) 23 22 (.slice none 0 0) 24 rfl Try.underlying23 info22 rfl (by decide) (by omega) u5 x5_1 y206 [.slice Ao16 y206.length co16] (fun _ => True) (fun k_ => some k_ = (.slice Ao16 y206.length co16 : Value).ownBlock) rfl rfl ?aP (fun k_ hk_ => ((Kd.R_mono (ok' := fun k_ => ((fun _ => True)) k_ ∧ some k_ ≠ (u5 : Value).ownBlock) (Kd.R_apart' (HO208.out) (Kd.S_typed HO_5.out) (by decide)) (fun k_ hk => ⟨trivial, hk.2⟩))).1 k_ hk_.symm) ?aF ?aO ?aB ?aS ?aL ?_; (case aP => exact Kd.M_row (Kd.R_mono (Kd.R_tight rfl (Kd.R_mono (ok' := fun k_ => ((fun _ => True)) k_ ∧ some k_ ≠ (u5 : Value).ownBlock) (Kd.R_apart' (HO208.out) (Kd.S_typed HO_5.out) (by decide)) (fun k_ hk => ⟨trivial, hk.2⟩))) (fun _ h_ => h_))); (case aB => exact G.bel); (case aF => exact (fun _ _ => trivial)); (case aO => exact (by (with_reducible repeat (first | apply Kd.S_alloc | apply Kd.S_drewN | apply Kd.S_drew)); exact Kd.S_mono HO_5.out (fun k_ hk => ⟨trivial, fun e_ => hk.2 e_⟩))); (case aS => exact (below_size G.bel)); (case aL => have := LMc10.out; omega); intro v210 w15 ho hb hg hat; rw [← Ny209.out] at ho; have n0_ := Aside0.mk (hb); have n1_ := Aside0.mk (ho); clear HB; clear HO_5; clear HO208; have HB := n0_; have HO211 := n1_; clear n0_ n1_; clear ho hb hg hat))
        go_roundg k1
        case measure => have := HK1.out; omega
        case rel => exact ⟨(y209), (wrap64 (x6_1 + 1)), G.tr, H', ⟨by have := HK1.out; omega⟩, ⟨G.kS HO211.out⟩, ⟨G.bel⟩⟩
       ·rw [if_neg c10] at H
        exact absurd H (by simp)
      ·rw [if_neg c9] at H
       exact absurd H (by simp)
     ·rw [if_neg c7] at H
      exact absurd H (by simp)
    ·rw [if_neg c6] at H
     exact absurd H (by simp)
   ·rw [if_neg c5] at H
    have c5b0 : decide ((wrap64 (x6_1 + a1)) ≤ (l0.length : Int)) = false := decide_eq_false c5
    clear c5
    obtain ⟨t212, A17, H⟩ := G.bx H
    obtain rfl := Option.some.inj H
    obtain ⟨Ao18, co18, eo18⟩ := Kd.S_slice HO_5.out
    subst eo18
    go_wp2_with (first | ((with_reducible refine gate_callee (f := 100) rfl ?_); refine goesL_ (some 28) rfl rfl Try.func100 (by kernel_rfl) rfl #[.slice Ao18 x5_1.length co18] rfl G.ar ?_; (with_reducible refine (impl_different.calls k1 (fun _ => True) _ x5_1 t212 w _ ?side1 ?side2 A17.out).mono ?_); (case side1 => repeat (first | (with_reducible first | exact HB.out | apply below_alloc | apply pw_below_drewN | apply below_drew1) | exact HB.out)); (case side2 => (with_reducible repeat (first | apply Kd.S_alloc | apply Kd.S_drewN | apply Kd.S_drew)); exact Kd.S_mono HO_5.out (fun _ _ => trivial)); rintro e w19 ⟨v213, rfl, hy0, hb, hkp⟩; refine ⟨_, rfl, ?_⟩; have ny_ := Aside0.mk hy0; have nb_ := Aside0.mk hb; clear HO_5; clear HB; have HO214 := ny_; have HB := nb_; clear ny_ nb_; clear hy0 hb hkp))
    go_ret
    exact ⟨_, G.er, by (with_reducible repeat (first | apply Kd.S_alloc | apply Kd.S_drewN | apply Kd.S_drew)); exact Kd.S_mono HO214.out (fun _ hk => trivial), G.bel⟩

/-! ### impl_ComplexityOf: function 23 -/
mutual
def impl_ComplexityOf.j0 : Nat → List Int → Int → List Int → Bool → Option (List Int)
 | 0, _, _, _, _ => none
 | k + 1, x0, x1, x5, x18 => if x18 = true then (some x5) else (impl_ComplexityOf.l0 k x0 x5 (wrap64 (x1 + 1)) 0)
def impl_ComplexityOf.l0 : Nat → List Int → List Int → Int → Int → Option (List Int)
 | 0, _, _, _, _ => none
 | k + 1, x0, x5, x21, x22 => if x22 < x21 then ((impl_parts.f k x0 x22).bind fun t219 => (if x5.length < 17592186044416 then (impl_ComplexityOf.l0 k x0 (x5 ++ [(t219.length : Int)]) x21 (wrap64 (x22 + 1))) else (none))) else (some x5)
end
def impl_ComplexityOf.f (k : Nat) (l0 : List Int) (a1 : Int) : Option (List Int) := (some (([] : List Int) : List Int)).bind fun y215 => ((impl_isShort.f k l0 128).bind fun t218 => (if t218 = true then (if a1 < 0 then (impl_ComplexityOf.j0 k l0 a1 y215 true) else (impl_ComplexityOf.j0 k l0 a1 y215 (decide (a1 > 40)))) else (impl_ComplexityOf.j0 k l0 a1 y215 true)))
set_option maxHeartbeats 8000000 in
set_option maxRecDepth 100000 in
theorem impl_ComplexityOf.calls (k : Nat) (A0 : Option Addr) (c0 : Nat) (l0 : List Int) (a1 : Int) (r : List Int) (w : World) (hr0 : Kd.C (Kd.int .i64) w A0 l0.length l0) (hc0 : l0.length ≤ c0) (h : impl_ComplexityOf.f k l0 a1 = some r) :
  Calls Try.prog 23 #[.slice A0 l0.length c0, .int .i64 a1] w fun e w' => ∃ v0_ : Value, e = .returned (v0_) ∧ Kd.R (Kd.int .i64) 3 w' w.heap.size (fun _ => True) v0_ r ∧ Below w.heap.size w w' := by
 have HR0 := Aside0.mk hr0
 have HC0 := Aside0.mk hc0
 clear hr0 hc0
 have HB := Aside0.mk (Below.refl w.heap.size w)
 have H : ((some (([] : List Int) : List Int)).bind fun y215 => ((impl_isShort.f k l0 128).bind fun t218 => (if t218 = true then (if a1 < 0 then (impl_ComplexityOf.j0 k l0 a1 y215 true) else (impl_ComplexityOf.j0 k l0 a1 y215 (decide (a1 > 40)))) else (impl_ComplexityOf.j0 k l0 a1 y215 true)))) = some r := h
 clear h
 obtain ⟨y215, hy215⟩ : ∃ y_ : List Int, y_ = (([] : List Int)) := ⟨_, rfl⟩
 replace H : ((impl_isShort.f k l0 128).bind fun t218 => (if t218 = true then (if a1 < 0 then (impl_ComplexityOf.j0 k l0 a1 y215 true) else (impl_ComplexityOf.j0 k l0 a1 y215 (decide (a1 > 40)))) else (impl_ComplexityOf.j0 k l0 a1 y215 true))) = some r := by first | (rw [hy215]; with_reducible exact H) | (have H2_ := (Option.bind_some _ _).symm.trans H; rw [hy215]; with_reducible exact H2_) | (have H2_ := (Option.bind_some _ _).symm.trans H; with_reducible exact H2_) | with_reducible exact H | (rw [hy215]; exact H) | exact H
 have Ny215 := Aside0.mk hy215
 clear hy215
 have HC3 := Aside0.mk H
 clear H
 go_enter Try.func23, Try.ntmps23
 go_upto_region 2 with (first | ((with_reducible refine gate_dst (N := 7) rfl ?_); refine Kd.R_lit (Kd.int .i64) _ 3 ?hg (N := 7) ?hd (xs := ([] : List Int)) (inner := []) (ok := fun _ => True) (okp := fun _ => True) ?hr ?hp (fun _ hk => hk) trivial (Below.refl _ _) (Nat.le_refl _) (by simp) ?_; (case hd => rfl); (case hg => rfl); (case hr => first | (go_simp; done) | (go_simp; rfl)); (case hp => exact (Reps.none _ _)); intro v216 w4 ho5 hb hg_ hnew_; clear hg_ hnew_; (first | rw [← Ny215.out] at ho5 | (simp only [Int.reduceToNat] at ho5; rw [← Ny215.out] at ho5)); have n0_ := Aside0.mk (Kd.R_lower ho5 (below_size G.bel)); have n1_ := Aside0.mk (below_step G.bel hb); clear HB; have HO217 := n0_; have HB := n1_; clear n0_ n1_; clear hb ho5))
 (try simp only [Act.put, List.setIfInBounds_toArray, List.set_cons_zero, List.set_cons_succ])
 go_cut [18] (fun v18 wc => ∃ (kq : Nat) (x18_2 : Bool), v18 = .bool x18_2 ∧ Aside0 (impl_ComplexityOf.j0 kq l0 a1 y215 x18_2 = some r) ∧ Aside0 (kq ≤ k) ∧ Aside0 (Kd.R (Kd.int .i64) 3 wc w.heap.size (fun _ => True) v216 y215) ∧ Aside0 (Below w.heap.size w wc))
 case first =>
  have H := HC3.out
  clear HC3
  obtain ⟨t218, A6, H⟩ := G.bx H
  by_cases c7 : t218 = true
  ·subst c7
   rw [if_pos rfl] at H
   by_cases c8 : a1 < 0
   ·rw [if_pos c8] at H
    have c8b0 : decide (a1 < 0) = true := decide_eq_true c8
    clear c8
    (first | rw [c8b0] | (simp only [i64_w, i32_w]; rw [c8b0]) | skip)
    have H' := Aside0.mk H
    clear H
    go_wp2_with (first | ((with_reducible refine gate_callee (f := 101) rfl ?_); refine goesL_ (some 9) rfl rfl Try.func101 (by kernel_rfl) rfl #[.slice A0 l0.length c0, .int .i64 128] rfl G.ar ?_; (with_reducible refine (impl_isShort.calls k _ _ l0 128 true _ ?side1 ?side2 A6.out).mono ?_); (case side1 => exact G.kC (Kd.C_below HR0.out HB.out)); (case side2 => exact HC0.out); rintro e w' ⟨rfl, ⟨nd, rfl⟩⟩; refine ⟨_, rfl, ?_⟩))
    go_meet
    case rel => exact ⟨_, (true), G.tr, H', ⟨by first | omega | exact Nat.le_refl _⟩, ⟨G.kR HO217.out⟩, ⟨G.bel⟩⟩
   ·rw [if_neg c8] at H
    have c8b0 : decide (a1 < 0) = false := decide_eq_false c8
    clear c8
    (first | rw [c8b0] | (simp only [i64_w, i32_w]; rw [c8b0]) | skip)
    have H' := Aside0.mk H
    clear H
    go_wp2_with (first | ((with_reducible refine gate_callee (f := 101) rfl ?_); refine goesL_ (some 9) rfl rfl Try.func101 (by kernel_rfl) rfl #[.slice A0 l0.length c0, .int .i64 128] rfl G.ar ?_; (with_reducible refine (impl_isShort.calls k _ _ l0 128 true _ ?side1 ?side2 A6.out).mono ?_); (case side1 => exact G.kC (Kd.C_below HR0.out HB.out)); (case side2 => exact HC0.out); rintro e w' ⟨rfl, ⟨nd, rfl⟩⟩; refine ⟨_, rfl, ?_⟩))
    go_meet
    case rel => exact ⟨_, (decide (a1 > 40)), G.tr, H', ⟨by first | omega | exact Nat.le_refl _⟩, ⟨G.kR HO217.out⟩, ⟨G.bel⟩⟩
  ·replace c7 := Bool.eq_false_iff.mpr c7
   subst c7
   rw [if_neg (show ¬ (false = true) by decide)] at H
   have H' := Aside0.mk H
   clear H
   go_wp2_with (first | ((with_reducible refine gate_callee (f := 101) rfl ?_); refine goesL_ (some 9) rfl rfl Try.func101 (by kernel_rfl) rfl #[.slice A0 l0.length c0, .int .i64 128] rfl G.ar ?_; (with_reducible refine (impl_isShort.calls k _ _ l0 128 false _ ?side1 ?side2 A6.out).mono ?_); (case side1 => exact G.kC (Kd.C_below HR0.out HB.out)); (case side2 => exact HC0.out); rintro e w' ⟨rfl, ⟨nd, rfl⟩⟩; refine ⟨_, rfl, ?_⟩))
   go_meet
   case rel => exact ⟨_, (true), G.tr, H', ⟨by first | omega | exact Nat.le_refl _⟩, ⟨G.kR HO217.out⟩, ⟨G.bel⟩⟩
 case rest =>
  clear HC3
  try clear c1; try clear c2; try clear p2; try clear c7; try clear c8; try clear c8b0
  obtain ⟨kq, x18_2, rfl, HA, HJ2, HO_5, HB⟩ := hcut
  cases kq with
  | zero => exact absurd HA.out (by simp [impl_ComplexityOf.j0])
  | succ kj2 =>
   have H := HA.out
   clear HA
   simp only [impl_ComplexityOf.j0] at H
   by_cases c9 : x18_2 = true
   ·subst c9
    rw [if_pos rfl] at H
    obtain rfl := Option.some.inj H
    go_wp2
    go_ret
    exact ⟨_, G.er, G.kR HO_5.out, G.bel⟩
   ·replace c9 := Bool.eq_false_iff.mpr c9
    subst c9
    rw [if_neg (show ¬ (false = true) by decide)] at H
    have H' := Aside0.mk H
    clear H
    go_wp2
    go_loopg [5, 22] kj2 (fun kq v5 v22 w' => ∃ (x5_2 : List Int) (x22_2 : Int), v22 = .int .i64 x22_2 ∧ Aside0 (impl_ComplexityOf.l0 kq l0 x5_2 (wrap64 (a1 + 1)) x22_2 = some r) ∧ Aside0 (kq ≤ kj2) ∧ Aside0 (Kd.R (Kd.int .i64) 3 w' w.heap.size (fun _ => True) v5 x5_2) ∧ Aside0 (Below w.heap.size w w'))
    case atStart => exact ⟨(y215), (0), G.tr, H', ⟨Nat.le_refl _⟩, ⟨G.kR HO_5.out⟩, ⟨G.bel⟩⟩
    case round =>
     clear H'
     try clear c1; try clear c2; try clear p2; try clear p6; try clear c7; try clear c8; try clear c8b0; try clear c9; try clear p2
     obtain ⟨x5_2, x22_2, rfl, HA, HK2, HO_5, HB⟩ := hrel
     cases gk with
     | zero => exact absurd HA.out (by simp [impl_ComplexityOf.l0])
     | succ k2 =>
      have H := HA.out
      clear HA
      simp only [impl_ComplexityOf.l0] at H
      by_cases c10 : x22_2 < (wrap64 (a1 + 1))
      ·rw [if_pos c10] at H
       have c10b0 : decide (x22_2 < (wrap64 (a1 + 1))) = true := decide_eq_true c10
       clear c10
       obtain ⟨t219, A11, H⟩ := G.bx H
       by_cases c12 : x5_2.length < 17592186044416
       ·rw [if_pos c12] at H
        have LMc12 := Aside0.mk c12
        clear c12
        obtain ⟨y222, hy222⟩ : ∃ y_ : List Int, y_ = (x5_2 ++ [(t219.length : Int)]) := ⟨_, rfl⟩
        replace H : (impl_ComplexityOf.l0 k2 l0 y222 (wrap64 (a1 + 1)) (wrap64 (x22_2 + 1))) = some r := by first | (rw [hy222]; with_reducible exact H) | (have H2_ := (Option.bind_some _ _).symm.trans H; rw [hy222]; with_reducible exact H2_) | (have H2_ := (Option.bind_some _ _).symm.trans H; with_reducible exact H2_) | with_reducible exact H | (rw [hy222]; exact H) | exact H
        have Ny222 := Aside0.mk hy222
        clear hy222
        have H' := Aside0.mk H
        clear H
        go_wp2_with (first | ((with_reducible refine gate_callee (f := 102) rfl ?_); refine goesL_ (some 28) rfl rfl Try.func102 (by kernel_rfl) rfl #[.slice A0 l0.length c0, .int .i64 x22_2] rfl G.ar ?_; (with_reducible refine (impl_parts.calls k2 _ _ l0 x22_2 t219 _ ?side1 ?side2 A11.out).mono ?_); (case side1 => exact G.kC (Kd.C_below HR0.out HB.out)); (case side2 => exact HC0.out); rintro e w13 ⟨v220, rfl, ho0, hb⟩; refine ⟨_, rfl, ?_⟩; have n0_ := Aside0.mk (Kd.R_below (G.kR HO_5.out) hb); have n1_ := Aside0.mk (Kd.S_lower (Kd.S_new' ho0 (Kd.R_lt (G.kR HO_5.out))) (below_size G.bel)); have n2_ := Aside0.mk (below_step G.bel hb); clear HO_5; clear HB; have HO_5 := n0_; have HO221 := n1_; have HB := n2_; clear n0_ n1_ n2_; (try clear hb); (try clear hb2); (try clear hk); (try clear hi); (try clear ho0); obtain ⟨Ao14, co14, eo14⟩ := Kd.S_slice HO221.out; subst eo14) | ((with_reducible refine gate_builtin (b := .append) (xs := #[.tmp 25, .tmp 30]) rfl ?_); at_builtin; refine Kd.R_append (Kd.int .i64) (w0 := w) w.heap.size rfl (.tmp 25) (.tmp 30) 22 3 (.int .i64 0) 8 rfl Try.underlying22 info3 rfl (by decide) (by omega) u5 x5_2 (t219.length : Int) [.int .i64 (t219.length : Int)] (fun _ => True) (fun _ => False) rfl rfl ?aP (fun _ hk => hk.elim) ?aF ?aO ?aB ?aS ?aL ?_; (case aP => exact rfl); (case aB => exact G.bel); (case aF => exact (fun _ _ => trivial)); (case aO => exact (G.kR HO_5.out)); (case aS => exact (below_size G.bel)); (case aL => have := LMc12.out; omega); intro v223 w15 ho hb hg hat; rw [← Ny222.out] at ho; have n0_ := Aside0.mk (Kd.S_after (ok := (fun _ => True)) (G.kS HO221.out) hg hat); have n1_ := Aside0.mk (hb); have n2_ := Aside0.mk (ho); clear HO221; clear HB; clear HO_5; have HO221 := n0_; have HB := n1_; have HO224 := n2_; clear n0_ n1_ n2_; clear ho hb hg hat))
        go_roundg k2
        case measure => have := HJ2.out; have := HK2.out; omega
        case rel => exact ⟨(y222), (wrap64 (x22_2 + 1)), G.tr, H', ⟨by have := HJ2.out; have := HK2.out; omega⟩, ⟨G.kR HO224.out⟩, ⟨G.bel⟩⟩
       ·rw [if_neg c12] at H
        exact absurd H (by simp)
      ·rw [if_neg c10] at H
       have c10b0 : decide (x22_2 < (wrap64 (a1 + 1))) = false := decide_eq_false c10
       clear c10
       obtain rfl := Option.some.inj H
       go_wp2
       go_ret
       exact ⟨_, G.er, G.kR HO_5.out, G.bel⟩

/-! ### impl_FactorsOf: function 31 -/
def impl_FactorsOf.f (k : Nat) (l0 : List Int) (a1 : Int) : Option ((List (List Int)) × Bool) := (impl_isShort.f k l0 128).bind fun t225 => (if t225 = true then (if a1 < 0 then (some ((([] : List (List Int))), false)) else (if a1 > 40 then (some ((([] : List (List Int))), false)) else ((impl_parts.f k l0 a1).bind fun t232 => (some (t232, true))))) else (some ((([] : List (List Int))), false)))
set_option maxHeartbeats 8000000 in
set_option maxRecDepth 100000 in
theorem impl_FactorsOf.calls (k : Nat) (A0 : Option Addr) (c0 : Nat) (l0 : List Int) (a1 : Int) (r1 : List (List Int)) (r2 : Bool) (w : World) (hr0 : Kd.C (Kd.int .i64) w A0 l0.length l0) (hc0 : l0.length ≤ c0) (h : impl_FactorsOf.f k l0 a1 = some (r1, r2)) :
  Calls Try.prog 31 #[.slice A0 l0.length c0, .int .i64 a1] w fun e w' => ∃ v0_ : Value, e = .returned (.tuple #[v0_, .bool r2]) ∧ Kd.S (Kd.slice 3 (Kd.int .i64)) 22 w' w.heap.size (fun _ => True) v0_ r1 ∧ Below w.heap.size w w' := by
 have HR0 := Aside0.mk hr0
 have HC0 := Aside0.mk hc0
 clear hr0 hc0
 have HB := Aside0.mk (Below.refl w.heap.size w)
 have H : ((impl_isShort.f k l0 128).bind fun t225 => (if t225 = true then (if a1 < 0 then (some ((([] : List (List Int))), false)) else (if a1 > 40 then (some ((([] : List (List Int))), false)) else ((impl_parts.f k l0 a1).bind fun t232 => (some (t232, true))))) else (some ((([] : List (List Int))), false)))) = some (r1, r2) := h
 clear h
 obtain ⟨t225, A3, H⟩ := G.bx H
 by_cases c4 : t225 = true
 ·subst c4
  rw [if_pos rfl] at H
  by_cases c5 : a1 < 0
  ·rw [if_pos c5] at H
   have c5b0 : decide (a1 < 0) = true := decide_eq_true c5
   clear c5
   obtain ⟨y226, hy226⟩ : ∃ y_ : List (List Int), y_ = (([] : List (List Int))) := ⟨_, rfl⟩
   replace H : (some (y226, false)) = some (r1, r2) := by first | (rw [hy226]; with_reducible exact H) | (have H2_ := (Option.bind_some _ _).symm.trans H; rw [hy226]; with_reducible exact H2_) | (have H2_ := (Option.bind_some _ _).symm.trans H; with_reducible exact H2_) | with_reducible exact H | (rw [hy226]; exact H) | exact H
   have Ny226 := Aside0.mk hy226
   clear hy226
   simp only [Option.some.injEq, Prod.mk.injEq] at H
   obtain ⟨rfl, rfl⟩ := H
   go_enter Try.func31, Try.ntmps31
   go_wp2_with (first | ((with_reducible refine gate_callee (f := 101) rfl ?_); refine goesL_ (some 7) rfl rfl Try.func101 (by kernel_rfl) rfl #[.slice A0 l0.length c0, .int .i64 128] rfl G.ar ?_; (with_reducible refine (impl_isShort.calls k _ _ l0 128 true _ ?side1 ?side2 A3.out).mono ?_); (case side1 => exact G.kC HR0.out); (case side2 => exact HC0.out); rintro e w' ⟨rfl, ⟨nd, rfl⟩⟩; refine ⟨_, rfl, ?_⟩) | ((with_reducible refine gate_dst (N := 17) rfl ?_); refine Kd.S_lit (Kd.slice 3 (Kd.int .i64)) _ 22 ?hg (N := 17) ?hd (xs := ([] : List (List Int))) (inner := []) (ok := fun _ => True) (okp := fun _ => True) ?hr ?hp (fun _ hk => hk) trivial (Below.refl _ _) (Nat.le_refl _) (by simp) ?_; (case hd => rfl); (case hg => rfl); (case hr => first | (go_simp; done) | (go_simp; rfl)); (case hp => exact (Reps.none _ _)); intro v227 w6 ho7 hb hg_ hnew_; clear hg_ hnew_; (first | rw [← Ny226.out] at ho7 | (simp only [Int.reduceToNat] at ho7; rw [← Ny226.out] at ho7)); have n0_ := Aside0.mk (Kd.S_lower ho7 (below_size G.bel)); have n1_ := Aside0.mk (below_step G.bel hb); clear HB; have HO228 := n0_; have HB := n1_; clear n0_ n1_; clear hb ho7))
   go_ret2
   exact ⟨_, G.er, G.kS HO228.out, G.bel⟩
  ·rw [if_neg c5] at H
   have c5b0 : decide (a1 < 0) = false := decide_eq_false c5
   clear c5
   by_cases c8 : a1 > 40
   ·rw [if_pos c8] at H
    have c8b0 : decide (40 < a1) = true := decide_eq_true c8
    clear c8
    obtain ⟨y229, hy229⟩ : ∃ y_ : List (List Int), y_ = (([] : List (List Int))) := ⟨_, rfl⟩
    replace H : (some (y229, false)) = some (r1, r2) := by first | (rw [hy229]; with_reducible exact H) | (have H2_ := (Option.bind_some _ _).symm.trans H; rw [hy229]; with_reducible exact H2_) | (have H2_ := (Option.bind_some _ _).symm.trans H; with_reducible exact H2_) | with_reducible exact H | (rw [hy229]; exact H) | exact H
    have Ny229 := Aside0.mk hy229
    clear hy229
    simp only [Option.some.injEq, Prod.mk.injEq] at H
    obtain ⟨rfl, rfl⟩ := H
    go_enter Try.func31, Try.ntmps31
    go_wp2_with (first | ((with_reducible refine gate_callee (f := 101) rfl ?_); refine goesL_ (some 7) rfl rfl Try.func101 (by kernel_rfl) rfl #[.slice A0 l0.length c0, .int .i64 128] rfl G.ar ?_; (with_reducible refine (impl_isShort.calls k _ _ l0 128 true _ ?side1 ?side2 A3.out).mono ?_); (case side1 => exact G.kC HR0.out); (case side2 => exact HC0.out); rintro e w' ⟨rfl, ⟨nd, rfl⟩⟩; refine ⟨_, rfl, ?_⟩) | ((with_reducible refine gate_dst (N := 17) rfl ?_); refine Kd.S_lit (Kd.slice 3 (Kd.int .i64)) _ 22 ?hg (N := 17) ?hd (xs := ([] : List (List Int))) (inner := []) (ok := fun _ => True) (okp := fun _ => True) ?hr ?hp (fun _ hk => hk) trivial (Below.refl _ _) (Nat.le_refl _) (by simp) ?_; (case hd => rfl); (case hg => rfl); (case hr => first | (go_simp; done) | (go_simp; rfl)); (case hp => exact (Reps.none _ _)); intro v230 w9 ho10 hb hg_ hnew_; clear hg_ hnew_; (first | rw [← Ny229.out] at ho10 | (simp only [Int.reduceToNat] at ho10; rw [← Ny229.out] at ho10)); have n0_ := Aside0.mk (Kd.S_lower ho10 (below_size G.bel)); have n1_ := Aside0.mk (below_step G.bel hb); clear HB; have HO231 := n0_; have HB := n1_; clear n0_ n1_; clear hb ho10))
    go_ret2
    exact ⟨_, G.er, G.kS HO231.out, G.bel⟩
   ·rw [if_neg c8] at H
    have c8b0 : decide (40 < a1) = false := decide_eq_false c8
    clear c8
    obtain ⟨t232, A11, H⟩ := G.bx H
    simp only [Option.some.injEq, Prod.mk.injEq] at H
    obtain ⟨rfl, rfl⟩ := H
    go_enter Try.func31, Try.ntmps31
    go_wp2_with (first | ((with_reducible refine gate_callee (f := 101) rfl ?_); refine goesL_ (some 7) rfl rfl Try.func101 (by kernel_rfl) rfl #[.slice A0 l0.length c0, .int .i64 128] rfl G.ar ?_; (with_reducible refine (impl_isShort.calls k _ _ l0 128 true _ ?side1 ?side2 A3.out).mono ?_); (case side1 => exact G.kC HR0.out); (case side2 => exact HC0.out); rintro e w' ⟨rfl, ⟨nd, rfl⟩⟩; refine ⟨_, rfl, ?_⟩) | ((with_reducible refine gate_callee (f := 102) rfl ?_); refine goesL_ (some 20) rfl rfl Try.func102 (by kernel_rfl) rfl #[.slice A0 l0.length c0, .int .i64 a1] rfl G.ar ?_; (with_reducible refine (impl_parts.calls k _ _ l0 a1 t232 _ ?side1 ?side2 A11.out).mono ?_); (case side1 => exact G.kC HR0.out); (case side2 => exact HC0.out); rintro e w12 ⟨v233, rfl, ho0, hb⟩; refine ⟨_, rfl, ?_⟩; have n0_ := Aside0.mk (Kd.S_lower ho0 (below_size G.bel)); have n1_ := Aside0.mk (below_step G.bel hb); clear HB; have HO234 := n0_; have HB := n1_; clear n0_ n1_; (try clear hb); (try clear hb2); (try clear hk); (try clear hi); (try clear ho0)))
    go_ret2
    exact ⟨_, G.er, G.kS HO234.out, G.bel⟩
 ·replace c4 := Bool.eq_false_iff.mpr c4
  subst c4
  rw [if_neg (show ¬ (false = true) by decide)] at H
  obtain ⟨y235, hy235⟩ : ∃ y_ : List (List Int), y_ = (([] : List (List Int))) := ⟨_, rfl⟩
  replace H : (some (y235, false)) = some (r1, r2) := by first | (rw [hy235]; with_reducible exact H) | (have H2_ := (Option.bind_some _ _).symm.trans H; rw [hy235]; with_reducible exact H2_) | (have H2_ := (Option.bind_some _ _).symm.trans H; with_reducible exact H2_) | with_reducible exact H | (rw [hy235]; exact H) | exact H
  have Ny235 := Aside0.mk hy235
  clear hy235
  simp only [Option.some.injEq, Prod.mk.injEq] at H
  obtain ⟨rfl, rfl⟩ := H
  go_enter Try.func31, Try.ntmps31
  go_wp2_with (first | ((with_reducible refine gate_callee (f := 101) rfl ?_); refine goesL_ (some 7) rfl rfl Try.func101 (by kernel_rfl) rfl #[.slice A0 l0.length c0, .int .i64 128] rfl G.ar ?_; (with_reducible refine (impl_isShort.calls k _ _ l0 128 false _ ?side1 ?side2 A3.out).mono ?_); (case side1 => exact G.kC HR0.out); (case side2 => exact HC0.out); rintro e w' ⟨rfl, ⟨nd, rfl⟩⟩; refine ⟨_, rfl, ?_⟩) | ((with_reducible refine gate_dst (N := 17) rfl ?_); refine Kd.S_lit (Kd.slice 3 (Kd.int .i64)) _ 22 ?hg (N := 17) ?hd (xs := ([] : List (List Int))) (inner := []) (ok := fun _ => True) (okp := fun _ => True) ?hr ?hp (fun _ hk => hk) trivial (Below.refl _ _) (Nat.le_refl _) (by simp) ?_; (case hd => rfl); (case hg => rfl); (case hr => first | (go_simp; done) | (go_simp; rfl)); (case hp => exact (Reps.none _ _)); intro v236 w13 ho14 hb hg_ hnew_; clear hg_ hnew_; (first | rw [← Ny235.out] at ho14 | (simp only [Int.reduceToNat] at ho14; rw [← Ny235.out] at ho14)); have n0_ := Aside0.mk (Kd.S_lower ho14 (below_size G.bel)); have n1_ := Aside0.mk (below_step G.bel hb); clear HB; have HO237 := n0_; have HB := n1_; clear n0_ n1_; clear hb ho14))
  go_ret2
  exact ⟨_, G.er, G.kS HO237.out, G.bel⟩

/-! ### spec_l3Same: function 139 -/
def spec_l3Same.l0 : Nat → List Int → List Int → Int → Option (Bool)
 | 0, _, _, _ => none
 | k + 1, x0, x1, x5 => if x5 < (x0.length : Int) then (if 0 ≤ x5 then (if x5 < (x1.length : Int) then (if (rd x0 x5) = (rd x1 x5) then (spec_l3Same.l0 k x0 x1 (wrap64 (x5 + 1))) else (some false)) else (none)) else (none)) else (some true)
def spec_l3Same.f (k : Nat) (l0 : List Int) (l1 : List Int) : Option (Bool) := if (l0.length : Int) = (l1.length : Int) then (spec_l3Same.l0 k l0 l1 0) else (some false)
set_option maxHeartbeats 8000000 in
set_option maxRecDepth 100000 in
theorem spec_l3Same.calls (k : Nat) (A0 : Option Addr) (c0 : Nat) (l0 : List Int) (A1 : Option Addr) (c1 : Nat) (l1 : List Int) (r : Bool) (w : World) (hr0 : Kd.C (Kd.int .i64) w A0 l0.length l0) (hc0 : l0.length ≤ c0) (hr1 : Kd.C (Kd.int .i64) w A1 l1.length l1) (hc1 : l1.length ≤ c1) (h : spec_l3Same.f k l0 l1 = some r) :
  Calls Try.prog 139 #[.slice A0 l0.length c0, .slice A1 l1.length c1] w fun e w' => e = .returned (.bool r) ∧ Drawn0 w w' := by
 have HR0 := Aside0.mk hr0
 have HC0 := Aside0.mk hc0
 clear hr0 hc0
 have HR1 := Aside0.mk hr1
 have HC1 := Aside0.mk hc1
 clear hr1 hc1
 have H : (if (l0.length : Int) = (l1.length : Int) then (spec_l3Same.l0 k l0 l1 0) else (some false)) = some r := h
 clear h
 by_cases c3 : (l0.length : Int) = (l1.length : Int)
 ·rw [if_pos c3] at H
  have c3b0 : ((l0.length : Int) == (l1.length : Int)) = true := beq_iff_eq.mpr c3
  have c3b1 : ((l0.length : Int) != (l1.length : Int)) = false := bne_eq_false_iff_eq.mpr c3
  have c3b2 : (l0.length == l1.length) = true := by first | simpa using c3 | (simp at c3 ⊢; omega)
  clear c3
  have H' := Aside0.mk H
  clear H
  go_enter Try.func139, Try.ntmps139
  go_wp2
  repeat (go_quiet (fail); try go_wp2)
  go_loopg [5] k (fun kq v5 w' => ∃ (x5_1 : Int), v5 = .int .i64 x5_1 ∧ Aside0 (spec_l3Same.l0 kq l0 l1 x5_1 = some r) ∧ Aside0 (kq ≤ k) ∧ Drawn0 w w')
  case atStart => exact ⟨(0), G.tr, H', ⟨Nat.le_refl _⟩, G.dn⟩
  case round =>
   clear H'
   try clear c1; try clear p2; try clear c3; try clear c3b0; try clear c3b1; try clear c3b2
   obtain ⟨x5_1, rfl, HA, HK1, ⟨m1, rfl⟩⟩ := hrel
   cases gk with
   | zero => exact absurd HA.out (by simp [spec_l3Same.l0])
   | succ k1 =>
    have H := HA.out
    clear HA
    simp only [spec_l3Same.l0] at H
    by_cases c4 : x5_1 < (l0.length : Int)
    ·rw [if_pos c4] at H
     have c4b0 : decide (x5_1 < (l0.length : Int)) = true := decide_eq_true c4
     clear c4
     by_cases c5 : 0 ≤ x5_1
     ·rw [if_pos c5] at H
      have c5b0 : decide (0 ≤ x5_1) = true := decide_eq_true c5
      clear c5
      by_cases c6 : x5_1 < (l1.length : Int)
      ·rw [if_pos c6] at H
       have c6b0 : decide (x5_1 < (l1.length : Int)) = true := decide_eq_true c6
       clear c6
       by_cases c7 : (rd l0 x5_1) = (rd l1 x5_1)
       ·rw [if_pos c7] at H
        have c7b0 : ((rd l0 x5_1) == (rd l1 x5_1)) = true := beq_iff_eq.mpr c7
        have c7b1 : ((rd l0 x5_1) != (rd l1 x5_1)) = false := bne_eq_false_iff_eq.mpr c7
        clear c7
        have H' := Aside0.mk H
        clear H
        have p238 : 0 ≤ (x5_1 : Int) := G.odt
        have q238 : x5_1 < (l0.length : Int) := G.odt
        obtain ⟨ad238, e238, hx238_0⟩ := Kd.at_int HR0.out x5_1 p238 q238
        cases e238
        replace p238 := eq_true p238
        replace q238 := eq_true q238
        have p239 : 0 ≤ (x5_1 : Int) := G.odt
        have q239 : x5_1 < (l1.length : Int) := G.odt
        obtain ⟨ad239, e239, hx239_0⟩ := Kd.at_int HR1.out x5_1 p239 q239
        cases e239
        replace p239 := eq_true p239
        replace q239 := eq_true q239
        go_wp2
        repeat (go_quiet (fail); try go_wp2)
        go_roundg k1
        case measure => have := HK1.out; omega
        case rel => exact ⟨(wrap64 (x5_1 + 1)), G.tr, H', ⟨by have := HK1.out; omega⟩, G.dn⟩
       ·rw [if_neg c7] at H
        have c7b0 : ((rd l0 x5_1) == (rd l1 x5_1)) = false := beq_eq_false_iff_ne.mpr c7
        have c7b1 : ((rd l0 x5_1) != (rd l1 x5_1)) = true := bne_iff_ne.mpr c7
        obtain rfl := Option.some.inj H
        have p238 : 0 ≤ (x5_1 : Int) := G.odt
        have q238 : x5_1 < (l0.length : Int) := G.odt
        obtain ⟨ad238, e238, hx238_0⟩ := Kd.at_int HR0.out x5_1 p238 q238
        cases e238
        replace p238 := eq_true p238
        replace q238 := eq_true q238
        have p239 : 0 ≤ (x5_1 : Int) := G.odt
        have q239 : x5_1 < (l1.length : Int) := G.odt
        obtain ⟨ad239, e239, hx239_0⟩ := Kd.at_int HR1.out x5_1 p239 q239
        cases e239
        replace p239 := eq_true p239
        replace q239 := eq_true q239
        go_wp2
        repeat (go_quiet (fail); try go_wp2)
        go_ret
        exact ⟨G.tr, G.dn⟩
      ·rw [if_neg c6] at H
       exact absurd H (by simp)
     ·rw [if_neg c5] at H
      exact absurd H (by simp)
    ·rw [if_neg c4] at H
     have c4b0 : decide (x5_1 < (l0.length : Int)) = false := decide_eq_false c4
     clear c4
     obtain rfl := Option.some.inj H
     go_wp2
     repeat (go_quiet (fail); try go_wp2)
     go_ret
     exact ⟨G.tr, G.dn⟩
 ·rw [if_neg c3] at H
  have c3b0 : ((l0.length : Int) == (l1.length : Int)) = false := beq_eq_false_iff_ne.mpr c3
  have c3b1 : ((l0.length : Int) != (l1.length : Int)) = true := bne_iff_ne.mpr c3
  have c3b2 : (l0.length == l1.length) = false := by first | simpa using c3 | (simp at c3 ⊢; omega)
  obtain rfl := Option.some.inj H
  go_enter Try.func139, Try.ntmps139
  go_wp2
  repeat (go_quiet (fail); try go_wp2)
  go_ret
  exact ⟨G.tr, G.dn⟩

/-! ### spec_OccurrencesOf: function 76 -/
def spec_OccurrencesOf.l0 : Nat → List Int → List Int → List Int → Int → Option (List Int)
 | 0, _, _, _, _ => none
 | k + 1, x0, x1, x5, x6 => if (wrap64 (x6 + (x1.length : Int))) ≤ (x0.length : Int) then (if 0 ≤ x6 then (if x6 ≤ (wrap64 (x6 + (x1.length : Int))) then ((spec_l3Same.f k ((x0.take ((wrap64 (x6 + (x1.length : Int))) : Int).toNat).drop (x6 : Int).toNat) x1).bind fun t244 => (if t244 = true then (if x5.length < 17592186044416 then (spec_OccurrencesOf.l0 k x0 x1 (x5 ++ [x6]) (wrap64 (x6 + 1))) else (none)) else (spec_OccurrencesOf.l0 k x0 x1 x5 (wrap64 (x6 + 1))))) else (none)) else (none)) else (some x5)
def spec_OccurrencesOf.f (k : Nat) (l0 : List Int) (l1 : List Int) : Option (List Int) := spec_OccurrencesOf.l0 k l0 l1 (([] : List Int)) 0
set_option maxHeartbeats 8000000 in
set_option maxRecDepth 100000 in
theorem spec_OccurrencesOf.calls (k : Nat) (A0 : Option Addr) (c0 : Nat) (l0 : List Int) (A1 : Option Addr) (c1 : Nat) (l1 : List Int) (r : List Int) (w : World) (hr0 : Kd.C (Kd.int .i64) w A0 l0.length l0) (hc0 : l0.length ≤ c0) (hr1 : Kd.C (Kd.int .i64) w A1 l1.length l1) (hc1 : l1.length ≤ c1) (h : spec_OccurrencesOf.f k l0 l1 = some r) :
  Calls Try.prog 76 #[.slice A0 l0.length c0, .slice A1 l1.length c1] w fun e w' => ∃ v0_ : Value, e = .returned (v0_) ∧ Kd.R (Kd.int .i64) 3 w' w.heap.size (fun _ => True) v0_ r ∧ Below w.heap.size w w' := by
 have HR0 := Aside0.mk hr0
 have HC0 := Aside0.mk hc0
 clear hr0 hc0
 have HR1 := Aside0.mk hr1
 have HC1 := Aside0.mk hc1
 clear hr1 hc1
 have HB := Aside0.mk (Below.refl w.heap.size w)
 have H : (spec_OccurrencesOf.l0 k l0 l1 (([] : List Int)) 0) = some r := h
 clear h
 obtain ⟨y240, hy240⟩ : ∃ y_ : List Int, y_ = (([] : List Int)) := ⟨_, rfl⟩
 replace H : (spec_OccurrencesOf.l0 k l0 l1 y240 0) = some r := by first | (rw [hy240]; with_reducible exact H) | (have H2_ := (Option.bind_some _ _).symm.trans H; rw [hy240]; with_reducible exact H2_) | (have H2_ := (Option.bind_some _ _).symm.trans H; with_reducible exact H2_) | with_reducible exact H | (rw [hy240]; exact H) | exact H
 have Ny240 := Aside0.mk hy240
 clear hy240
 have H' := Aside0.mk H
 clear H
 go_enter Try.func76, Try.ntmps76
 go_wp2_with (first | ((with_reducible refine gate_dst (N := 7) rfl ?_); refine Kd.R_lit (Kd.int .i64) _ 3 ?hg (N := 7) ?hd (xs := ([] : List Int)) (inner := []) (ok := fun _ => True) (okp := fun _ => True) ?hr ?hp (fun _ hk => hk) trivial (Below.refl _ _) (Nat.le_refl _) (by simp) ?_; (case hd => rfl); (case hg => rfl); (case hr => first | (go_simp; done) | (go_simp; rfl)); (case hp => exact (Reps.none _ _)); intro v241 w3 ho4 hb hg_ hnew_; clear hg_ hnew_; (first | rw [← Ny240.out] at ho4 | (simp only [Int.reduceToNat] at ho4; rw [← Ny240.out] at ho4)); have n0_ := Aside0.mk (Kd.R_lower ho4 (below_size G.bel)); have n1_ := Aside0.mk (below_step G.bel hb); clear HB; have HO242 := n0_; have HB := n1_; clear n0_ n1_; clear hb ho4))
 go_loopg [5, 6] k (fun kq v5 v6 w' => ∃ (x5_1 : List Int) (x6_1 : Int), v6 = .int .i64 x6_1 ∧ Aside0 (spec_OccurrencesOf.l0 kq l0 l1 x5_1 x6_1 = some r) ∧ Aside0 (kq ≤ k) ∧ Aside0 (Kd.R (Kd.int .i64) 3 w' w.heap.size (fun _ => True) v5 x5_1) ∧ Aside0 (Below w.heap.size w w'))
 case atStart => exact ⟨(y240), (0), G.tr, H', ⟨Nat.le_refl _⟩, ⟨G.kR HO242.out⟩, ⟨G.bel⟩⟩
 case round =>
  clear H'
  try clear c1; try clear p2
  obtain ⟨x5_1, x6_1, rfl, HA, HK1, HO_5, HB⟩ := hrel
  cases gk with
  | zero => exact absurd HA.out (by simp [spec_OccurrencesOf.l0])
  | succ k1 =>
   have H := HA.out
   clear HA
   simp only [spec_OccurrencesOf.l0] at H
   by_cases c5 : (wrap64 (x6_1 + (l1.length : Int))) ≤ (l0.length : Int)
   ·rw [if_pos c5] at H
    have c5b0 : decide ((wrap64 (x6_1 + (l1.length : Int))) ≤ (l0.length : Int)) = true := decide_eq_true c5
    clear c5
    by_cases c6 : 0 ≤ x6_1
    ·rw [if_pos c6] at H
     have c6b0 := eq_true c6
     have c6b1 : decide (0 ≤ x6_1) = true := decide_eq_true c6
     clear c6
     by_cases c7 : x6_1 ≤ (wrap64 (x6_1 + (l1.length : Int)))
     ·rw [if_pos c7] at H
      have c7b0 := eq_true c7
      have c7b1 : decide (x6_1 ≤ (wrap64 (x6_1 + (l1.length : Int)))) = true := decide_eq_true c7
      have c8b0 := eq_true (G.odt : (wrap64 (x6_1 + (l1.length : Int))) ≤ (l0.length : Int))
      obtain ⟨t244, A9, H⟩ := G.bx H
      by_cases c10 : t244 = true
      ·subst c10
       rw [if_pos rfl] at H
       by_cases c11 : x5_1.length < 17592186044416
       ·rw [if_pos c11] at H
        have LMc11 := Aside0.mk c11
        clear c11
        obtain ⟨y245, hy245⟩ : ∃ y_ : List Int, y_ = (x5_1 ++ [x6_1]) := ⟨_, rfl⟩
        replace H : (spec_OccurrencesOf.l0 k1 l0 l1 y245 (wrap64 (x6_1 + 1))) = some r := by first | (rw [hy245]; with_reducible exact H) | (have H2_ := (Option.bind_some _ _).symm.trans H; rw [hy245]; with_reducible exact H2_) | (have H2_ := (Option.bind_some _ _).symm.trans H; with_reducible exact H2_) | with_reducible exact H | (rw [hy245]; exact H) | exact H
        have Ny245 := Aside0.mk hy245
        clear hy245
        have H' := Aside0.mk H
        clear H
        obtain ⟨i012, hi012, _, hsz12, _⟩ := info_parts info3
        obtain ⟨A12, hcut12, hA12, hC12⟩ := print_mid_of (P := Try.prog) (Value.int .i64) 0 22 3 .i64 .i64 Try.underlying22 hi012 hsz12 A0 c0 l0 x6_1 (wrap64 (x6_1 + (l1.length : Int))) G.odt (by first | omega | exact G.odt) G.odt HC0.out
        have HR243 := Aside0.mk (Kd.C_of_reads (h1 := fun _ => rfl) (hA12 _ (Kd.reads_of_C HR0.out)))
        have HC243 := Aside0.mk hC12
        clear hA12 hC12 hi012 hsz12
        go_wp2_with (first | ((with_reducible refine gate_callee (f := 139) rfl ?_); refine goesL_ (some 25) rfl rfl Try.func139 (by kernel_rfl) rfl #[.slice A12 ((l0.take ((wrap64 (x6_1 + (l1.length : Int))) : Int).toNat).drop (x6_1 : Int).toNat).length (c0 - x6_1.toNat), .slice A1 l1.length c1] rfl (by (try simp only [List.map_toArray, List.map_cons, List.map_nil]); first | done | (rw [show ((l0.take ((wrap64 (x6_1 + (l1.length : Int))) : Int).toNat).drop (x6_1 : Int).toNat).length = ((wrap64 (x6_1 + (l1.length : Int))).toNat - x6_1.toNat) from (by rw [List.length_drop, List.length_take]; have h_ : ((wrap64 (x6_1 + (l1.length : Int))) : Int) ≤ (l0.length : Int) := G.odt; omega)] <;> rfl) | rfl | (simp only [List.length_drop, List.length_take]; rfl)) ?_; (with_reducible refine (spec_l3Same.calls k1 _ _ ((l0.take ((wrap64 (x6_1 + (l1.length : Int))) : Int).toNat).drop (x6_1 : Int).toNat) _ _ l1 true _ ?side1 ?side2 ?side3 ?side4 A9.out).mono ?_); (case side1 => exact G.kC (Kd.C_below HR243.out HB.out)); (case side2 => exact HC243.out); (case side3 => exact G.kC (Kd.C_below HR1.out HB.out)); (case side4 => exact HC1.out); rintro e w' ⟨rfl, ⟨nd, rfl⟩⟩; refine ⟨_, rfl, ?_⟩) | ((with_reducible refine gate_builtin (b := .append) (xs := #[.tmp 26, .tmp 28]) rfl ?_); at_builtin; refine Kd.R_append (Kd.int .i64) (w0 := w) w.heap.size rfl (.tmp 26) (.tmp 28) 22 3 (.int .i64 0) 8 rfl Try.underlying22 info3 rfl (by decide) (by omega) u5 x5_1 x6_1 [.int .i64 x6_1] (fun _ => True) (fun _ => False) rfl rfl ?aP (fun _ hk => hk.elim) ?aF ?aO ?aB ?aS ?aL ?_; (case aP => exact rfl); (case aB => exact G.bel); (case aF => exact (fun _ _ => trivial)); (case aO => exact (G.kR HO_5.out)); (case aS => exact (below_size G.bel)); (case aL => have := LMc11.out; omega); intro v246 w13 ho hb hg hat; rw [← Ny245.out] at ho; have n0_ := Aside0.mk (hb); have n1_ := Aside0.mk (ho); clear HB; clear HO_5; have HB := n0_; have HO247 := n1_; clear n0_ n1_; clear ho hb hg hat))
        go_roundg k1
        case measure => have := HK1.out; omega
        case rel => exact ⟨(y245), (wrap64 (x6_1 + 1)), G.tr, H', ⟨by have := HK1.out; omega⟩, ⟨G.kR HO247.out⟩, ⟨G.bel⟩⟩
       ·rw [if_neg c11] at H
        exact absurd H (by simp)
      ·replace c10 := Bool.eq_false_iff.mpr c10
       subst c10
       rw [if_neg (show ¬ (false = true) by decide)] at H
       have H' := Aside0.mk H
       clear H
       obtain ⟨i014, hi014, _, hsz14, _⟩ := info_parts info3
       obtain ⟨A14, hcut14, hA14, hC14⟩ := print_mid_of (P := Try.prog) (Value.int .i64) 0 22 3 .i64 .i64 Try.underlying22 hi014 hsz14 A0 c0 l0 x6_1 (wrap64 (x6_1 + (l1.length : Int))) G.odt (by first | omega | exact G.odt) G.odt HC0.out
       have HR243 := Aside0.mk (Kd.C_of_reads (h1 := fun _ => rfl) (hA14 _ (Kd.reads_of_C HR0.out)))
       have HC243 := Aside0.mk hC14
       clear hA14 hC14 hi014 hsz14
       go_wp2_with (first | ((with_reducible refine gate_callee (f := 139) rfl ?_); refine goesL_ (some 25) rfl rfl Try.func139 (by kernel_rfl) rfl #[.slice A14 ((l0.take ((wrap64 (x6_1 + (l1.length : Int))) : Int).toNat).drop (x6_1 : Int).toNat).length (c0 - x6_1.toNat), .slice A1 l1.length c1] rfl (by (try simp only [List.map_toArray, List.map_cons, List.map_nil]); first | done | (rw [show ((l0.take ((wrap64 (x6_1 + (l1.length : Int))) : Int).toNat).drop (x6_1 : Int).toNat).length = ((wrap64 (x6_1 + (l1.length : Int))).toNat - x6_1.toNat) from (by rw [List.length_drop, List.length_take]; have h_ : ((wrap64 (x6_1 + (l1.length : Int))) : Int) ≤ (l0.length : Int) := G.odt; omega)] <;> rfl) | rfl | (simp only [List.length_drop, List.length_take]; rfl)) ?_; (with_reducible refine (spec_l3Same.calls k1 _ _ ((l0.take ((wrap64 (x6_1 + (l1.length : Int))) : Int).toNat).drop (x6_1 : Int).toNat) _ _ l1 false _ ?side1 ?side2 ?side3 ?side4 A9.out).mono ?_); (case side1 => exact G.kC (Kd.C_below HR243.out HB.out)); (case side2 => exact HC243.out); (case side3 => exact G.kC (Kd.C_below HR1.out HB.out)); (case side4 => exact HC1.out); rintro e w' ⟨rfl, ⟨nd, rfl⟩⟩; refine ⟨_, rfl, ?_⟩))
       go_roundg k1
       case measure => have := HK1.out; omega
       case rel => exact ⟨(x5_1), (wrap64 (x6_1 + 1)), G.tr, H', ⟨by have := HK1.out; omega⟩, ⟨G.kR HO_5.out⟩, ⟨G.bel⟩⟩
     ·rw [if_neg c7] at H
      exact absurd H (by simp)
    ·rw [if_neg c6] at H
     exact absurd H (by simp)
   ·rw [if_neg c5] at H
    have c5b0 : decide ((wrap64 (x6_1 + (l1.length : Int))) ≤ (l0.length : Int)) = false := decide_eq_false c5
    clear c5
    obtain rfl := Option.some.inj H
    go_wp2
    go_ret
    exact ⟨_, G.er, G.kR HO_5.out, G.bel⟩

end Go.Proofs.Ytolikggioekalab.PFnWords
