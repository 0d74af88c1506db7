/- A row of rows told by its headers: rows of one's own that lie apart; what a change of the row's own block, and of no other, leaves of it. No condition. -/
import Derived.Test.YtolikggioekalabGreatVGCompact
import Derived.Shelf.SlSortCmp.Whole1
import Derived.Shelf.SlSortCmp.NoneTotal
import Derived.Laws.IdiomCopy
import Derived.Lib.SliceRun
namespace Go.Proofs.YtolikggioekalabGreat.G
open Go.RowKit Go.Proofs.YtolikggioekalabGreatW.PrintWords Go.Proofs.YtolikggioekalabGreatW.PrintMore
set_option linter.unusedVariables false
def Pile (ei er : Nat) (w : World) (base : Nat) (ok : Nat → Prop) (v : Value) (ps : List (Value × List Int)) : Prop :=
  (∀ k, v.ownBlock = some k → ok k) ∧ w.ownsRow base er 1 v ps.length (ps.map (·.1)) ∧
  (∀ p ∈ ps, (Kd.int .i64).R ei w base (fun k => ok k ∧ some k ≠ v.ownBlock) p.1 p.2) ∧
  ps.Pairwise (fun a b => ∀ k, a.1.ownBlock = some k → b.1.ownBlock ≠ some k)
theorem take_one {α : Type} {l : List α} {i : Nat} (h : i < l.length) : (l.drop (i * 1)).take 1 = [l[i]] := by
  rw [Nat.mul_one, List.drop_eq_getElem_cons h]
  rfl
theorem Pile_of_S {ei er : Nat} {w : World} {base : Nat} {ok : Nat → Prop} {v : Value} {xs : List (List Int)} (h : Kd.S (Kd.slice ei (Kd.int .i64)) er w base ok v xs) :
    ∃ ps : List (Value × List Int), ps.map (·.2) = xs ∧ Pile ei er w base ok v ps := by
  obtain ⟨f, h0, inner, ho, hr⟩ := h
  rw [List.length_zipIdx] at ho
  have hl : inner.length = xs.length := by have := ho.1; change inner.length = xs.length * 1 at this; omega
  have key : ∀ i (h1 : i < inner.length) (h2 : i < xs.length), (Kd.int .i64).R ei w base (fun k => (ok k ∧ some k ≠ v.ownBlock) ∧ f k = i) inner[i] xs[i] := by
    intro i h1 h2
    have hM := hr.2 i (xs[i], i) (Kd.zip_at (List.getElem?_eq_getElem h2))
    obtain ⟨v', e, hR⟩ := hM
    change (inner.drop (i * 1)).take 1 = [v'] at e
    rw [take_one h1] at e
    injection e with e _
    subst e
    exact hR
  refine ⟨inner.zip xs, List.map_snd_zip (by omega), h0, ?_, ?_, ?_⟩
  · rw [List.map_fst_zip (by omega), List.length_zip, hl, Nat.min_self]
    rw [hl] at *
    exact ho
  · intro p hp
    obtain ⟨i, hi, rfl⟩ := List.getElem_of_mem hp
    have hi' : i < inner.length ∧ i < xs.length := by rw [List.length_zip] at hi; omega
    rw [List.getElem_zip]
    exact Kd.R_mono (key i hi'.1 hi'.2) (fun _ hk => hk.1)
  · rw [List.pairwise_iff_getElem]
    intro i j hi hj hij k h1 h2
    have hi' : i < inner.length ∧ i < xs.length := by rw [List.length_zip] at hi; omega
    have hj' : j < inner.length ∧ j < xs.length := by rw [List.length_zip] at hj; omega
    rw [List.getElem_zip] at h1 h2
    have a := ((key i hi'.1 hi'.2).1 k h1).2
    have b := ((key j hj'.1 hj'.2).1 k h2).2
    omega
theorem Pile.toS {ei er : Nat} {w : World} {base : Nat} {ok : Nat → Prop} {v : Value} {ps : List (Value × List Int)} (h : Pile ei er w base ok v ps) :
    Kd.S (Kd.slice ei (Kd.int .i64)) er w base ok v (ps.map (·.2)) := by
  obtain ⟨h0, ho, hm, hp⟩ := h
  rw [List.pairwise_iff_getElem] at hp
  refine ⟨fun k => ps.findIdx (fun p => p.1.ownBlock == some k), h0, ps.map (·.1), ?_, ?_, ?_⟩
  · rw [List.length_zipIdx, List.length_map]; exact ho
  · rw [List.length_zipIdx, List.length_map, List.length_map]; exact (Nat.mul_one _).symm
  · intro j p hj
    rw [List.getElem?_zipIdx] at hj
    by_cases hjl : j < ps.length
    · rw [List.getElem?_map, List.getElem?_eq_getElem hjl] at hj
      simp only [Option.map_some, Nat.zero_add, Option.some.injEq] at hj
      subst hj
      refine ⟨ps[j].1, ?_, ?_⟩
      · change ((ps.map (·.1)).drop (j * 1)).take 1 = _
        rw [take_one (by simpa using hjl)]
        simp
      · have hR := hm ps[j] (List.getElem_mem hjl)
        refine Kd.R_mono (Kd.R_tight rfl hR) (fun k hk => ⟨hR.1 k hk.symm, ?_⟩)
        change ps.findIdx (fun p => p.1.ownBlock == some k) = j
        rw [List.findIdx_eq hjl]
        refine ⟨by simp [hk], fun i hi => ?_⟩
        have := hp i j (by omega) hjl hi k
        have hne : ps[i].1.ownBlock ≠ some k := fun e => this e hk.symm
        simp [hne]
    · rw [List.getElem?_eq_none (by simp; omega)] at hj
      simp at hj
structure Turned (w W : World) (g cap er : Nat) (hs : List Value) : Prop where
  os : W.os = w.os
  tape : W.tape = w.tape
  output : W.output = w.output
  size : w.heap.size ≤ W.heap.size
  block : ∀ k, k < w.heap.size → k ≠ g → W.heap[k]? = w.heap[k]?
  row : ∃ cur, W.heap[g]? = some (.cells cur er (0, 0)) ∧ cur.size = cap ∧ cur.toList.take hs.length = hs
theorem Turned.start {w : World} {g cap er n base : Nat} {hs : List Value} (h : w.ownsRow base er 1 (.slice (some ⟨g, 0, none⟩) n cap) n hs) : Turned w w g cap er hs := by
  refine ⟨rfl, rfl, rfl, Nat.le_refl _, fun _ _ _ => rfl, ?_⟩
  rcases h.2 with ⟨he, _⟩ | ⟨g', cap', cur, he, _, hh, _, _, hs', ht⟩
  · cases he
  · injection he with ea _ ec
    injection ea with ea
    injection ea with ea
    subst ea ec
    have hl := h.1
    rw [Nat.mul_one] at hl hs' ht
    exact ⟨cur, hh, hs', by rw [hl]; exact ht⟩
theorem Turned.below {w W : World} {g cap er : Nat} {hs : List Value} (h : Turned w W g cap er hs) {B : Nat} (hB : B ≤ g) (hB' : B ≤ w.heap.size) : Below B w W :=
  ⟨h.os, h.tape, h.output, h.size, fun k hk => h.block k (by omega) (by omega)⟩
theorem Turned.len {w W : World} {g cap er : Nat} {hs : List Value} (h : Turned w W g cap er hs) : hs.length ≤ cap := by
  obtain ⟨cur, _, hs', ht⟩ := h.row
  have h1 : (cur.toList.take hs.length).length = hs.length := by rw [ht]
  have h2 : cur.toList.length = cur.size := Array.length_toList
  rw [List.length_take] at h1
  omega
theorem Turned.cell {w W : World} {g cap er : Nat} {hs : List Value} (h : Turned w W g cap er hs) (i : Nat) (z : Value) (hi : i < hs.length) : W.cell? ⟨g, i, none⟩ = some (hs.getD i z) ∧ W.frozen? ⟨g, i, none⟩ = false := by
  obtain ⟨cur, hh, hs', ht⟩ := h.row
  refine ⟨?_, blk_frozen hh i⟩
  rw [blk_cell hh i, getD_eq hi]
  have h1 : i < (cur.toList.take hs.length).length := by rw [ht]; exact hi
  have h2 : (cur.toList.take hs.length)[i] = hs[i] := by simp only [ht]
  rw [List.getElem_take] at h2
  rw [← h2]
  rw [Array.getElem?_eq_getElem (by have := h.len; omega)]
  simp
theorem Turned.drewN {w W : World} {g cap er : Nat} {hs : List Value} (h : Turned w W g cap er hs) (m : Nat) : Turned w (W.drewN m) g cap er hs := ⟨h.os, h.tape, h.output, h.size, h.block, h.row⟩
theorem Turned.drew {w W : World} {g cap er : Nat} {hs : List Value} (h : Turned w W g cap er hs) : Turned w W.drew g cap er hs := ⟨h.os, h.tape, h.output, h.size, h.block, h.row⟩
theorem heap_setCell_at {W : World} {g i er : Nat} {u : Value} {cur : Array Value} (hh : W.heap[g]? = some (.cells cur er (0, 0))) : (W.setCell ⟨g, i, none⟩ u).heap[g]? = some (.cells (cur.setIfInBounds i u) er (0, 0)) := by
  rw [Go.Sort.setCell_eq]
  simp only [Go.Sort.mapBlock, Array.getElem?_modify, if_true, hh, Option.map_some, Go.Sort.onCells]
theorem Turned.setCell {w W : World} {g cap er : Nat} {hs : List Value} (h : Turned w W g cap er hs) (i : Nat) (u : Value) : Turned w (W.setCell ⟨g, i, none⟩ u) g cap er (hs.set i u) := by
  obtain ⟨cur, hh, hs', ht⟩ := h.row
  refine ⟨h.os, h.tape, h.output, by simpa using h.size, fun k hk hne => ?_, ?_⟩
  · rw [← h.block k hk hne]
    exact Below.heap_setCell W ⟨g, i, none⟩ u k hne
  · refine ⟨_, heap_setCell_at hh, by simpa using hs', ?_⟩
    rw [List.length_set, Array.toList_setIfInBounds]
    conv => rhs; rw [← ht]
    exact List.take_set
theorem Turned.setCells {w : World} {g cap er : Nat} : ∀ (vs : List Value) (o : Nat) {W : World} {hs : List Value}, Turned w W g cap er hs → hs.length ≤ o → Turned w (W.setCells g o vs) g cap er hs
  | [], _, _, _, h, _ => h
  | v :: vs, o, W, hs, h, ho => by
    have h1 := h.setCell o v
    rw [List.set_eq_of_length_le ho] at h1
    exact Turned.setCells vs (o + 1) h1 (by omega)
theorem Turned.take {w W : World} {g cap er : Nat} {hs : List Value} (h : Turned w W g cap er hs) (m : Nat) : Turned w W g cap er (hs.take m) := by
  obtain ⟨cur, hh, hs', ht⟩ := h.row
  refine ⟨h.os, h.tape, h.output, h.size, h.block, cur, hh, hs', ?_⟩
  conv => rhs; rw [← ht]
  rw [List.take_take, List.length_take]
theorem Turned.sorted {α : Type} [Inhabited α] {enc : α → Value} {w : World} {g cap er : Nat} {hs : List Value} (h : Turned w w g cap er hs) (m : Nat) (d : Array α) (os : Array Obj) (hn : hs.length = d.size) :
    Turned w (sortWorld enc w g 0 m d os) g cap er (d.toList.map enc) := by
  obtain ⟨cur, hh, hs', ht⟩ := h.row
  have hlt := blk_lt hh
  have hcap := h.len
  have hsz : (Go.Sort.putRow enc (Go.Sort.ahead w m) g 0 d).heap.size = w.heap.size := by simp [Go.Sort.putRow, Go.Sort.mapBlock, Go.Sort.ahead]
  have hget : ∀ k, k < w.heap.size → (sortWorld enc w g 0 m d os).heap[k]? = (Go.Sort.putRow enc (Go.Sort.ahead w m) g 0 d).heap[k]? := by
    intro k hk
    unfold sortWorld Go.Sort.grow
    simp only [Array.getElem?_append, hsz, hk, if_true]
  refine ⟨rfl, rfl, rfl, ?_, fun k hk hne => ?_, ?_⟩
  · unfold sortWorld
    rw [Go.Sort.size_grow, hsz]
    omega
  · rw [hget k hk]
    simp only [Go.Sort.putRow, Go.Sort.mapBlock, Array.getElem?_modify, if_neg (Ne.symm hne)]
    rfl
  · refine ⟨Go.Sort.putCells enc 0 d cur, ?_, by simp [Go.Sort.putCells, hs'], ?_⟩
    · rw [hget g hlt]
      simp only [Go.Sort.putRow, Go.Sort.mapBlock, Array.getElem?_modify, if_true]
      rw [show (Go.Sort.ahead w m).heap[g]? = some (.cells cur er (0, 0)) from hh]
      rfl
    · apply List.ext_getElem
      · simp [Go.Sort.putCells]; omega
      · intro i h1 h2
        have hi : i < d.size := by simpa using h2
        simp only [List.getElem_take, List.getElem_map, Array.getElem_toList, Go.Sort.putCells, Array.getElem_mapIdx]
        rw [if_pos ⟨Nat.zero_le _, by omega⟩, Nat.sub_zero, getElem!_pos d i hi]
theorem Pile.turned {ei er : Nat} {w W : World} {base g n cap : Nat} {ok : Nat → Prop} {ps ps' : List (Value × List Int)} (h : Pile ei er w base ok (.slice (some ⟨g, 0, none⟩) n cap) ps) (t : Turned w W g cap er (ps'.map (·.1)))
    (hm : ∀ p ∈ ps', p ∈ ps) (hp : ps'.Pairwise (fun a b => ∀ k, a.1.ownBlock = some k → b.1.ownBlock ≠ some k)) : Pile ei er W base ok (.slice (some ⟨g, 0, none⟩) ps'.length cap) ps' := by
  obtain ⟨h0, ho, hR, _⟩ := h
  refine ⟨fun k hk => h0 k (by simpa [Value.ownBlock] using hk), ?_, fun p hp' => ?_, hp⟩
  · refine ⟨by simp, .inr ?_⟩
    obtain ⟨cur, hh, hs', ht⟩ := t.row
    have hl := t.len
    rw [List.length_map] at hl ht
    rcases ho.2 with ⟨he, _⟩ | ⟨g', cap', cur', he, hb, _, _, hc, _, _⟩
    · cases he
    · injection he with ea _ ec
      injection ea with ea
      injection ea with ea
      subst ea ec
      exact ⟨g, cap, cur, rfl, hb, hh, hl, hc, by rw [Nat.mul_one]; exact hs', by rw [Nat.mul_one]; exact ht⟩
  · refine Kd.R_mono (Kd.R_step (hR p (hm p hp')) (fun k hk hlt => t.block k hlt (fun e => hk.2 (by rw [e]; rfl)))) (fun k hk => ⟨hk.1, fun e => hk.2 (by rw [e]; rfl)⟩)
end Go.Proofs.YtolikggioekalabGreat.G
