/- Automata with output as the draws make them; short ways to say what is kept. No condition. -/
import Derived.Test.YtolikggioekalabGreatVG0
namespace Go.Proofs.YtolikggioekalabGreat.G
open Go.RowKit Go.Proofs.YtolikggioekalabGreatW.PrintWords Go.Proofs.YtolikggioekalabGreatW.PrintMore
set_option linter.unusedVariables false
theorem bel {P : Prop} (h : P := by repeat (first | (with_reducible first | exact HB.out | apply below_alloc | apply pw_below_drewN | apply below_drew1) | exact HB.out)) : P := h
theorem box1 {w : World} {g : Nat} {t : TypeId} {a : Value} (h : w.heap[g]? = some (.cells #[a] t (0, 0))) : ∀ W, Below w.heap.size w W → W.cell? ⟨g, 0, none⟩ = some a ∧ W.frozen? ⟨g, 0, none⟩ = false := fun W hb => by
  have h' := blk_below h hb
  exact ⟨(blk_cell h' 0).trans rfl, blk_frozen h' 0⟩
theorem box3 {w : World} {g : Nat} {t : TypeId} {a b c : Value} (h : w.heap[g]? = some (.cells #[a, b, c] t (0, 0))) : ∀ W, Below w.heap.size w W → W.cell? ⟨g, 0, none⟩ = some a ∧ W.cell? ⟨g, 1, none⟩ = some b ∧ W.cell? ⟨g, 2, none⟩ = some c ∧ W.frozen? ⟨g, 0, none⟩ = false ∧ W.frozen? ⟨g, 1, none⟩ = false ∧ W.frozen? ⟨g, 2, none⟩ = false := fun W hb => by
  have h' := blk_below h hb
  exact ⟨(blk_cell h' 0).trans rfl, (blk_cell h' 1).trans rfl, (blk_cell h' 2).trans rfl, blk_frozen h' 0, blk_frozen h' 1, blk_frozen h' 2⟩
structure SeqW (b : Int) (rows : List (List Int)) (out : List Int) : Prop where
  b2 : 2 ≤ b
  b4 : b ≤ 4
  n1 : 1 ≤ rows.length
  n16 : rows.length ≤ 16
  olen : out.length = rows.length
  row : ∀ r ∈ rows, (r.length : Int) = b ∧ ∀ x ∈ r, 0 ≤ x ∧ x < (rows.length : Int)
  outs : ∀ x ∈ out, 0 ≤ x ∧ x ≤ 3
theorem mem_getD {α : Type} {l : List α} {d : α} {i : Nat} (h : i < l.length) : l.getD i d ∈ l := by rw [getD_eq h]; exact List.getElem_mem _
theorem SeqW.len {b : Int} {rows : List (List Int)} {out : List Int} (h : SeqW b rows out) {x : Int} (h0 : 0 ≤ x) (h1 : x < (rows.length : Int)) : ((rows.getD x.toNat []).length : Int) = b := (h.row _ (mem_getD (by omega))).1
theorem SeqW.at_ {b : Int} {rows : List (List Int)} {out : List Int} (h : SeqW b rows out) {x y : Int} (h0 : 0 ≤ x) (h1 : x < (rows.length : Int)) (h2 : 0 ≤ y) (h3 : y < b) : 0 ≤ rd (rows.getD x.toNat []) y ∧ rd (rows.getD x.toNat []) y < (rows.length : Int) := by
  have := h.len h0 h1
  exact (h.row _ (mem_getD (by omega))).2 _ (mem_getD (by omega))
theorem SeqW.out_ {b : Int} {rows : List (List Int)} {out : List Int} (h : SeqW b rows out) {x : Int} (h0 : 0 ≤ x) (h1 : x < (rows.length : Int)) : 0 ≤ rd out x ∧ rd out x ≤ 3 := h.outs _ (mem_getD (by have := h.olen; omega))
theorem heap_push (w : World) (o : Obj) (k : Nat) : (w.alloc o).heap[k]? = if k = w.heap.size then some o else w.heap[k]? := by
  show (w.heap.push o)[k]? = _
  rw [Array.getElem?_push]
theorem heap_hit {w : World} {o : Obj} {k : Nat} (h : k = w.heap.size) : (w.alloc o).heap[k]? = some o := by rw [heap_push, if_pos h]
theorem heap_miss {w : World} {o : Obj} {k : Nat} (h : k < w.heap.size) : (w.alloc o).heap[k]? = w.heap[k]? := by rw [heap_push, if_neg (by omega)]
theorem hlook {P : Prop} (h : P := by repeat (first | (refine heap_hit ?_; first | rfl | (simp; done)) | (refine (heap_miss ?_).trans ?_; focus (simp <;> omega)))) : P := h
theorem lit_int {W : World} {g t : Nat} {l : List Int} (h : W.heap[g]? = some (.cells (nums .i64 l).toArray t (0, 0))) (hl : l.length ≤ 9223372036854775807) : Kd.C (Kd.int .i64) W (some ⟨g, 0, none⟩) l.length l :=
  Kd.C_of_reads (d := (0 : Int)) ⟨rfl, hl, fun _ => ⟨_, rfl, fun j hj => by
    rw [add_plain, blk_cell h]
    simp [nums, hj]⟩⟩
theorem lit_str {W : World} {g t : Nat} {l : List ByteArray} (h : W.heap[g]? = some (.cells (pw_strs l).toArray t (0, 0))) (hl : l.length ≤ 9223372036854775807) : Kd.C Kd.string W (some ⟨g, 0, none⟩) l.length l :=
  Kd.C_of_reads (d := ByteArray.empty) ⟨rfl, hl, fun _ => ⟨_, rfl, fun j hj => by
    rw [add_plain, blk_cell h]
    simp [pw_strs, hj]⟩⟩
def LitRow (W : World) (b : Nat) (v : Value) (r : List Int) : Prop := ∃ g, v = .slice (some ⟨g, 0, none⟩) r.length r.length ∧ b ≤ g ∧ r.length ≤ 100 ∧ W.heap[g]? = some (.cells (nums .i64 r).toArray 3 (0, 0))
def LitRows (W : World) (b : Nat) : List Value → List (List Int) → Prop
  | [], [] => True
  | v :: vs, r :: rs => LitRow W b v r ∧ LitRows W b vs rs
  | _, _ => False
theorem LitRows.at_ {W : World} {b : Nat} : ∀ {vs : List Value} {rs : List (List Int)}, LitRows W b vs rs → ∀ (j : Nat) (p : List Int), rs[j]? = some p → ∃ v, vs[j]? = some v ∧ LitRow W b v p
  | [], [], _, j, p, h => by simp at h
  | v :: vs, r :: rs, ⟨h1, h2⟩, 0, p, h => by
    simp only [List.getElem?_cons_zero, Option.some.injEq] at h
    subst h
    exact ⟨v, rfl, h1⟩
  | v :: vs, r :: rs, ⟨h1, h2⟩, j + 1, p, h => LitRows.at_ h2 j p (by simpa using h)
  | [], _ :: _, h, _, _, _ => h.elim
  | _ :: _, [], h, _, _, _ => h.elim
theorem LitRow.step {W W' : World} {b : Nat} {v : Value} {r : List Int} (h : LitRow W b v r) (hW : ∀ k, b ≤ k → k < W.heap.size → W'.heap[k]? = W.heap[k]?) : LitRow W' b v r := by
  obtain ⟨g, e, h1, h2, h3⟩ := h
  exact ⟨g, e, h1, h2, (hW g h1 (blk_lt h3)).trans h3⟩
theorem lit_F {W : World} {b g t n : Nat} {vs : List Value} {rs : List (List Int)} (hn : n = rs.length) (hb : b ≤ g) (h : W.heap[g]? = some (.cells vs.toArray t (0, 0))) (hl : rs.length ≤ 100) (hr : LitRows W b vs rs) : Kd.F (Kd.slice 3 (Kd.int .i64)) W (fun k => b ≤ k) (some ⟨g, 0, none⟩) n rs := by
  subst hn
  intro W' hW
  refine ⟨rfl, by omega, fun _ => ⟨_, rfl, fun j p hj => ?_⟩⟩
  obtain ⟨v, hv, hlr⟩ := hr.at_ j p hj
  obtain ⟨gi, e, h1, h2, h3⟩ := hlr.step hW
  refine ⟨[v], rfl, ⟨_, _, by rw [e], Nat.le_refl _, lit_int h3 (by omega)⟩, fun i u hu => ?_⟩
  have : i = 0 := by
    have := (List.getElem?_eq_some_iff.1 hu).1
    simp at this
    exact this
  subst this
  have hu' : v = u := by simpa using hu
  subst hu'
  rw [add_plain, blk_cell ((hW g hb (blk_lt h)).trans h)]
  have e1 : j * (Kd.slice 3 (Kd.int .i64)).sz + 0 = j := by show j * 1 + 0 = j; omega
  rw [e1]
  simpa using hv
theorem lit_FI {W : World} {b g t n : Nat} {l : List Int} (hn : n = l.length) (hb : b ≤ g) (h : W.heap[g]? = some (.cells (nums .i64 l).toArray t (0, 0))) (hl : l.length ≤ 100) : Kd.F (Kd.int .i64) W (fun k => b ≤ k) (some ⟨g, 0, none⟩) n l := by
  subst hn
  exact fun W' hW => lit_int ((hW g hb (blk_lt h)).trans h) (by omega)
def stA (rows : List (List Int)) (d : List Int) : Int := d.foldl (fun s x => rd (rows.getD s.toNat []) x) 0
theorem SeqW.st {b : Int} {rows : List (List Int)} {out : List Int} (h : SeqW b rows out) : ∀ (d : List Int) (s : Int), (∀ x ∈ d, 0 ≤ x ∧ x < b) → 0 ≤ s → s < (rows.length : Int) → 0 ≤ d.foldl (fun s x => rd (rows.getD s.toNat []) x) s ∧ d.foldl (fun s x => rd (rows.getD s.toNat []) x) s < (rows.length : Int)
  | [], s, _, h0, h1 => ⟨h0, h1⟩
  | x :: d, s, hd, h0, h1 => by
    have hx := hd x List.mem_cons_self
    have := h.at_ h0 h1 hx.1 hx.2
    exact h.st d _ (fun y hy => hd y (List.mem_cons_of_mem _ hy)) this.1 this.2
theorem SeqW.stA {b : Int} {rows : List (List Int)} {out : List Int} (h : SeqW b rows out) {d : List Int} (hd : ∀ x ∈ d, 0 ≤ x ∧ x < b) : 0 ≤ stA rows d ∧ stA rows d < (rows.length : Int) := h.st d 0 hd (Int.le_refl _) (by have := h.n1; omega)
theorem stA_take (rows : List (List Int)) (d : List Int) {y : Int} (h0 : 0 ≤ y) (h1 : y < (d.length : Int)) : stA rows (d.take (y + 1).toNat) = rd (rows.getD (stA rows (d.take y.toNat)).toNat []) (rd d y) := by
  rw [show (y + 1).toNat = y.toNat + 1 by omega, take_succ_getD d y.toNat 0 (by omega)]
  unfold stA
  rw [List.foldl_append]
  rfl
theorem mem_take_of {d : List Int} {P : Int → Prop} (h : ∀ x ∈ d, P x) (n : Nat) : ∀ x ∈ d.take n, P x := fun x hx => h x (List.mem_of_mem_take hx)
theorem wsx {x n : Int} (h0 : 0 ≤ x) (h1 : x < n) (hn : n ≤ 4611686018427387904) : wrap64 (x + 1) = x + 1 := by unfold wrap64; omega
def SeqRet (w' : World) (b : Nat) (v : Value) : Prop := ∃ (ba : Int) (A1 : Option Addr) (c1 : Nat) (rows : List (List Int)) (A2 : Option Addr) (c2 : Nat) (out : List Int), v = .agg #[.int .i64 ba, .slice A1 rows.length c1, .slice A2 out.length c2] ∧ SeqW ba rows out ∧ Kd.F (Kd.slice 3 (Kd.int .i64)) w' (fun k => b ≤ k) A1 rows.length rows ∧ Kd.F (Kd.int .i64) w' (fun k => b ≤ k) A2 out.length out
theorem SeqRet.step {W W1 : World} {b : Nat} {v : Value} (h : SeqRet W b v) (hm : ∀ k, b ≤ k → k < W.heap.size → W1.heap[k]? = W.heap[k]?) : SeqRet W1 b v := by
  obtain ⟨ba, A1, c1, rows, A2, c2, out, e, hw, h1, h2⟩ := h
  exact ⟨ba, A1, c1, rows, A2, c2, out, e, hw, Kd.F_step h1 hm, Kd.F_step h2 hm⟩
theorem SeqRet.below {W W1 : World} {b : Nat} {v : Value} (h : SeqRet W b v) (hb : Below W.heap.size W W1) : SeqRet W1 b v := h.step (fun k _ hk => hb.block k hk)
theorem SeqRet.keep {W W1 : World} {b g : Nat} {v : Value} (h : SeqRet W b v) (hk : KeepBut W W1 g none) (hg : g < b) : SeqRet W1 b v := h.step (fun k h1 hlt => hk.2 k hlt (by omega) (by simp))
theorem SeqRet.far {W : World} {b : Nat} {v : Value} (h : SeqRet W b v) {p : Addr} (hp : p.block < b) (u : Value) : SeqRet (W.setCell p u) b v := h.step (fun k h1 _ => Below.heap_setCell W p u k (by omega))
theorem SeqRet.mono {W : World} {b b' : Nat} {v : Value} (h : SeqRet W b v) (hb : b' ≤ b) : SeqRet W b' v := by
  obtain ⟨ba, A1, c1, rows, A2, c2, out, e, hw, h1, h2⟩ := h
  exact ⟨ba, A1, c1, rows, A2, c2, out, e, hw, Kd.F_mono h1 (fun k hk => Nat.le_trans hb hk), Kd.F_mono h2 (fun k hk => Nat.le_trans hb hk)⟩
end Go.Proofs.YtolikggioekalabGreat.G
