/- A word has fewer runs than letters (each run has a Lyndon root that begins behind its first letter, and no two runs have it at the same place); a square lies in a run. No condition. -/
import Derived.Test.YtolikggioekalabGreatVGRun
import Derived.Test.YtolikggioekalabGreatVGLet
namespace Go.Proofs.YtolikggioekalabGreat.G
open Go.RowKit
set_option linter.unusedVariables false
def neg (w : List Int) : List Int := w.map fun x => -x
theorem neg_length (w : List Int) : (neg w).length = w.length := by simp [neg]
theorem neg_getD (w : List Int) (i : Nat) : (neg w).getD i 0 = - w.getD i 0 := by
  unfold neg
  rw [List.getD_eq_getElem?_getD, List.getD_eq_getElem?_getD, List.getElem?_map]
  cases w[i]? <;> simp
theorem neg_per {w : List Int} {i k p : Nat} : Per (neg w) i k p ↔ Per w i k p := by
  unfold Per
  simp only [neg_getD]
  constructor
  · intro h t h1 h2; have := h t h1 h2; omega
  · intro h t h1 h2; have := h t h1 h2; omega
theorem root_in {W : List Int} {i k q : Nat} (hk : k ≤ W.length) (hq : 1 ≤ q) (h2 : i + 2 * q ≤ k) (hp : Per W i k q) (hl : ∀ s, 0 < s → s < q → ¬ Per W i k s) :
    ∃ a, i < a ∧ a + q ≤ k ∧ Lyn (cut W a (a + q)) := by
  have hul : (cut W (i + 1) (i + 1 + q)).length = q := by rw [cut_length (by omega)]; omega
  have hug : ∀ t, t < q → (cut W (i + 1) (i + 1 + q)).getD t 0 = W.getD (i + 1 + t) 0 := fun t ht => cut_getD (by omega)
  generalize cut W (i + 1) (i + 1 + q) = u at hul hug
  have hW : ∀ t, i ≤ t → t < k → W.getD t 0 = u.getD ((t + q - i - 1) % q) 0 := by
    intro t
    induction t using Nat.strongRecOn with
    | ind t ih =>
      intro h1 h3
      by_cases c : t = i
      · subst c
        rw [hp t (by omega) (by omega), show t + q - t - 1 = q - 1 by omega, Nat.mod_eq_of_lt (by omega), hug _ (by omega)]
        congr 1; omega
      · by_cases c2 : t < i + 1 + q
        · rw [show t + q - i - 1 = t - i - 1 + q by omega, Nat.add_mod_right, Nat.mod_eq_of_lt (by omega), hug _ (by omega)]
          congr 1; omega
        · have e := hp (t - q) (by omega) (by omega)
          rw [show t - q + q = t by omega] at e
          rw [← e, ih (t - q) (by omega) (by omega) (by omega), show t + q - i - 1 = t - q + q - i - 1 + q by omega, Nat.add_mod_right]
  have hprim : Prim u := by
    refine ⟨by omega, fun s h0 hs e => ?_⟩
    rw [hul] at hs
    refine hl s h0 hs (fun t h1 h3 => ?_)
    have hm : (t + q - i - 1) % q < q := Nat.mod_lt _ (by omega)
    have e1 := rot_getD u s ((t + q - i - 1) % q) (by omega) (by omega)
    rw [e, hul, Nat.add_mod_mod] at e1
    rw [hW t h1 (by omega), hW (t + s) (by omega) h3, e1]
    congr 2
    omega
  obtain ⟨j, hj, hL, _⟩ := lyn_exists hprim
  rw [hul] at hj
  refine ⟨i + 1 + j, by omega, by omega, ?_⟩
  have e : rot u j = cut W (i + 1 + j) (i + 1 + j + q) := by
    apply ext_getD 0
    · rw [rot_length, cut_length (by omega)]; omega
    · intro t ht
      rw [rot_length, hul] at ht
      rw [rot_getD _ _ _ (by omega) (by omega), cut_getD (by omega), hW _ (by omega) (by omega), hul]
      rw [show i + 1 + j + t + q - i - 1 = j + t + q by omega, Nat.add_mod_right]
  rwa [← e]
theorem root_long {W : List Int} {i k q a c : Nat} (hk : k ≤ W.length) (hq : 1 ≤ q) (hp : Per W i k q) (hs : k = W.length ∨ W.getD k 0 < W.getD (k - q) 0) (ha : i ≤ a) (ha2 : a + q ≤ k) (hc : a + q < c) (hc2 : c ≤ W.length) : ¬ Lyn (cut W a c) := by
  intro h
  have hl : (cut W a c).length = c - a := cut_length hc2
  obtain ⟨t, g1, g2, g3⟩ := lyn_letter h (s := q) (by omega) (by omega)
  rw [hl] at g1
  rw [cut_getD (by omega), cut_getD (by omega)] at g3
  have g2' : ∀ x, x < t → W.getD (a + x) 0 = W.getD (a + (q + x)) 0 := by
    intro x hx
    have := g2 x hx
    rwa [cut_getD (by omega), cut_getD (by omega)] at this
  by_cases c1 : a + q + t < k
  · have := hp (a + t) (by omega) (by omega)
    rw [show a + t + q = a + (q + t) by omega] at this
    omega
  · rcases hs with e | e
    · omega
    · by_cases c2 : a + q + t = k
      · rw [show a + (q + t) = k by omega, show a + t = k - q by omega] at g3
        omega
      · have := g2' (k - a - q) (by omega)
        rw [show a + (k - a - q) = k - q by omega, show a + (q + (k - a - q)) = k by omega] at this
        omega
theorem lyn_up {W : List Int} {a p : Nat} (hp : 2 ≤ p) (hw : a + p ≤ W.length) (h : Lyn (cut W a (a + p))) : W.getD a 0 < W.getD (a + p - 1) 0 ∧ ∃ d, (∀ x, x < d → W.getD (a + x) 0 = W.getD a 0) ∧ W.getD a 0 < W.getD (a + d) 0 := by
  have hl : (cut W a (a + p)).length = p := by rw [cut_length hw]; omega
  have key : ∀ s, 0 < s → s < p → W.getD a 0 = W.getD (a + s) 0 ∨ W.getD a 0 < W.getD (a + s) 0 := by
    intro s h0 hs
    obtain ⟨t, g1, g2, g3⟩ := lyn_letter h h0 (by omega)
    by_cases c : t = 0
    · subst c
      rw [hl] at g1
      rw [cut_getD (by omega), cut_getD (by omega)] at g3
      exact .inr (by simpa using g3)
    · have := g2 0 (by omega)
      rw [cut_getD (by omega), cut_getD (by omega)] at this
      exact .inl (by simpa using this)
  have hend : W.getD a 0 < W.getD (a + p - 1) 0 := by
    obtain ⟨t, g1, g2, g3⟩ := lyn_letter h (s := p - 1) (by omega) (by omega)
    rw [hl] at g1
    obtain rfl : t = 0 := by omega
    rw [cut_getD (by omega), cut_getD (by omega)] at g3
    rw [show a + p - 1 = a + (p - 1) by omega]
    simpa using g3
  refine ⟨hend, ?_⟩
  have find : ∀ n, n ≤ p → (∃ x, x < n ∧ W.getD a 0 ≠ W.getD (a + x) 0) → ∃ d, d < n ∧ (∀ x, x < d → W.getD (a + x) 0 = W.getD a 0) ∧ W.getD a 0 ≠ W.getD (a + d) 0 := by
    intro n
    induction n with
    | zero => rintro _ ⟨x, hx, _⟩; omega
    | succ n ih =>
      rintro hn ⟨x, hx, hne⟩
      by_cases c : ∃ x, x < n ∧ W.getD a 0 ≠ W.getD (a + x) 0
      · obtain ⟨d, h1, h2⟩ := ih (by omega) c
        exact ⟨d, by omega, h2⟩
      · have hx2 : x = n := by
          by_cases e : x = n
          · exact e
          · exact absurd ⟨x, by omega, hne⟩ c
        subst hx2
        refine ⟨x, by omega, fun y hy => ?_, hne⟩
        by_cases e : W.getD a 0 = W.getD (a + y) 0
        · exact e.symm
        · exact absurd ⟨y, hy, e⟩ c
  obtain ⟨d, h1, h2, h3⟩ := find p (Nat.le_refl _) ⟨p - 1, by omega, by rw [show a + (p - 1) = a + p - 1 by omega]; omega⟩
  refine ⟨d, h2, ?_⟩
  have hd : d ≠ 0 := fun e => by rw [e] at h3; exact h3 rfl
  rcases key d (by omega) h1 with e | e
  · exact absurd e h3
  · exact e
def dir (w : List Int) (k q : Nat) : List Int := if k < w.length ∧ w.getD (k - q) 0 < w.getD k 0 then neg w else w
theorem dir_cases (w : List Int) (k q : Nat) : dir w k q = w ∨ dir w k q = neg w := by
  unfold dir; split
  · exact .inr rfl
  · exact .inl rfl
theorem dir_length (w : List Int) (k q : Nat) : (dir w k q).length = w.length := by
  unfold dir; split
  · exact neg_length w
  · rfl
theorem dir_per {w : List Int} {k q i k' p : Nat} : Per (dir w k q) i k' p ↔ Per w i k' p := by
  unfold dir; split
  · exact neg_per
  · exact Iff.rfl
theorem dir_eq {w : List Int} {k q x y : Nat} (h : (dir w k q).getD x 0 < (dir w k q).getD y 0) : w.getD x 0 ≠ w.getD y 0 := by
  rcases dir_cases w k q with e | e
  · rw [e] at h; omega
  · rw [e, neg_getD, neg_getD] at h; omega
theorem RunN.stop {w : List Int} {i k q : Nat} (r : RunN w i k q) : k = (dir w k q).length ∨ (dir w k q).getD k 0 < (dir w k q).getD (k - q) 0 := by
  rw [dir_length]
  rcases r.right with e | e
  · exact .inl e
  · by_cases c : k = w.length
    · exact .inl c
    · right
      have := r.le
      unfold dir
      split
      · rename_i g
        rw [neg_getD, neg_getD]
        omega
      · rename_i g
        have : ¬ w.getD (k - q) 0 < w.getD k 0 := fun f => g ⟨by omega, f⟩
        omega
def RootAt (w : List Int) (i k q a : Nat) : Prop := i < a ∧ a + q ≤ k ∧ Lyn (cut (dir w k q) a (a + q))
theorem root_at {w : List Int} {i k q : Nat} (r : RunN w i k q) : ∃ a, RootAt w i k q a :=
  root_in (by rw [dir_length]; exact r.le) r.pos r.twice (dir_per.2 r.isPer) (fun s h0 hs hp => by
    have := lpN_least r.lt r.le h0 (dir_per.1 hp)
    rw [r.per] at this
    omega)
theorem run_one {w : List Int} {i k i' k' q a : Nat} (r : RunN w i k q) (r' : RunN w i' k' q) (h1 : i ≤ a) (h2 : a + q ≤ k) (h3 : i' ≤ a) (h4 : a + q ≤ k') : i = i' ∧ k = k' := by
  have hp := r.pos
  constructor
  · rcases Nat.lt_trichotomy i i' with g | g | g
    · rcases r'.left with e | e
      · omega
      · exact absurd (r.isPer (i' - 1) (by omega) (by omega)) e
    · exact g
    · rcases r.left with e | e
      · omega
      · exact absurd (r'.isPer (i - 1) (by omega) (by omega)) e
  · rcases Nat.lt_trichotomy k k' with g | g | g
    · rcases r.right with e | e
      · have := r'.le; omega
      · have := r'.isPer (k - q) (by omega) (by omega)
        rw [show k - q + q = k by omega] at this
        exact absurd this.symm e
    · exact g
    · rcases r'.right with e | e
      · have := r.le; omega
      · have := r.isPer (k' - q) (by omega) (by omega)
        rw [show k' - q + q = k' by omega] at this
        exact absurd this.symm e
theorem root_short {w : List Int} {i k q i' k' a : Nat} (r : RunN w i k 1) (h : RootAt w i k 1 a) (r' : RunN w i' k' q) (h' : RootAt w i' k' q a) (hq : 2 ≤ q) : False := by
  have h1 := h.1
  have h2 := h.2.1
  have h3 := h'.1
  have h4 := h'.2.1
  have e1 := r.isPer (a - 1) (by omega) (by omega)
  have e2 := r'.isPer (a - 1) (by omega) (by omega)
  have e3 := dir_eq (lyn_up hq (by rw [dir_length]; have := r'.le; omega) h'.2.2).1
  rw [show a - 1 + 1 = a by omega] at e1
  rw [show a - 1 + q = a + q - 1 by omega] at e2
  exact e3 (e1.symm.trans e2)
theorem root_same {w : List Int} {i k q i' k' q' a : Nat} (r : RunN w i k q) (h : RootAt w i k q a) (r' : RunN w i' k' q') (h' : RootAt w i' k' q' a) (e : dir w k q = dir w k' q') : q' ≤ q := by
  apply Nat.le_of_not_lt
  intro g
  have h1 := h.1
  have h4 := h'.2.1
  have := r'.le
  refine root_long (W := dir w k q) (i := i) (k := k) (q := q) (a := a) (c := a + q') (by rw [dir_length]; exact r.le) r.pos (dir_per.2 r.isPer) r.stop (by omega) h.2.1 (by omega) (by rw [dir_length]; omega) ?_
  rw [e]
  exact h'.2.2
theorem root_turn {w : List Int} {i k q i' k' q' a : Nat} (r : RunN w i k q) (h : RootAt w i k q a) (r' : RunN w i' k' q') (h' : RootAt w i' k' q' a) (e : dir w k q = w) (e' : dir w k' q' = neg w) (hq : 2 ≤ q) (hq' : 2 ≤ q') : False := by
  have hk := r.le
  have hk' := r'.le
  have h2 := h.2.1
  have h4 := h'.2.1
  obtain ⟨_, d, g1, g2⟩ := lyn_up hq (by rw [dir_length]; omega) h.2.2
  obtain ⟨_, d', g3, g4⟩ := lyn_up hq' (by rw [dir_length]; omega) h'.2.2
  rw [e] at g1 g2
  rw [e'] at g3 g4
  simp only [neg_getD] at g3 g4
  rcases Nat.lt_trichotomy d d' with g | g | g
  · have := g3 d g; omega
  · subst g; omega
  · have := g1 d' g; omega
theorem root_one {w : List Int} {i k q i' k' q' a : Nat} (r : RunN w i k q) (h : RootAt w i k q a) (r' : RunN w i' k' q') (h' : RootAt w i' k' q' a) : i = i' ∧ k = k' ∧ q = q' := by
  have hqq : q = q' := by
    by_cases e : dir w k q = dir w k' q'
    · have a1 := root_same r h r' h' e
      have a2 := root_same r' h' r h e.symm
      omega
    · have p1 := r.pos
      have p2 := r'.pos
      by_cases c1 : q = 1
      · by_cases c2 : q' = 1
        · omega
        · subst c1; exact (root_short r h r' h' (by omega)).elim
      · by_cases c2 : q' = 1
        · subst c2; exact (root_short r' h' r h (by omega)).elim
        · rcases dir_cases w k q with d1 | d1 <;> rcases dir_cases w k' q' with d2 | d2
          · exact absurd (d1.trans d2.symm) e
          · exact (root_turn r h r' h' d1 d2 (by omega) (by omega)).elim
          · exact (root_turn r' h' r h d2 d1 (by omega) (by omega)).elim
          · exact absurd (d1.trans d2.symm) e
  subst hqq
  have := run_one r r' (a := a) (by have := h.1; omega) h.2.1 (by have := h'.1; omega) h'.2.1
  exact ⟨this.1, this.2, rfl⟩
theorem nodup_le' {β : Type} [DecidableEq β] : ∀ (l l' : List β), l.Nodup → (∀ x ∈ l, x ∈ l') → l.length ≤ l'.length
  | [], _, _, _ => Nat.zero_le _
  | x :: l, l', hn, h => by
    have hn' := List.nodup_cons.1 hn
    have hx := h x List.mem_cons_self
    have := nodup_le' l (l'.erase x) hn'.2 (fun y hy => by
      have hne : y ≠ x := fun e => hn'.1 (e ▸ hy)
      exact (List.mem_erase_of_ne hne).2 (h y (List.mem_cons_of_mem _ hy)))
    rw [List.length_erase_of_mem hx] at this
    have : 0 < l'.length := List.length_pos_of_mem hx
    simp only [List.length_cons]
    omega
theorem runs_lt {α : Type} {mk : Nat → Nat → Nat → α} {key : α → List Int} (hk : ∀ i k q, key (mk i k q) = [(i : Int), (k : Int)]) (w : List Int) (hw : 0 < w.length) : (sruns mk w).length < w.length := by
  classical
  let f : α → Nat := fun x => if h : ∃ a i k q, RunN w i k q ∧ x = mk i k q ∧ RootAt w i k q a then Classical.choose h else 0
  have hf : ∀ x ∈ sruns mk w, ∃ i k q, RunN w i k q ∧ x = mk i k q ∧ RootAt w i k q (f x) := by
    intro x hx
    obtain ⟨_, i, k, q, r, e⟩ := mem_sruns.1 hx
    obtain ⟨a, ha⟩ := root_at r
    have h : ∃ a i k q, RunN w i k q ∧ x = mk i k q ∧ RootAt w i k q a := ⟨a, i, k, q, r, e, ha⟩
    have e2 : f x = Classical.choose h := dif_pos h
    rw [e2]
    exact Classical.choose_spec h
  have hn : ((sruns mk w).map f).Nodup := by
    refine List.Pairwise.map _ (R := fun x y => f x ≠ f y) (fun a b h => h) ?_
    have h1 := sruns_asc (mk := mk) hk w
    have h2 := List.pairwise_iff_getElem.1 h1
    refine List.pairwise_iff_getElem.2 (fun i j hi hj hij e => ?_)
    obtain ⟨a1, b1, c1, r1, e1, g1⟩ := hf _ (List.getElem_mem hi)
    obtain ⟨a2, b2, c2, r2, e2, g2⟩ := hf _ (List.getElem_mem hj)
    rw [e] at g1
    obtain ⟨rfl, rfl, rfl⟩ := root_one r1 g1 r2 g2
    have := h2 i j hi hj hij
    rw [e1, e2, cmpW_refl] at this
    omega
  have := nodup_le' _ (List.range' 1 (w.length - 1)) hn (fun y hy => by
    obtain ⟨x, hx, rfl⟩ := List.mem_map.1 hy
    obtain ⟨i, k, q, r, e, g⟩ := hf x hx
    have h1 := g.1
    have h2 := g.2.1
    have h3 := r.pos
    have h4 := r.le
    rw [List.mem_range'_1]
    omega)
  rw [List.length_map, List.length_range'] at this
  omega
theorem per_mul {w : List Int} {i k q : Nat} (h : Per w i k q) (m : Nat) : ∀ t, i ≤ t → t + m * q < k → w.getD t 0 = w.getD (t + m * q) 0 := by
  induction m with
  | zero => intro t _ _; simp
  | succ m ih =>
    intro t h1 h2
    rw [Nat.succ_mul] at h2 ⊢
    rw [ih t h1 (by omega), h (t + m * q) (by omega) (by omega), Nat.add_assoc]
theorem per_div {w : List Int} {i p q : Nat} (hp : 1 ≤ p) (hq : 1 ≤ q) (hqp : q ≤ p) (h : Per w i (i + 2 * p) p) (h2 : Per w i (i + 2 * p) q) (hl : ∀ s, 0 < s → s < q → ¬ Per w i (i + 2 * p) s) : p % q = 0 := by
  by_cases c : p % q = 0
  · exact c
  · exfalso
    have hr : p % q < q := Nat.mod_lt _ hq
    refine hl (p % q) (by omega) hr (fun t h1 h3 => ?_)
    have hd : p / q * q + p % q = p := by have := Nat.div_add_mod p q; rwa [Nat.mul_comm] at this
    by_cases c2 : t < i + p
    · rw [h t h1 (by omega)]
      have := per_mul h2 (p / q) (t + p % q) (by omega) (by omega)
      rw [this]
      congr 1
      omega
    · have e1 := h (t + p % q - p) (by omega) (by omega)
      have e2 := per_mul h2 (p / q) (t - p / q * q) (by omega) (by omega)
      rw [show t - p / q * q + p / q * q = t by omega] at e2
      rw [show t + p % q - p + p = t + p % q by omega] at e1
      rw [← e1, ← e2]
      congr 1
      omega
theorem per_left {w : List Int} {k q : Nat} (hq : 1 ≤ q) : ∀ i, i + q ≤ k → Per w i k q → ∃ a, a ≤ i ∧ Per w a k q ∧ (a = 0 ∨ w.getD (a - 1) 0 ≠ w.getD (a - 1 + q) 0)
  | 0, _, h => ⟨0, by omega, h, .inl rfl⟩
  | i + 1, hk, h => by
    by_cases c : w.getD i 0 = w.getD (i + q) 0
    · have h' : Per w i k q := fun t ht1 ht2 => by
        by_cases e : t = i
        · subst e; exact c
        · exact h t (by omega) ht2
      obtain ⟨a, h1, h2⟩ := per_left hq i (by omega) h'
      exact ⟨a, by omega, h2⟩
    · exact ⟨i + 1, by omega, h, .inr (by simpa using c)⟩
theorem per_right {w : List Int} {i q : Nat} (hq : 1 ≤ q) : ∀ n k, k + n = w.length → i + q ≤ k → Per w i k q → ∃ k', k ≤ k' ∧ k' ≤ w.length ∧ Per w i k' q ∧ (k' = w.length ∨ w.getD k' 0 ≠ w.getD (k' - q) 0)
  | 0, k, hn, hk, h => ⟨k, by omega, by omega, h, .inl (by omega)⟩
  | n + 1, k, hn, hk, h => by
    by_cases c : w.getD k 0 = w.getD (k - q) 0
    · have h' : Per w i (k + 1) q := fun t ht1 ht2 => by
        by_cases e : t + q = k
        · rw [e, c]; congr 1; omega
        · exact h t ht1 (by omega)
      obtain ⟨k', h1, h2⟩ := per_right hq n (k + 1) (by omega) (by omega) h'
      exact ⟨k', by omega, h2⟩
    · exact ⟨k, by omega, by omega, h, .inr c⟩
theorem Per.part {w : List Int} {i k q i' k' : Nat} (h : Per w i k q) (h1 : i ≤ i') (h2 : k' ≤ k) : Per w i' k' q := fun t ht1 ht2 => h t (by omega) (by omega)
theorem sq_in_run {w : List Int} {i p : Nat} (hp : 1 ≤ p) (hw : i + 2 * p ≤ w.length) (h : Per w i (i + 2 * p) p) : ∃ a k q, RunN w a k q ∧ a ≤ i ∧ i + 2 * p ≤ k ∧ p % q = 0 := by
  have hlt : i < i + 2 * p := by omega
  have hb := lpN_pos hlt hw
  have hq := lpN_per hlt hw
  have hqp := lpN_least hlt hw hp h
  have hl : ∀ s, 0 < s → s < lpN w i (i + 2 * p) → ¬ Per w i (i + 2 * p) s := fun s h0 hs hh => by
    have := lpN_least hlt hw h0 hh; omega
  have hdiv := per_div hp hb.1 hqp h hq hl
  obtain ⟨a, ha, hpa, hsa⟩ := per_left (k := i + 2 * p) hb.1 i (by omega) hq
  obtain ⟨k, hk, hk2, hpk, hsk⟩ := per_right hb.1 (w.length - (i + 2 * p)) (i + 2 * p) (by omega) (by omega) hpa
  refine ⟨a, k, lpN w i (i + 2 * p), ⟨by omega, hk2, ?_, by omega, hsa, hsk⟩, ha, hk, hdiv⟩
  have u1 := lpN_least (show a < k by omega) hk2 hb.1 hpk
  have u2 := lpN_least hlt hw (lpN_pos (show a < k by omega) hk2).1 ((lpN_per (show a < k by omega) hk2).part ha hk)
  omega
end Go.Proofs.YtolikggioekalabGreat.G
