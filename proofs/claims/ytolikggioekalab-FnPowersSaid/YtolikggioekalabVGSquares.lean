/- A word has at most as many different squares as letters: each square has a circuit of its own in the graph of the factors of some length; the circuits' chosen edges may all be struck and the graph stays connected. No condition. -/
import Derived.Test.YtolikggioekalabVGLyn
import Derived.Test.YtolikggioekalabVGFacs
namespace Go.Proofs.Ytolikggioekalab.G
open Go.RowKit
set_option linter.unusedVariables false

theorem nodup_le {β : Type} [DecidableEq β] : ∀ (l l' : List β), l.Nodup → (∀ x ∈ l, x ∈ l') → l.length ≤ l'.length
  | [], _, _, _ => Nat.zero_le _
  | x :: l, l', hn, h => by
    have hn' := List.nodup_cons.1 hn
    have hx := h x List.mem_cons_self
    have := nodup_le l (l'.erase x) hn'.2 (fun y hy => by
      have hne : y ≠ x := fun e => hn'.1 (e ▸ hy)
      exact (List.mem_erase_of_ne hne).2 (h y (List.mem_cons_of_mem _ hy)))
    rw [List.length_erase_of_mem hx] at this
    have : 0 < l'.length := List.length_pos_of_mem hx
    simp only [List.length_cons]
    omega

theorem nodup_map_on {β γ : Type} {f : β → γ} : ∀ {l : List β}, (∀ x ∈ l, ∀ y ∈ l, f x = f y → x = y) → l.Nodup → (l.map f).Nodup
  | [], _, _ => by simp
  | x :: l, h, hn => by
    have hn' := List.nodup_cons.1 hn
    rw [List.map_cons]
    refine List.nodup_cons.2 ⟨fun hm => ?_, nodup_map_on (fun a ha b hb => h a (List.mem_cons_of_mem _ ha) b (List.mem_cons_of_mem _ hb)) hn'.2⟩
    obtain ⟨y, hy, e⟩ := List.mem_map.1 hm
    have := h y (List.mem_cons_of_mem _ hy) x List.mem_cons_self e
    exact hn'.1 (this ▸ hy)

theorem filter_split {β : Type} (p : β → Bool) (l : List β) : l.length = (l.filter p).length + (l.filter fun x => !p x).length := by
  induction l with
  | nil => rfl
  | cons x l ih =>
    by_cases h : p x
    · simp [h]; omega
    · simp [h]; omega

/-- A proposition as a bool. -/
noncomputable def pb (p : Prop) : Bool := @decide p (Classical.propDecidable p)
theorem pb_iff {p : Prop} : pb p = true ↔ p := by
  unfold pb
  exact @decide_eq_true_iff p (Classical.propDecidable p)

/-! Graphs: with fewer edges than it takes something falls apart. -/
theorem forest {β : Type} [DecidableEq β] (V : List β) (hV : V.Nodup) : ∀ E : List (β × β), ∃ f : β → β, (∀ e ∈ E, f e.1 = f e.2) ∧ ∃ R : List β, R.Nodup ∧ (∀ r ∈ R, ∃ v ∈ V, f v = r) ∧ V.length ≤ R.length + E.length
  | [] => ⟨id, by simp, V, hV, fun r h => ⟨r, h, rfl⟩, by simp⟩
  | e :: E => by
    obtain ⟨f, hf, R, hR, hr, hl⟩ := forest V hV E
    by_cases c : f e.1 = f e.2
    · refine ⟨f, fun x hx => ?_, R, hR, hr, by simp only [List.length_cons]; omega⟩
      rcases List.mem_cons.1 hx with h | h
      · subst h; exact c
      · exact hf x h
    · refine ⟨fun v => if f v = f e.1 then f e.2 else f v, fun x hx => ?_, R.erase (f e.1), hR.erase _, fun r hr' => ?_, ?_⟩
      · rcases List.mem_cons.1 hx with h | h
        · subst h
          simp only [if_true]
          split <;> rfl
        · simp only [hf x h]
      · have hne : r ≠ f e.1 := by
          rintro rfl
          exact hR.not_mem_erase hr'
        obtain ⟨v, hv, rfl⟩ := hr r (List.mem_of_mem_erase hr')
        exact ⟨v, hv, if_neg hne⟩
      · have := List.length_erase (a := f e.1) (l := R)
        simp only [List.length_cons]
        split at this <;> omega

theorem forest_count {β : Type} [DecidableEq β] (V : List β) (hV : V.Nodup) (E : List (β × β)) (hc : ∀ f : β → β, (∀ e ∈ E, f e.1 = f e.2) → ∀ u ∈ V, ∀ v ∈ V, f u = f v) : V.length ≤ E.length + 1 := by
  obtain ⟨f, hf, R, hR, hr, hl⟩ := forest V hV E
  have h1 := hc f hf
  have : R.length ≤ 1 := by
    cases R with
    | nil => simp
    | cons a R =>
      cases R with
      | nil => simp
      | cons b R =>
        exfalso
        obtain ⟨u, hu, e1⟩ := hr a (by simp)
        obtain ⟨v, hv, e2⟩ := hr b (by simp)
        have := h1 u hu v hv
        rw [e1, e2] at this
        subst this
        simp at hR
  omega

theorem Fac.sub {w : List Int} {n m r : Nat} {x : List Int} (h : Fac w n x) (hr : r + m ≤ n) : Fac w m ((x.drop r).take m) := by
  obtain ⟨i, hi, rfl⟩ := h
  refine ⟨i + r, by omega, ?_⟩
  apply ext_getD 0
  · rw [win_length (by omega), List.length_take, List.length_drop, win_length hi]; omega
  · intro k hk
    rw [win_length (by omega)] at hk
    rw [win_getD hk, getD_take _ _ _ _ hk, getD_drop, win_getD (by omega), Nat.add_assoc]

/-! Turning round a word. -/
def cyc (L : List Int) (s n : Nat) : List Int := (List.range n).map fun i => L.getD ((s + i) % L.length) 0
theorem cyc_length (L : List Int) (s n : Nat) : (cyc L s n).length = n := by simp [cyc]
theorem cyc_getD (L : List Int) (s n i : Nat) (h : i < n) : (cyc L s n).getD i 0 = L.getD ((s + i) % L.length) 0 := by
  rw [getD_eq (by rw [cyc_length]; exact h)]
  simp [cyc]
theorem cyc_take (L : List Int) (s n m : Nat) (h : m ≤ n) : (cyc L s n).take m = cyc L s m := by
  apply ext_getD 0
  · rw [List.length_take, cyc_length, cyc_length]; omega
  · intro i hi
    rw [List.length_take, cyc_length] at hi
    rw [getD_take _ _ _ _ (by omega), cyc_getD _ _ _ _ (by omega), cyc_getD _ _ _ _ (by omega)]
theorem cyc_drop (L : List Int) (s n r : Nat) : (cyc L s (r + n)).drop r = cyc L (s + r) n := by
  apply ext_getD 0
  · rw [List.length_drop, cyc_length, cyc_length]; omega
  · intro i hi
    rw [List.length_drop, cyc_length] at hi
    rw [getD_drop, cyc_getD _ _ _ _ (by omega), cyc_getD _ _ _ _ (by omega), Nat.add_assoc]
theorem cyc_mod (L : List Int) (s n : Nat) : cyc L (s % L.length) n = cyc L s n := by
  unfold cyc
  simp only [Nat.mod_add_mod]
theorem cyc_whole (L : List Int) : cyc L 0 L.length = L := by
  apply ext_getD 0
  · rw [cyc_length]
  · intro i hi
    rw [cyc_length] at hi
    rw [cyc_getD _ _ _ _ hi, Nat.zero_add, Nat.mod_eq_of_lt hi]
theorem cyc_rot (L : List Int) (s : Nat) (h : s ≤ L.length) : cyc L s L.length = rot L s := by
  apply ext_getD 0
  · rw [cyc_length, rot_length]
  · intro i hi
    rw [cyc_length] at hi
    rw [cyc_getD _ _ _ _ hi, rot_getD _ _ _ h hi]

/-- The edge that is chosen of a circuit of p factors of length n: it begins with the circuit's Lyndon word. -/
structure Circ (w : List Int) (n p : Nat) (L : List Int) : Prop where
  pos : 1 ≤ p
  le : p ≤ n
  len : L.length = p
  lyn : Lyn L
  all : ∀ s, s < p → Fac w (n + 1) (cyc L s (n + 1))

theorem Circ.facAll {w : List Int} {n p : Nat} {L : List Int} (h : Circ w n p L) (s : Nat) : Fac w (n + 1) (cyc L s (n + 1)) := by
  have := h.all (s % p) (Nat.mod_lt _ h.pos)
  rw [← h.len] at this
  rwa [cyc_mod] at this

/-- Two circuits, the edge of the one on the other: it is the same circuit, or the other is the longer. -/
theorem Circ.on {w : List Int} {n p q s : Nat} {L M : List Int} (h : Circ w n p L) (k : Circ w n q M) (e : cyc L s (n + 1) = cyc M 0 (n + 1)) (hs : s < p) : q < p ∨ (q = p ∧ s = 0 ∧ L = M) := by
  have hpl := h.len
  have hql := k.len
  have hp := h.pos
  have hM : M = cyc L s q := by
    have := congrArg (List.take q) e
    rw [cyc_take _ _ _ _ (by have := k.le; omega), cyc_take _ _ _ _ (by have := k.le; omega)] at this
    rw [this, ← hql, cyc_whole]
  rcases Nat.lt_trichotomy q p with g | g | g
  · exact .inl g
  · right
    rw [g] at hM
    rw [← hpl, cyc_rot L s (by omega)] at hM
    have hs0 : s = 0 := by
      rcases Nat.eq_zero_or_pos s with e0 | e0
      · exact e0
      · exact (lyn_one h.lyn e0 (by omega) (hM ▸ k.lyn)).elim
    refine ⟨g, hs0, ?_⟩
    rw [hM, hs0, rot_zero]
  · exfalso
    refine lyn_period k.lyn (q := p) (by omega) (by omega) (fun i hi => ?_)
    rw [hql] at hi
    rw [hM, cyc_getD _ _ _ _ (by omega), cyc_getD _ _ _ _ hi, hpl, show s + (i + p) = s + i + p by omega, Nat.add_mod_right]

noncomputable def chosen (w : List Int) (n : Nat) : List (List Int) := (facs w (n + 1)).filter fun x => pb (∃ p L, Circ w n p L ∧ x = cyc L 0 (n + 1))

theorem mem_chosen {w : List Int} {n : Nat} {x : List Int} : x ∈ chosen w n ↔ ∃ p L, Circ w n p L ∧ x = cyc L 0 (n + 1) := by
  unfold chosen
  rw [List.mem_filter, pb_iff]
  refine ⟨fun h => h.2, fun h => ⟨?_, h⟩⟩
  obtain ⟨p, L, hc, rfl⟩ := h
  exact mem_facs.2 (hc.facAll 0)

theorem Circ.joined {w : List Int} {n : Nat} {β : Type} (f : List Int → β) (hf : ∀ x, Fac w (n + 1) x → x ∉ chosen w n → f (x.take n) = f (x.drop 1)) :
    ∀ p L, Circ w n p L → f (cyc L 0 n) = f (cyc L 1 n) := by
  intro p
  induction p using Nat.strongRecOn with
  | ind p ih =>
    intro L h
    have hstep : ∀ s, 1 ≤ s → s < p → f (cyc L s n) = f (cyc L (s + 1) n) := by
      intro s h1 hs
      have e1 : (cyc L s (n + 1)).take n = cyc L s n := cyc_take _ _ _ _ (by omega)
      have e2 : (cyc L s (n + 1)).drop 1 = cyc L (s + 1) n := by rw [show n + 1 = 1 + n by omega]; exact cyc_drop L s n 1
      by_cases c : cyc L s (n + 1) ∈ chosen w n
      · obtain ⟨q, M, k, e⟩ := mem_chosen.1 c
        rcases h.on k e hs with g | ⟨_, g, _⟩
        · have := ih q g M k
          have e3 : (cyc M 0 (n + 1)).take n = cyc M 0 n := cyc_take _ _ _ _ (by omega)
          have e4 : (cyc M 0 (n + 1)).drop 1 = cyc M (0 + 1) n := by rw [show n + 1 = 1 + n by omega]; exact cyc_drop M 0 n 1
          rw [← e, e1] at e3
          rw [← e, e2] at e4
          rw [e3, e4]
          exact this
        · omega
      · have := hf _ (h.facAll s) c
        rwa [e1, e2] at this
    have hall : ∀ s, 1 ≤ s → s ≤ p → f (cyc L 1 n) = f (cyc L s n) := by
      intro s
      induction s with
      | zero => intro h; omega
      | succ s ihs =>
        intro h1 h2
        by_cases c : s = 0
        · subst c; rfl
        · rw [ihs (by omega) (by omega)]
          exact hstep s (by omega) (by omega)
    rw [hall p h.pos (Nat.le_refl _)]
    have : cyc L (p % L.length) n = cyc L p n := cyc_mod L p n
    rw [← this, h.len, Nat.mod_self]

/-- Each length's circuits. -/
theorem chosen_count (w : List Int) (n : Nat) (hn : n ≤ w.length) : (chosen w n).length + (facs w n).length ≤ (facs w (n + 1)).length + 1 := by
  have hE := filter_split (fun x => pb (∃ p L, Circ w n p L ∧ x = cyc L 0 (n + 1))) (facs w (n + 1))
  have key := forest_count (facs w n) (facs_nodup w n) (((facs w (n + 1)).filter (fun x => !pb (∃ p L, Circ w n p L ∧ x = cyc L 0 (n + 1)))).map fun x => (x.take n, x.drop 1)) (fun f hf => by
    have h1 : ∀ x, Fac w (n + 1) x → x ∉ chosen w n → f (x.take n) = f (x.drop 1) := by
      intro x hx hc
      refine hf (x.take n, x.drop 1) (List.mem_map.2 ⟨x, ?_, rfl⟩)
      rw [List.mem_filter]
      refine ⟨mem_facs.2 hx, ?_⟩
      rw [mem_chosen] at hc
      rw [Bool.not_eq_true', Bool.eq_false_iff]
      exact fun g => hc (pb_iff.1 g)
    have h2 : ∀ x, Fac w (n + 1) x → f (x.take n) = f (x.drop 1) := by
      intro x hx
      by_cases c : x ∈ chosen w n
      · obtain ⟨p, L, hc, rfl⟩ := mem_chosen.1 c
        rw [cyc_take _ _ _ _ (by omega), show n + 1 = 1 + n by omega, cyc_drop L 0 n 1]
        exact Circ.joined f h1 p L hc
      · exact h1 x hx c
    have h3 : ∀ i, i + n ≤ w.length → f (win w n i) = f (win w n 0) := by
      intro i
      induction i with
      | zero => intro _; rfl
      | succ i ih =>
        intro hi
        have := h2 (win w (n + 1) i) ⟨i, by omega, rfl⟩
        have e1 : (win w (n + 1) i).take n = win w n i := by unfold win; rw [List.take_take]; congr 1; omega
        have e2 : (win w (n + 1) i).drop 1 = win w n (i + 1) := by unfold win; rw [List.drop_take, List.drop_drop]; rfl
        rw [e1, e2] at this
        rw [← this, ih (by omega)]
    intro u hu v hv
    obtain ⟨i, hi, rfl⟩ := mem_facs.1 hu
    obtain ⟨j, hj, rfl⟩ := mem_facs.1 hv
    rw [h3 i hi, h3 j hj])
  rw [List.length_map] at key
  unfold chosen
  omega

noncomputable def chosenTo (w : List Int) : Nat → List (Nat × List Int)
  | 0 => []
  | m + 1 => chosenTo w m ++ (chosen w (m + 1)).map fun x => (m + 1, x)
theorem mem_chosenTo {w : List Int} {n : Nat} {x : List Int} (hx : x ∈ chosen w n) : ∀ m, 1 ≤ n → n ≤ m → (n, x) ∈ chosenTo w m
  | 0, h1, h2 => by omega
  | m + 1, h1, h2 => by
    unfold chosenTo
    rw [List.mem_append]
    by_cases c : n = m + 1
    · subst c
      exact .inr (List.mem_map.2 ⟨x, hx, rfl⟩)
    · exact .inl (mem_chosenTo hx m h1 (by omega))
theorem chosenTo_count (w : List Int) : ∀ m, m ≤ w.length → (chosenTo w m).length + (facs w 1).length ≤ (facs w (m + 1)).length + m
  | 0, _ => by simp [chosenTo]
  | m + 1, h => by
    have ih := chosenTo_count w m (by omega)
    have := chosen_count w (m + 1) h
    unfold chosenTo
    rw [List.length_append, List.length_map]
    omega

/-! A square's data: its Lyndon word, where it begins on it, how often. -/
structure Sq (w u L : List Int) (t j : Nat) : Prop where
  lyn : Lyn L
  at_ : t < L.length
  pos : 1 ≤ j
  eq : u = cyc L t (2 * j * L.length)
  fac : Fac w (2 * j * L.length) u

/-- The rank of a beginning among those that occur. -/
noncomputable def rk (w L : List Int) (j t : Nat) : Nat :=
  ((List.range t).filter fun s => pb (Fac w (2 * j * L.length) (cyc L s (2 * j * L.length)))).length
theorem rk_le (w L : List Int) (j t : Nat) : rk w L j t ≤ t := by
  unfold rk
  exact Nat.le_trans (List.length_filter_le _ _) (by simp)
theorem rk_succ (w L : List Int) (j t : Nat) (h : Fac w (2 * j * L.length) (cyc L t (2 * j * L.length))) : rk w L j (t + 1) = rk w L j t + 1 := by
  unfold rk
  rw [List.range_succ, List.filter_append, List.length_append]
  simp [pb_iff.2 h]
theorem rk_mono (w L : List Int) (j : Nat) {t t' : Nat} (h : t ≤ t') : rk w L j t ≤ rk w L j t' := by
  induction t' with
  | zero => obtain rfl : t = 0 := by omega
            exact Nat.le_refl _
  | succ t' ih =>
    by_cases c : t = t' + 1
    · rw [c]; exact Nat.le_refl _
    · refine Nat.le_trans (ih (by omega)) ?_
      unfold rk
      rw [List.range_succ, List.filter_append, List.length_append]
      omega

theorem Sq.circ {w u L : List Int} {t j : Nat} (h : Sq w u L t j) : Circ w ((2 * j - 1) * L.length + rk w L j t) L.length L := by
  have hp : 0 < L.length := h.lyn.1
  have hr := rk_le w L j t
  have ht := h.at_
  have hj := h.pos
  have hm : (2 * j - 1) * L.length + L.length = 2 * j * L.length := by
    rw [← Nat.succ_mul]; congr 1; omega
  have hm1 : L.length ≤ (2 * j - 1) * L.length := Nat.le_mul_of_pos_left _ (by omega)
  refine ⟨hp, by omega, rfl, h.lyn, fun s hs => ?_⟩
  generalize hP : L.length = p at *
  generalize hK : rk w L j t = r at *
  -- a beginning from which s is soon reached
  have hex : ∃ t', t' < t + 1 ∧ Fac w (2 * j * p) (cyc L t' (2 * j * p)) ∧ (s + p - t') % p + r < p := by
    by_cases c : ∃ t', t' < t + 1 ∧ Fac w (2 * j * p) (cyc L t' (2 * j * p)) ∧ (s + p - t') % p + r < p
    · exact c
    · exfalso
      have hlen : ((List.range (t + 1)).filter fun s => pb (Fac w (2 * j * p) (cyc L s (2 * j * p)))).length = r + 1 := by
        have := rk_succ w L j t (by rw [← h.eq]; exact h.fac)
        rw [hK] at this
        rw [← this]
        unfold rk
        rw [hP]
      have hnd : (((List.range (t + 1)).filter fun s => pb (Fac w (2 * j * p) (cyc L s (2 * j * p)))).map fun t' => (s + p - t') % p).Nodup := by
        refine nodup_map_on ?_ (List.nodup_range.filter _)
        intro a ha b hb e
        rw [List.mem_filter, List.mem_range] at ha hb
        rcases Nat.lt_or_ge s a with g1 | g1 <;> rcases Nat.lt_or_ge s b with g2 | g2
        · rw [Nat.mod_eq_of_lt (by omega), Nat.mod_eq_of_lt (by omega)] at e; omega
        · rw [Nat.mod_eq_of_lt (by omega), show s + p - b = s - b + p by omega, Nat.add_mod_right, Nat.mod_eq_of_lt (by omega)] at e; omega
        · rw [Nat.mod_eq_of_lt (show s + p - b < p by omega), show s + p - a = s - a + p by omega, Nat.add_mod_right, Nat.mod_eq_of_lt (by omega)] at e; omega
        · rw [show s + p - a = s - a + p by omega, show s + p - b = s - b + p by omega, Nat.add_mod_right, Nat.add_mod_right, Nat.mod_eq_of_lt (by omega), Nat.mod_eq_of_lt (by omega)] at e; omega
      have := nodup_le _ ((List.range r).map fun i => i + (p - r)) hnd (fun y hy => by
        obtain ⟨t', ht', rfl⟩ := List.mem_map.1 hy
        rw [List.mem_filter, List.mem_range, pb_iff] at ht'
        have h1 : ¬ (s + p - t') % p + r < p := fun g => c ⟨t', ht'.1, ht'.2, g⟩
        have h2 : (s + p - t') % p < p := Nat.mod_lt _ hp
        exact List.mem_map.2 ⟨(s + p - t') % p - (p - r), by rw [List.mem_range]; omega, by omega⟩)
      rw [List.length_map, List.length_map, List.length_range, hlen] at this
      omega
  obtain ⟨t', h1, h2, h3⟩ := hex
  have h4 := h2.sub (r := (s + p - t') % p) (m := (2 * j - 1) * p + r + 1) (by omega)
  have e : (List.drop ((s + p - t') % p) (cyc L t' (2 * j * p))).take ((2 * j - 1) * p + r + 1) = cyc L s ((2 * j - 1) * p + r + 1) := by
    rw [show 2 * j * p = (s + p - t') % p + (2 * j * p - (s + p - t') % p) by omega, cyc_drop, cyc_take _ _ _ _ (by omega), ← cyc_mod L (t' + _), ← cyc_mod L s, hP, Nat.add_mod_mod, show t' + (s + p - t') = s + p by omega, Nat.add_mod_right]
  rwa [e] at h4

/-! Every square has such data. -/
def Pd (v : List Int) (q : Nat) : Prop := ∀ i, v.getD ((i + q) % v.length) 0 = v.getD (i % v.length) 0

theorem pd_least (v : List Int) (hv : 0 < v.length) : ∃ p, 0 < p ∧ p ≤ v.length ∧ Pd v p ∧ ∀ q, 0 < q → q < p → ¬ Pd v q := by
  classical
  have key : ∀ n, (∃ p, 0 < p ∧ p ≤ n ∧ Pd v p) → ∃ p, 0 < p ∧ p ≤ n ∧ Pd v p ∧ ∀ q, 0 < q → q < p → ¬ Pd v q := by
    intro n
    induction n with
    | zero => rintro ⟨p, h1, h2, _⟩; omega
    | succ n ih =>
      rintro ⟨p, h1, h2, h3⟩
      by_cases c : ∃ p, 0 < p ∧ p ≤ n ∧ Pd v p
      · obtain ⟨p, h1, h2, h3⟩ := ih c
        exact ⟨p, h1, by omega, h3⟩
      · exact ⟨p, h1, h2, h3, fun q hq1 hq2 hq3 => c ⟨q, hq1, by omega, hq3⟩⟩
  exact key v.length ⟨v.length, hv, Nat.le_refl _, fun i => by rw [Nat.add_mod_right]⟩

theorem pd_div {v : List Int} (hv : 0 < v.length) {p : Nat} (h0 : 0 < p) (h : Pd v p) (hl : ∀ q, 0 < q → q < p → ¬ Pd v q) : v.length % p = 0 := by
  have hmul : ∀ k i, v.getD ((i + k * p) % v.length) 0 = v.getD (i % v.length) 0 := by
    intro k
    induction k with
    | zero => intro i; simp
    | succ k ih => intro i; rw [Nat.succ_mul, ← Nat.add_assoc, h (i + k * p), ih]
  by_cases c : v.length % p = 0
  · exact c
  · exfalso
    refine hl (v.length % p) (by omega) (Nat.mod_lt _ h0) (fun i => ?_)
    have := hmul (v.length / p) (i + v.length % p)
    rw [← this]
    congr 1
    have e : i + v.length % p + v.length / p * p = i + v.length := by
      have := Nat.mod_add_div v.length p
      rw [Nat.mul_comm] at this
      omega
    rw [e, Nat.add_mod_right]

theorem pd_mul {v : List Int} {p : Nat} (h : Pd v p) (k i : Nat) : v.getD ((i + k * p) % v.length) 0 = v.getD (i % v.length) 0 := by
  induction k generalizing i with
  | zero => simp
  | succ k ih => rw [Nat.succ_mul, ← Nat.add_assoc, h (i + k * p), ih]

/-- A word is a power of a rotation of a Lyndon word. -/
theorem power_data (v : List Int) (hv : 0 < v.length) : ∃ L t j, Lyn L ∧ t < L.length ∧ 1 ≤ j ∧ v.length = j * L.length ∧ ∀ i, v.getD (i % v.length) 0 = L.getD ((t + i) % L.length) 0 := by
  obtain ⟨p, h0, hp, hpd, hl⟩ := pd_least v hv
  have hd := pd_div hv h0 hpd hl
  have hzl : (v.take p).length = p := by rw [List.length_take]; omega
  have hz : ∀ i, v.getD (i % v.length) 0 = (v.take p).getD (i % p) 0 := by
    intro i
    have := pd_mul hpd (i / p) (i % p)
    rw [show i % p + i / p * p = i by have := Nat.mod_add_div i p; rw [Nat.mul_comm] at this; exact this] at this
    rw [this, getD_take _ _ _ _ (Nat.mod_lt _ h0), Nat.mod_eq_of_lt (Nat.lt_of_lt_of_le (Nat.mod_lt _ h0) hp)]
  have hprim : Prim (v.take p) := by
    refine ⟨by omega, fun k hk0 hk e => ?_⟩
    rw [hzl] at hk
    refine hl k hk0 hk (fun i => ?_)
    rw [hz, hz]
    have h1 := rot_getD (v.take p) k (i % p) (by omega) (by rw [hzl]; exact Nat.mod_lt _ h0)
    rw [e, hzl] at h1
    rw [h1]
    congr 1
    rw [Nat.add_mod_mod, Nat.add_comm]
  obtain ⟨t0, ht0, hL, _⟩ := lyn_exists hprim
  rw [hzl] at ht0
  have hLl : (rot (v.take p) t0).length = p := by rw [rot_length, hzl]
  refine ⟨rot (v.take p) t0, (p - t0) % p, v.length / p, hL, by rw [hLl]; exact Nat.mod_lt _ h0, Nat.div_pos hp h0, ?_, fun i => ?_⟩
  · rw [hLl]; exact (Nat.div_mul_cancel (Nat.dvd_of_mod_eq_zero hd)).symm
  · rw [hLl, hz, rot_getD _ _ _ (by omega) (by rw [hzl]; exact Nat.mod_lt _ h0), hzl]
    congr 1
    have e0 : (t0 + (p - t0) % p) % p = 0 := by rw [Nat.add_mod_mod, show t0 + (p - t0) = p by omega, Nat.mod_self]
    rw [Nat.add_mod_mod, ← Nat.add_assoc, Nat.add_mod, e0, Nat.zero_add, Nat.mod_mod]

/-- A square: some word twice, in w. -/
def IsSq (w u : List Int) : Prop := ∃ i h, 1 ≤ h ∧ i + 2 * h ≤ w.length ∧ u = win w (2 * h) i ∧ ∀ k, k < h → u.getD k 0 = u.getD (k + h) 0

theorem sq_data {w u : List Int} (h : IsSq w u) : ∃ L t j, Sq w u L t j := by
  obtain ⟨i, n, h1, h2, hu, hs⟩ := h
  have hul : u.length = 2 * n := by rw [hu]; exact win_length h2
  have hvl : (u.take n).length = n := by rw [List.length_take]; omega
  obtain ⟨L, t, j, hL, ht, hj, hlen, hget⟩ := power_data (u.take n) (by omega)
  rw [hvl] at hlen
  have hln : 2 * n = 2 * j * L.length := by rw [hlen, Nat.mul_assoc]
  refine ⟨L, t, j, hL, ht, hj, ?_, i, by omega, by rw [hu, hln]⟩
  apply ext_getD 0
  · rw [cyc_length]; omega
  · intro k hk
    rw [hul] at hk
    rw [cyc_getD _ _ _ _ (by omega), ← hget k, hvl]
    by_cases c : k < n
    · rw [Nat.mod_eq_of_lt c, getD_take _ _ _ _ c]
    · have e : k % n = k - n := by
        rw [show k = k - n + n by omega, Nat.add_mod_right, Nat.mod_eq_of_lt (by omega)]
        omega
      rw [e, getD_take _ _ _ _ (by omega), hs (k - n) (by omega)]
      congr 1
      omega

theorem sq_inj {w u u' L L' : List Int} {t t' j j' : Nat} (h : Sq w u L t j) (h' : Sq w u' L' t' j') (en : (2 * j - 1) * L.length + rk w L j t = (2 * j' - 1) * L'.length + rk w L' j' t')
    (ex : cyc L 0 ((2 * j - 1) * L.length + rk w L j t + 1) = cyc L' 0 ((2 * j' - 1) * L'.length + rk w L' j' t' + 1)) : u = u' := by
  have c := h.circ
  have c' := h'.circ
  rw [← en] at c' ex
  have hp := h.lyn.1
  have hLL : L = L' := by
    rcases c.on c' ex (by omega) with g | ⟨_, _, g⟩
    · rcases c'.on c ex.symm h'.lyn.1 with g' | ⟨_, _, g'⟩
      · omega
      · exact g'.symm
    · exact g
  subst hLL
  have ht := h.at_
  have ht' := h'.at_
  have r1 := rk_le w L j t
  have r2 := rk_le w L j' t'
  have hjj : 2 * j - 1 = 2 * j' - 1 := by
    have e1 : ((2 * j - 1) * L.length + rk w L j t) / L.length = 2 * j - 1 := by
      rw [Nat.mul_comm, Nat.mul_add_div hp, Nat.div_eq_of_lt (by omega)]; rfl
    have e2 : ((2 * j' - 1) * L.length + rk w L j' t') / L.length = 2 * j' - 1 := by
      rw [Nat.mul_comm, Nat.mul_add_div hp, Nat.div_eq_of_lt (by omega)]; rfl
    rw [← e1, ← e2, en]
  have hj : j = j' := by have := h.pos; have := h'.pos; omega
  subst hj
  have hrk : rk w L j t = rk w L j t' := by omega
  have htt : t = t' := by
    rcases Nat.lt_trichotomy t t' with g | g | g
    · have a := rk_succ w L j t (by rw [← h.eq]; exact h.fac)
      have b := rk_mono w L j (show t + 1 ≤ t' from g)
      omega
    · exact g
    · have a := rk_succ w L j t' (by rw [← h'.eq]; exact h'.fac)
      have b := rk_mono w L j (show t' + 1 ≤ t from g)
      omega
  rw [h.eq, h'.eq, htt]

/-- At most as many different squares as letters. -/
theorem squares_le (w : List Int) (Q : List (List Int)) (hQ : Q.Nodup) (h : ∀ u ∈ Q, IsSq w u) : Q.length ≤ w.length := by
  classical
  let code : List Int → Nat × List Int := fun u => if hu : IsSq w u then
    let L := Classical.choose (sq_data hu)
    let t := Classical.choose (Classical.choose_spec (sq_data hu))
    let j := Classical.choose (Classical.choose_spec (Classical.choose_spec (sq_data hu)))
    ((2 * j - 1) * L.length + rk w L j t, cyc L 0 ((2 * j - 1) * L.length + rk w L j t + 1)) else (0, [])
  have hc : ∀ u, IsSq w u → ∃ L t j, Sq w u L t j ∧ code u = ((2 * j - 1) * L.length + rk w L j t, cyc L 0 ((2 * j - 1) * L.length + rk w L j t + 1)) := by
    intro u hu
    refine ⟨_, _, _, Classical.choose_spec (Classical.choose_spec (Classical.choose_spec (sq_data hu))), ?_⟩
    simp only [code, dif_pos hu]
  have hnd : (Q.map code).Nodup := by
    refine nodup_map_on ?_ hQ
    intro a ha b hb e
    obtain ⟨L, t, j, hS, e1⟩ := hc a (h a ha)
    obtain ⟨L', t', j', hS', e2⟩ := hc b (h b hb)
    rw [e1, e2] at e
    injection e with e3 e4
    exact sq_inj hS hS' e3 e4
  have := nodup_le _ (chosenTo w w.length) hnd (fun y hy => by
    obtain ⟨u, hu, rfl⟩ := List.mem_map.1 hy
    obtain ⟨L, t, j, hS, e1⟩ := hc u (h u hu)
    rw [e1]
    have hci := hS.circ
    have hf := (hci.facAll 0)
    obtain ⟨i, hi, _⟩ := hf
    exact mem_chosenTo (mem_chosen.2 ⟨_, L, hci, rfl⟩) _ (by have := hci.pos; have := hci.le; omega) (by omega))
  rw [List.length_map] at this
  have k := chosenTo_count w w.length (Nat.le_refl _)
  have e0 : facs w (w.length + 1) = [] := by
    rw [List.eq_nil_iff_forall_not_mem]
    intro x hx
    obtain ⟨i, hi, _⟩ := mem_facs.1 hx
    omega
  rw [e0, List.length_nil] at k
  omega

end Go.Proofs.Ytolikggioekalab.G
