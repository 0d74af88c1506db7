/- Which letters of a morphism live on: that k images of a letter are not empty, and that as many rounds as letters tell it. No condition. -/
import Derived.Test.YtolikggioekalabGreatVGMor
namespace Go.Proofs.YtolikggioekalabGreat.G
open Go.RowKit
set_option linter.unusedVariables false
def img (l : List (List Int)) (x : Int) : List Int := l.getD x.toNat []
def lives (l : List (List Int)) : Nat → Int → Bool
  | 0, _ => true
  | k + 1, x => (img l x).any (lives l k)
theorem lives_down (l : List (List Int)) (k : Nat) : ∀ x, lives l (k + 1) x = true → lives l k x = true := by
  induction k with
  | zero => intro x _; rfl
  | succ k ih =>
    intro x h
    rw [lives, List.any_eq_true] at h ⊢
    obtain ⟨y, hy, e⟩ := h
    exact ⟨y, hy, ih y e⟩
theorem filt {p q : Nat → Bool} (h : ∀ x, p x = true → q x = true) : ∀ L : List Nat, (L.filter p).length < (L.filter q).length ∨ ((L.filter p).length = (L.filter q).length ∧ ∀ x ∈ L, p x = q x)
  | [] => .inr ⟨rfl, by simp⟩
  | a :: L => by
    have ih := filt h L
    cases hp : p a with
    | true =>
      have hq := h a hp
      rw [List.filter_cons_of_pos hp, List.filter_cons_of_pos hq, List.length_cons, List.length_cons]
      rcases ih with ih | ⟨i1, i2⟩
      · exact .inl (by omega)
      · refine .inr ⟨by omega, fun x hx => ?_⟩
        rcases List.mem_cons.1 hx with rfl | hx
        · rw [hp, hq]
        · exact i2 x hx
    | false =>
      rw [List.filter_cons_of_neg (by rw [hp]; simp)]
      cases hq : q a with
      | true =>
        rw [List.filter_cons_of_pos hq, List.length_cons]
        rcases ih with ih | ⟨i1, i2⟩
        · exact .inl (by omega)
        · exact .inl (by omega)
      | false =>
        rw [List.filter_cons_of_neg (by rw [hq]; simp)]
        rcases ih with ih | ⟨i1, i2⟩
        · exact .inl ih
        · refine .inr ⟨i1, fun x hx => ?_⟩
          rcases List.mem_cons.1 hx with rfl | hx
          · rw [hp, hq]
          · exact i2 x hx
def liveN (l : List (List Int)) (t : Nat) : Nat := ((List.range l.length).filter (fun i : Nat => lives l t (i : Int))).length
def still (l : List (List Int)) (s : Nat) : Prop := ∀ i : Nat, i < l.length → lives l (s + 1) (i : Int) = lives l s (i : Int)
def okL (l : List (List Int)) : Prop := ∀ x : Int, ∀ y ∈ img l x, 0 ≤ y ∧ y < (l.length : Int)
theorem any_congr {p q : Int → Bool} : ∀ L : List Int, (∀ x ∈ L, p x = q x) → L.any p = L.any q
  | [], _ => rfl
  | a :: L, h => by rw [List.any_cons, List.any_cons, h a List.mem_cons_self, any_congr L (fun x hx => h x (List.mem_cons_of_mem _ hx))]
theorem still_next {l : List (List Int)} (ho : okL l) {s : Nat} (h : still l s) : still l (s + 1) := by
  intro i hi
  rw [lives, lives]
  refine any_congr _ (fun y hy => ?_)
  have hy := ho _ y hy
  have := h y.toNat (by omega)
  rwa [show ((y.toNat : Nat) : Int) = y by omega] at this
theorem still_all {l : List (List Int)} (ho : okL l) {s : Nat} (h : still l s) (d : Nat) : still l (s + d) := by
  induction d with
  | zero => exact h
  | succ d ih => exact still_next ho ih
theorem still_some (l : List (List Int)) : ∀ t, liveN l t + t ≤ l.length ∨ ∃ s, s < t ∧ still l s := by
  intro t
  induction t with
  | zero =>
    refine .inl ?_
    have := List.length_filter_le (fun i : Nat => lives l 0 (i : Int)) (List.range l.length)
    rw [List.length_range] at this
    unfold liveN; omega
  | succ t ih =>
    rcases ih with ih | ⟨s, h1, h2⟩
    · rcases filt (p := fun i : Nat => lives l (t + 1) (i : Int)) (q := fun i : Nat => lives l t (i : Int)) (fun x hx => lives_down l t _ hx) (List.range l.length) with h | ⟨_, h⟩
      · refine .inl ?_
        unfold liveN at ih ⊢; omega
      · exact .inr ⟨t, by omega, fun i hi => h i (List.mem_range.2 hi)⟩
    · exact .inr ⟨s, by omega, h2⟩
theorem still_n {l : List (List Int)} (ho : okL l) : still l l.length := by
  rcases still_some l (l.length + 1) with h | ⟨s, h1, h2⟩
  · omega
  · have := still_all ho h2 (l.length - s)
    rwa [show s + (l.length - s) = l.length by omega] at this
theorem nodup_len : ∀ (L M : List Int), L.Nodup → (∀ x ∈ L, x ∈ M) → L.length ≤ M.length
  | [], _, _, _ => Nat.zero_le _
  | a :: L, M, hn, hs => by
    have hn' := List.nodup_cons.1 hn
    have ha := hs a List.mem_cons_self
    have := nodup_len L (M.erase a) hn'.2 (fun x hx => by
      have hx' := hs x (List.mem_cons_of_mem _ hx)
      have hne : x ≠ a := fun e => hn'.1 (by rw [← e]; exact hx)
      exact (List.mem_erase_of_ne hne).2 hx')
    rw [List.length_erase_of_mem ha] at this
    have : 0 < M.length := List.length_pos_of_mem ha
    rw [List.length_cons]; omega
theorem letters_len {L : List Int} {n : Nat} (hn : L.Nodup) (h : ∀ x ∈ L, 0 ≤ x ∧ x < (n : Int)) : L.length ≤ n := by
  have := nodup_len L ((List.range n).map (fun (i : Nat) => (i : Int))) hn (fun x hx => by
    have := h x hx
    rw [List.mem_map]
    exact ⟨x.toNat, by rw [List.mem_range]; omega, by omega⟩)
  rwa [List.length_map, List.length_range] at this
def nextS : List Int → List Int → List Int
  | acc, [] => acc
  | acc, x :: xs => if x ∈ acc then nextS acc xs else nextS (acc ++ [x]) xs
theorem nextS_mem (xs : List Int) : ∀ (acc : List Int) (z : Int), z ∈ nextS acc xs ↔ z ∈ acc ∨ z ∈ xs := by
  induction xs with
  | nil => intro acc z; simp [nextS]
  | cons x xs ih =>
    intro acc z
    rw [nextS]
    split
    · rename_i c
      rw [ih, List.mem_cons]
      exact ⟨fun h => h.elim .inl (fun h => .inr (.inr h)), fun h => h.elim .inl (fun h => h.elim (fun h => .inl (h ▸ c)) .inr)⟩
    · rw [ih, List.mem_append, List.mem_singleton, List.mem_cons, or_assoc]
theorem nextS_nodup (xs : List Int) : ∀ acc : List Int, acc.Nodup → (nextS acc xs).Nodup := by
  induction xs with
  | nil => intro acc h; exact h
  | cons x xs ih =>
    intro acc h
    rw [nextS]
    split
    · exact ih acc h
    · rename_i c
      refine ih _ (List.nodup_append.2 ⟨h, by simp, fun a ha b hb => ?_⟩)
      rw [List.mem_singleton] at hb
      subst hb
      exact fun e => c (e ▸ ha)
def nextAll (l : List (List Int)) : List Int → List Int → List Int
  | acc, [] => acc
  | acc, y :: ys => nextAll l (nextS acc (img l y)) ys
theorem nextAll_mem (l : List (List Int)) (ys : List Int) : ∀ (acc : List Int) (z : Int), z ∈ nextAll l acc ys ↔ z ∈ acc ∨ ∃ y ∈ ys, z ∈ img l y := by
  induction ys with
  | nil => intro acc z; simp [nextAll]
  | cons y ys ih =>
    intro acc z
    rw [nextAll, ih, nextS_mem, or_assoc]
    simp only [List.mem_cons, exists_eq_or_imp]
theorem nextAll_nodup (l : List (List Int)) (ys : List Int) : ∀ acc : List Int, acc.Nodup → (nextAll l acc ys).Nodup := by
  induction ys with
  | nil => intro acc h; exact h
  | cons y ys ih => intro acc h; rw [nextAll]; exact ih _ (nextS_nodup _ _ h)
theorem nextAll_any (l : List (List Int)) (ys : List Int) (k : Nat) : (nextAll l [] ys).any (lives l k) = ys.any (lives l (k + 1)) := by
  rw [Bool.eq_iff_iff, List.any_eq_true, List.any_eq_true]
  constructor
  · rintro ⟨z, hz, e⟩
    rw [nextAll_mem] at hz
    obtain ⟨y, hy, hzy⟩ := hz.resolve_left (by simp)
    exact ⟨y, hy, by rw [lives, List.any_eq_true]; exact ⟨z, hzy, e⟩⟩
  · rintro ⟨y, hy, e⟩
    rw [lives, List.any_eq_true] at e
    obtain ⟨z, hzy, e⟩ := e
    exact ⟨z, by rw [nextAll_mem]; exact .inr ⟨y, hy, hzy⟩, e⟩
theorem nextS_append (xs ys : List Int) : ∀ acc, nextS acc (xs ++ ys) = nextS (nextS acc xs) ys := by
  induction xs with
  | nil => intro acc; rfl
  | cons x xs ih =>
    intro acc
    rw [List.cons_append, nextS, nextS]
    split
    · exact ih acc
    · exact ih _
theorem nextAll_append (l : List (List Int)) (xs ys : List Int) : ∀ acc, nextAll l acc (xs ++ ys) = nextAll l (nextAll l acc xs) ys := by
  induction xs with
  | nil => intro acc; rfl
  | cons x xs ih => intro acc; rw [List.cons_append, nextAll, nextAll]; exact ih _
theorem nextS_snoc (acc xs : List Int) {j : Nat} (h : j < xs.length) : nextS acc (xs.take (j + 1)) = if xs.getD j 0 ∈ nextS acc (xs.take j) then nextS acc (xs.take j) else nextS acc (xs.take j) ++ [xs.getD j 0] := by
  rw [take_succ_getD xs j 0 h, nextS_append]
  simp only [nextS]
theorem nextAll_snoc (l : List (List Int)) (acc ys : List Int) {i : Nat} (h : i < ys.length) : nextAll l acc (ys.take (i + 1)) = nextS (nextAll l acc (ys.take i)) (img l (ys.getD i 0)) := by
  rw [take_succ_getD ys i 0 h, nextAll_append]
  simp only [nextAll]
theorem nextS_in {l : List (List Int)} (ho : okL l) {acc : List Int} {y : Int} (j : Nat) (ha : acc.Nodup ∧ ∀ x ∈ acc, 0 ≤ x ∧ x < (l.length : Int)) : (nextS acc ((img l y).take j)).Nodup ∧ ∀ x ∈ nextS acc ((img l y).take j), 0 ≤ x ∧ x < (l.length : Int) := by
  refine ⟨nextS_nodup _ _ ha.1, fun x hx => ?_⟩
  rcases (nextS_mem _ _ _).1 hx with hx | hx
  · exact ha.2 x hx
  · exact ho y x (List.mem_of_mem_take hx)
theorem nextAll_in {l : List (List Int)} (ho : okL l) (ys : List Int) : (nextAll l [] ys).Nodup ∧ ∀ x ∈ nextAll l [] ys, 0 ≤ x ∧ x < (l.length : Int) := by
  refine ⟨nextAll_nodup l ys [] List.nodup_nil, fun x hx => ?_⟩
  obtain ⟨y, _, hy⟩ := ((nextAll_mem l ys [] x).1 hx).resolve_left (by simp)
  exact ho _ x hy
end Go.Proofs.YtolikggioekalabGreat.G
