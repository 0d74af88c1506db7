/- Lyndon words by the order of words: a primitive word has one rotation that is a Lyndon word; Lyndon words have no border. No condition. -/
import Derived.Test.YtolikggioekalabGreatVGSort
namespace Go.Proofs.YtolikggioekalabGreat.G
open Go.RowKit
set_option linter.unusedVariables false
theorem cmpW_left (x u v : List Int) : cmpW (x ++ u) (x ++ v) = cmpW u v := by
  induction x with
  | nil => rfl
  | cons a x ih => rw [List.cons_append, List.cons_append, cmpW_cons, if_neg (by omega), if_neg (by omega), ih]
theorem cmpW_cases (u : List Int) : ∀ v : List Int, cmpW u v < 0 → (∃ c, c ≠ [] ∧ v = u ++ c) ∨ (∀ a b, cmpW (u ++ a) (v ++ b) < 0) := by
  induction u with
  | nil =>
    intro v h
    cases v with
    | nil => simp [cmpW] at h
    | cons b v => exact .inl ⟨b :: v, by simp, rfl⟩
  | cons a u ih =>
    intro v h
    cases v with
    | nil => simp [cmpW] at h
    | cons b v =>
      rw [cmpW_cons] at h
      by_cases h1 : a < b
      · refine .inr fun x y => ?_
        rw [List.cons_append, List.cons_append, cmpW_cons, if_pos h1]
        omega
      · rw [if_neg h1] at h
        by_cases h2 : b < a
        · rw [if_pos h2] at h; omega
        · rw [if_neg h2] at h
          have e : a = b := by omega
          subst e
          rcases ih v h with ⟨c, hc, e⟩ | g
          · exact .inl ⟨c, hc, by rw [e]; rfl⟩
          · refine .inr fun x y => ?_
            rw [List.cons_append, List.cons_append, cmpW_cons, if_neg (by omega), if_neg (by omega)]
            exact g x y
theorem cmpW_total (u v : List Int) (h : ¬ cmpW u v ≤ 0) : cmpW v u < 0 := by
  rw [cmpW_anti]; omega
theorem cmpW_le_trans {u v x : List Int} (h1 : cmpW u v ≤ 0) (h2 : cmpW v x ≤ 0) : cmpW u x ≤ 0 := by
  by_cases e : cmpW u v = 0
  · rw [(cmpW_zero _ _).1 e]; exact h2
  · by_cases e2 : cmpW v x = 0
    · rw [← (cmpW_zero _ _).1 e2]; exact h1
    · have := cmpW_trans u v x (by omega) (by omega); omega
theorem cmpW_least (f : Nat → List Int) : ∀ n, 0 < n → ∃ k, k < n ∧ ∀ j, j < n → cmpW (f k) (f j) ≤ 0
  | 0, h => by omega
  | 1, _ => ⟨0, by omega, fun j hj => by
      have : j = 0 := by omega
      rw [this, cmpW_refl]; omega⟩
  | n + 2, _ => by
    obtain ⟨k, hk, h⟩ := cmpW_least f (n + 1) (by omega)
    by_cases c : cmpW (f k) (f (n + 1)) ≤ 0
    · refine ⟨k, by omega, fun j hj => ?_⟩
      by_cases e : j = n + 1
      · rw [e]; exact c
      · exact h j (by omega)
    · refine ⟨n + 1, by omega, fun j hj => ?_⟩
      by_cases e : j = n + 1
      · rw [e, cmpW_refl]; omega
      · have := cmpW_total _ _ c
        exact cmpW_le_trans (by omega) (h j (by omega))
def rot (u : List Int) (k : Nat) : List Int := u.drop k ++ u.take k
theorem rot_length (u : List Int) (k : Nat) : (rot u k).length = u.length := by unfold rot; rw [List.length_append, List.length_drop, List.length_take]; omega
theorem rot_zero (u : List Int) : rot u 0 = u := by simp [rot]
def Lyn (u : List Int) : Prop := 0 < u.length ∧ ∀ k, 0 < k → k < u.length → cmpW u (u.drop k) < 0
def Prim (u : List Int) : Prop := 0 < u.length ∧ ∀ k, 0 < k → k < u.length → rot u k ≠ u
theorem rot_getD (u : List Int) (k i : Nat) (hk : k ≤ u.length) (hi : i < u.length) : (rot u k).getD i 0 = u.getD ((k + i) % u.length) 0 := by
  unfold rot
  by_cases c : i < u.length - k
  · rw [getD_append_left _ _ _ _ (by rw [List.length_drop]; exact c), getD_drop, Nat.mod_eq_of_lt (by omega)]
  · rw [getD_append_right _ _ _ _ (by rw [List.length_drop]; omega), List.length_drop, getD_take _ _ _ _ (by omega)]
    congr 1
    rw [show k + i = (i - (u.length - k)) + u.length by omega, Nat.add_mod_right, Nat.mod_eq_of_lt (by omega)]
theorem rot_rot (u : List Int) (a b : Nat) (ha : a < u.length) (hb : b < u.length) : rot (rot u a) b = rot u ((a + b) % u.length) := by
  have hp : 0 < u.length := by omega
  have hm : (a + b) % u.length < u.length := Nat.mod_lt _ hp
  apply ext_getD 0
  · rw [rot_length, rot_length, rot_length]
  · intro i hi
    rw [rot_length, rot_length] at hi
    rw [rot_getD _ b i (by rw [rot_length]; omega) (by rw [rot_length]; exact hi), rot_length, rot_getD u a _ (by omega) (Nat.mod_lt _ hp), rot_getD u _ i (by omega) hi]
    congr 1
    rw [Nat.add_mod_mod, Nat.mod_add_mod, Nat.add_assoc]
theorem prim_rot {u : List Int} (h : Prim u) (a : Nat) (ha : a < u.length) : Prim (rot u a) := by
  refine ⟨by rw [rot_length]; exact h.1, fun k h0 hk e => ?_⟩
  rw [rot_length] at hk
  have e2 : rot (rot (rot u a) k) ((u.length - a) % u.length) = rot (rot u a) ((u.length - a) % u.length) := by rw [e]
  have hp : 0 < u.length := h.1
  have hb : (u.length - a) % u.length < u.length := Nat.mod_lt _ hp
  rw [rot_rot u a k ha hk, rot_rot u _ _ (Nat.mod_lt _ hp) hb, rot_rot u a _ ha hb] at e2
  have e3 : ((a + k) % u.length + (u.length - a) % u.length) % u.length = k := by
    rw [Nat.add_mod_mod, Nat.mod_add_mod, show a + k + (u.length - a) = k + u.length by omega, Nat.add_mod_right, Nat.mod_eq_of_lt hk]
  have e4 : (a + (u.length - a) % u.length) % u.length = 0 := by
    rw [Nat.add_mod_mod, show a + (u.length - a) = u.length by omega, Nat.mod_self]
  rw [e3, e4, rot_zero] at e2
  exact h.2 k h0 hk e2
theorem lyn_of_least {v : List Int} (h : 0 < v.length) (hl : ∀ k, 0 < k → k < v.length → cmpW v (rot v k) < 0) : Lyn v := by
  refine ⟨h, fun k h0 hk => ?_⟩
  by_cases c : cmpW v (v.drop k) < 0
  · exact c
  · exfalso
    have hxy : v = v.take k ++ v.drop k := (List.take_append_drop k v).symm
    generalize hx : v.take k = x at hxy
    generalize hy : v.drop k = y at hxy c
    have hxl : x.length = k := by rw [← hx, List.length_take]; omega
    have hyl : y.length = v.length - k := by rw [← hy, List.length_drop]
    have hne : cmpW v y ≠ 0 := fun e => by
      have := congrArg List.length ((cmpW_zero _ _).1 e)
      omega
    have hlt : cmpW y v < 0 := by rw [cmpW_anti]; omega
    have hr : rot v k = y ++ x := by unfold rot; rw [hx, hy]
    have hk1 := hl k h0 hk
    rw [hr] at hk1
    rcases cmpW_cases y v hlt with ⟨cc, hcc, e⟩ | g
    · have hcl : cc.length = x.length := by
        have := congrArg List.length e
        rw [List.length_append] at this
        omega
      rw [e, cmpW_left] at hk1
      have hr2 : rot v y.length = cc ++ y := by
        unfold rot
        rw [e]
        simp
      have hk2 := hl y.length (by omega) (by omega)
      rw [hr2, hxy] at hk2
      rcases cmpW_cases cc x hk1 with ⟨d, hd, e2⟩ | g
      · have := congrArg List.length e2
        rw [List.length_append] at this
        have : d.length = 0 := by omega
        exact hd (List.length_eq_zero_iff.1 this)
      · have := g y y
        rw [cmpW_anti] at this
        omega
    · have := g x []
      rw [List.append_nil, cmpW_anti] at this
      omega
theorem lyn_exists {u : List Int} (h : Prim u) : ∃ k, k < u.length ∧ Lyn (rot u k) ∧ ∀ j, j < u.length → cmpW (rot u k) (rot u j) ≤ 0 := by
  obtain ⟨k, hk, hl⟩ := cmpW_least (rot u) u.length h.1
  refine ⟨k, hk, lyn_of_least (by rw [rot_length]; exact h.1) (fun j h0 hj => ?_), hl⟩
  rw [rot_length] at hj
  have hp := (prim_rot h k hk).2 j h0 (by rw [rot_length]; exact hj)
  have := hl ((k + j) % u.length) (Nat.mod_lt _ h.1)
  rw [← rot_rot u k j hk hj] at this
  rcases Int.lt_or_eq_of_le this with g | g
  · exact g
  · exact absurd ((cmpW_zero _ _).1 g).symm hp
end Go.Proofs.YtolikggioekalabGreat.G
