/- Lyndon words by the order of words: a primitive word has one rotation that is a Lyndon word; Lyndon words have no border. No condition. -/
import Derived.Test.YtolikggioekalabVGSort
namespace Go.Proofs.Ytolikggioekalab.G
open Go.RowKit
set_option linter.unusedVariables false

theorem cmpW_left (x u v : List Int) : cmpW (x ++ u) (x ++ v) = cmpW u v := by
  induction x with
  | nil => rfl
  | cons a x ih => rw [List.cons_append, List.cons_append, cmpW_cons, if_neg (by omega), if_neg (by omega), ih]

theorem cmpW_longer (x y : List Int) (h : y ≠ []) : cmpW x (x ++ y) < 0 := by
  have := cmpW_left x [] y
  rw [List.append_nil] at this
  rw [this, cmpW_nil_left, if_neg h]
  omega

/-- A lesser word is a beginning, or less by a letter. -/
theorem cmpW_cases (u : List Int) : ∀ v : List Int, cmpW u v < 0 → (∃ c, c ≠ [] ∧ v = u ++ c) ∨ (∀ a b, cmpW (u ++ a) (v ++ b) < 0) := by
  induction u with
  | nil =>
    intro v h
    cases v with
    | nil => simp [cmpW] at h
    | cons b v => exact .inl ⟨b :: v, by simp, rfl⟩
  | cons a u ih =>
    intro v h
    cases v with
    | nil => simp [cmpW] at h
    | cons b v =>
      rw [cmpW_cons] at h
      by_cases h1 : a < b
      · refine .inr fun x y => ?_
        rw [List.cons_append, List.cons_append, cmpW_cons, if_pos h1]
        omega
      · rw [if_neg h1] at h
        by_cases h2 : b < a
        · rw [if_pos h2] at h; omega
        · rw [if_neg h2] at h
          have e : a = b := by omega
          subst e
          rcases ih v h with ⟨c, hc, e⟩ | g
          · exact .inl ⟨c, hc, by rw [e]; rfl⟩
          · refine .inr fun x y => ?_
            rw [List.cons_append, List.cons_append, cmpW_cons, if_neg (by omega), if_neg (by omega)]
            exact g x y

theorem cmpW_total (u v : List Int) (h : ¬ cmpW u v ≤ 0) : cmpW v u < 0 := by
  rw [cmpW_anti]; omega

theorem cmpW_le_trans {u v x : List Int} (h1 : cmpW u v ≤ 0) (h2 : cmpW v x ≤ 0) : cmpW u x ≤ 0 := by
  by_cases e : cmpW u v = 0
  · rw [(cmpW_zero _ _).1 e]; exact h2
  · by_cases e2 : cmpW v x = 0
    · rw [← (cmpW_zero _ _).1 e2]; exact h1
    · have := cmpW_trans u v x (by omega) (by omega); omega

theorem cmpW_least (f : Nat → List Int) : ∀ n, 0 < n → ∃ k, k < n ∧ ∀ j, j < n → cmpW (f k) (f j) ≤ 0
  | 0, h => by omega
  | 1, _ => ⟨0, by omega, fun j hj => by
      have : j = 0 := by omega
      rw [this, cmpW_refl]; omega⟩
  | n + 2, _ => by
    obtain ⟨k, hk, h⟩ := cmpW_least f (n + 1) (by omega)
    by_cases c : cmpW (f k) (f (n + 1)) ≤ 0
    · refine ⟨k, by omega, fun j hj => ?_⟩
      by_cases e : j = n + 1
      · rw [e]; exact c
      · exact h j (by omega)
    · refine ⟨n + 1, by omega, fun j hj => ?_⟩
      by_cases e : j = n + 1
      · rw [e, cmpW_refl]; omega
      · have := cmpW_total _ _ c
        exact cmpW_le_trans (by omega) (h j (by omega))

/-- The word that begins at place k. -/
def rot (u : List Int) (k : Nat) : List Int := u.drop k ++ u.take k
theorem rot_length (u : List Int) (k : Nat) : (rot u k).length = u.length := by unfold rot; rw [List.length_append, List.length_drop, List.length_take]; omega
theorem rot_zero (u : List Int) : rot u 0 = u := by simp [rot]

def Lyn (u : List Int) : Prop := 0 < u.length ∧ ∀ k, 0 < k → k < u.length → cmpW u (u.drop k) < 0
def Prim (u : List Int) : Prop := 0 < u.length ∧ ∀ k, 0 < k → k < u.length → rot u k ≠ u

theorem rot_getD (u : List Int) (k i : Nat) (hk : k ≤ u.length) (hi : i < u.length) : (rot u k).getD i 0 = u.getD ((k + i) % u.length) 0 := by
  unfold rot
  by_cases c : i < u.length - k
  · rw [getD_append_left _ _ _ _ (by rw [List.length_drop]; exact c), getD_drop, Nat.mod_eq_of_lt (by omega)]
  · rw [getD_append_right _ _ _ _ (by rw [List.length_drop]; omega), List.length_drop, getD_take _ _ _ _ (by omega)]
    congr 1
    rw [show k + i = (i - (u.length - k)) + u.length by omega, Nat.add_mod_right, Nat.mod_eq_of_lt (by omega)]

theorem rot_rot (u : List Int) (a b : Nat) (ha : a < u.length) (hb : b < u.length) : rot (rot u a) b = rot u ((a + b) % u.length) := by
  have hp : 0 < u.length := by omega
  have hm : (a + b) % u.length < u.length := Nat.mod_lt _ hp
  apply ext_getD 0
  · rw [rot_length, rot_length, rot_length]
  · intro i hi
    rw [rot_length, rot_length] at hi
    rw [rot_getD _ b i (by rw [rot_length]; omega) (by rw [rot_length]; exact hi), rot_length, rot_getD u a _ (by omega) (Nat.mod_lt _ hp), rot_getD u _ i (by omega) hi]
    congr 1
    rw [Nat.add_mod_mod, Nat.mod_add_mod, Nat.add_assoc]

theorem prim_rot {u : List Int} (h : Prim u) (a : Nat) (ha : a < u.length) : Prim (rot u a) := by
  refine ⟨by rw [rot_length]; exact h.1, fun k h0 hk e => ?_⟩
  rw [rot_length] at hk
  -- turn both back to u
  have e2 : rot (rot (rot u a) k) ((u.length - a) % u.length) = rot (rot u a) ((u.length - a) % u.length) := by rw [e]
  have hp : 0 < u.length := h.1
  have hb : (u.length - a) % u.length < u.length := Nat.mod_lt _ hp
  rw [rot_rot u a k ha hk, rot_rot u _ _ (Nat.mod_lt _ hp) hb, rot_rot u a _ ha hb] at e2
  have e3 : ((a + k) % u.length + (u.length - a) % u.length) % u.length = k := by
    rw [Nat.add_mod_mod, Nat.mod_add_mod, show a + k + (u.length - a) = k + u.length by omega, Nat.add_mod_right, Nat.mod_eq_of_lt hk]
  have e4 : (a + (u.length - a) % u.length) % u.length = 0 := by
    rw [Nat.add_mod_mod, show a + (u.length - a) = u.length by omega, Nat.mod_self]
  rw [e3, e4, rot_zero] at e2
  exact h.2 k h0 hk e2

theorem lyn_of_least {v : List Int} (h : 0 < v.length) (hl : ∀ k, 0 < k → k < v.length → cmpW v (rot v k) < 0) : Lyn v := by
  refine ⟨h, fun k h0 hk => ?_⟩
  by_cases c : cmpW v (v.drop k) < 0
  · exact c
  · exfalso
    have hxy : v = v.take k ++ v.drop k := (List.take_append_drop k v).symm
    generalize hx : v.take k = x at hxy
    generalize hy : v.drop k = y at hxy c
    have hxl : x.length = k := by rw [← hx, List.length_take]; omega
    have hyl : y.length = v.length - k := by rw [← hy, List.length_drop]
    have hne : cmpW v y ≠ 0 := fun e => by
      have := congrArg List.length ((cmpW_zero _ _).1 e)
      omega
    have hlt : cmpW y v < 0 := by rw [cmpW_anti]; omega
    have hr : rot v k = y ++ x := by unfold rot; rw [hx, hy]
    have hk1 := hl k h0 hk
    rw [hr] at hk1
    rcases cmpW_cases y v hlt with ⟨cc, hcc, e⟩ | g
    · have hcl : cc.length = x.length := by
        have := congrArg List.length e
        rw [List.length_append] at this
        omega
      rw [e, cmpW_left] at hk1
      have hr2 : rot v y.length = cc ++ y := by
        unfold rot
        rw [e]
        simp
      have hk2 := hl y.length (by omega) (by omega)
      rw [hr2, hxy] at hk2
      rcases cmpW_cases cc x hk1 with ⟨d, hd, e2⟩ | g
      · have := congrArg List.length e2
        rw [List.length_append] at this
        have : d.length = 0 := by omega
        exact hd (List.length_eq_zero_iff.1 this)
      · have := g y y
        rw [cmpW_anti] at this
        omega
    · have := g x []
      rw [List.append_nil, cmpW_anti] at this
      omega

/-- A primitive word has a rotation that is a Lyndon word. -/
theorem lyn_exists {u : List Int} (h : Prim u) : ∃ k, k < u.length ∧ Lyn (rot u k) ∧ ∀ j, j < u.length → cmpW (rot u k) (rot u j) ≤ 0 := by
  obtain ⟨k, hk, hl⟩ := cmpW_least (rot u) u.length h.1
  refine ⟨k, hk, lyn_of_least (by rw [rot_length]; exact h.1) (fun j h0 hj => ?_), hl⟩
  rw [rot_length] at hj
  have hp := (prim_rot h k hk).2 j h0 (by rw [rot_length]; exact hj)
  have := hl ((k + j) % u.length) (Nat.mod_lt _ h.1)
  rw [← rot_rot u k j hk hj] at this
  rcases Int.lt_or_eq_of_le this with g | g
  · exact g
  · exact absurd ((cmpW_zero _ _).1 g).symm hp

/-- .. and no other one. -/
theorem lyn_one {u : List Int} (h : Lyn u) {k : Nat} (h0 : 0 < k) (hk : k < u.length) (h2 : Lyn (rot u k)) : False := by
  have hxy : u = u.take k ++ u.drop k := (List.take_append_drop k u).symm
  have a1 := h.2 k h0 hk
  have hlen : (u.drop k).length = u.length - k := List.length_drop ..
  have a2 : cmpW (u.drop k) (rot u k) < 0 := cmpW_longer _ _ (by
    intro e
    have := congrArg List.length e
    rw [List.length_take, List.length_nil] at this
    omega)
  have a3 := h2.2 (u.length - k) (by omega) (by rw [rot_length]; omega)
  have e3 : (rot u k).drop (u.length - k) = u.take k := by
    unfold rot
    rw [← hlen, List.drop_left]
  rw [e3] at a3
  have a4 : cmpW (u.take k) u < 0 := by
    have := cmpW_longer (u.take k) (u.drop k) (by
      intro e
      have := congrArg List.length e
      rw [List.length_drop, List.length_nil] at this
      omega)
    rwa [← hxy] at this
  have := cmpW_trans _ _ _ (cmpW_trans _ _ _ a1 a2) (cmpW_trans _ _ _ a3 a4)
  rw [cmpW_refl] at this
  omega

/-- A Lyndon word has no border. -/
theorem lyn_border {u : List Int} (h : Lyn u) {b : Nat} (h0 : 0 < b) (hb : b < u.length) (e : u.take b = u.drop (u.length - b)) : False := by
  have a1 := h.2 (u.length - b) (by omega) (by omega)
  rw [← e] at a1
  have a2 : cmpW (u.take b) u < 0 := by
    have := cmpW_longer (u.take b) (u.drop b) (by
      intro e
      have := congrArg List.length e
      rw [List.length_drop, List.length_nil] at this
      omega)
    rwa [List.take_append_drop] at this
  have := cmpW_trans _ _ _ a1 a2
  rw [cmpW_refl] at this
  omega

/-- .. told by a period. -/
theorem lyn_period {u : List Int} (h : Lyn u) {q : Nat} (h0 : 0 < q) (hq : q < u.length) (e : ∀ i, i + q < u.length → u.getD i 0 = u.getD (i + q) 0) : False := by
  refine lyn_border h (b := u.length - q) (by omega) (by omega) ?_
  rw [show u.length - (u.length - q) = q by omega]
  apply ext_getD 0
  · rw [List.length_take, List.length_drop]; omega
  · intro i hi
    rw [List.length_take] at hi
    rw [getD_take _ _ _ _ (by omega), getD_drop, e i (by omega), Nat.add_comm]

end Go.Proofs.Ytolikggioekalab.G
