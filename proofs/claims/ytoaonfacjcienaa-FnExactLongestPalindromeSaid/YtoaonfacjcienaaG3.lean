/- Palindromes in a word: the longest one, and the first of that length. No condition. -/
import Derived.Test.YtoaonfacjcienaaG0
namespace Go.Proofs.Ytoaonfacjcienaa.G
set_option linter.unusedVariables false

def Pal (w : List Int) (s n : Nat) : Prop := s + n ≤ w.length ∧ ∀ k, k < n → w.getD (s + k) 0 = w.getD (s + n - 1 - k) 0

theorem pal_iff (w : List Int) (s n : Nat) (h : s + n ≤ w.length) : (w.take (s + n)).drop s = ((w.take (s + n)).drop s).reverse ↔ Pal w s n := by
  have hl : ((w.take (s + n)).drop s).length = n := by simp; omega
  have hg : ∀ k, k < n → ((w.take (s + n)).drop s).getD k 0 = w.getD (s + k) 0 := by
    intro k hk
    rw [getD_drop, getD_take _ _ _ _ (by omega)]
  constructor
  · intro e
    refine ⟨h, fun k hk => ?_⟩
    have := congrArg (fun x => x.getD k 0) e
    rw [getD_reverse _ _ _ (by omega), hl, hg k hk, hg (n - 1 - k) (by omega)] at this
    rw [this]; congr 1; omega
  · intro ⟨_, e⟩
    apply ext_getD 0 (by simp)
    intro k hk
    rw [hl] at hk
    rw [getD_reverse _ _ _ (by omega), hl, hg k hk, hg (n - 1 - k) (by omega), e k hk]
    congr 1; omega

def PalBest (w : List Int) (a n : Nat) : Prop := Pal w a n ∧ (∀ s m, Pal w s m → m ≤ n) ∧ ∀ s, Pal w s n → a ≤ s

theorem PalBest.one {w : List Int} {a n a' n' : Nat} (h : PalBest w a n) (h' : PalBest w a' n') : a = a' ∧ n = n' := by
  have h1 := h.2.1 _ _ h'.1
  have h2 := h'.2.1 _ _ h.1
  have e : n = n' := by omega
  subst e
  have h3 := h.2.2 _ h'.1
  have h4 := h'.2.2 _ h.1
  exact ⟨by omega, rfl⟩

/-- The best among the palindromes whose middle is before c. -/
def PalInv (w : List Int) (c a n : Nat) : Prop := Pal w a n ∧ (n = 0 → a = 0) ∧ ∀ s m, 1 ≤ m → 2 * s + m < c → Pal w s m → m ≤ n ∧ (m = n → a ≤ s)

theorem PalInv.start (w : List Int) : PalInv w 0 0 0 := ⟨⟨by omega, fun k hk => by omega⟩, fun _ => rfl, fun s m h1 h2 => by omega⟩

theorem PalInv.done {w : List Int} {a n : Nat} (h : PalInv w (2 * w.length) a n) : PalBest w a n := by
  obtain ⟨h1, h2, h3⟩ := h
  refine ⟨h1, fun s m hp => ?_, fun s hp => ?_⟩
  · by_cases hm : m = 0
    · omega
    · have := hp.1
      exact (h3 s m (by omega) (by omega) hp).1
  · by_cases hn : n = 0
    · have := h2 hn; omega
    · have := hp.1
      exact (h3 s n (by omega) (by omega) hp).2 rfl

theorem PalInv.next {w : List Int} {c a n i j : Nat} (h : PalInv w c a n) (hp : Pal w i (j - i)) (hij : i ≤ j) (hc : i + j = c ∨ c = 0)
    (hmax : ∀ s m, Pal w s m → 2 * s + m = i + j → m ≤ j - i) :
    PalInv w (c + 1) (if j - i > n then i else if j - i = n ∧ i < a then i else a) (if j - i > n then j - i else n) := by
  obtain ⟨h1, h2, h3⟩ := h
  by_cases c1 : j - i > n
  · rw [if_pos c1, if_pos c1]
    refine ⟨hp, fun e => by omega, fun s m hm hs hq => ?_⟩
    by_cases hlt : 2 * s + m < c
    · have := h3 s m hm hlt hq; exact ⟨by omega, fun e => by omega⟩
    · have := hmax s m hq (by omega); exact ⟨by omega, fun e => by omega⟩
  · rw [if_neg c1, if_neg c1]
    by_cases c2 : j - i = n ∧ i < a
    · rw [if_pos c2]
      refine ⟨by have := hp; rw [c2.1] at this; exact this, fun e => by have := h2 e; omega, fun s m hm hs hq => ?_⟩
      by_cases hlt : 2 * s + m < c
      · have := h3 s m hm hlt hq; exact ⟨by omega, fun e => by have := this.2 e; omega⟩
      · have := hmax s m hq (by omega); exact ⟨by omega, fun e => by omega⟩
    · rw [if_neg c2]
      refine ⟨h1, h2, fun s m hm hs hq => ?_⟩
      by_cases hlt : 2 * s + m < c
      · exact h3 s m hm hlt hq
      · have := hmax s m hq (by omega); exact ⟨by omega, fun e => by omega⟩

theorem Pal.grow {w : List Int} {i j : Nat} (h : Pal w (i + 1) (j - (i + 1))) (hij : i + 1 ≤ j) (hj : j < w.length) (he : w.getD i 0 = w.getD j 0) : Pal w i (j + 1 - i) := by
  refine ⟨by omega, fun k hk => ?_⟩
  by_cases k0 : k = 0
  · subst k0; rw [show i + 0 = i by omega, show i + (j + 1 - i) - 1 - 0 = j by omega]; exact he
  · by_cases k1 : k = j - i
    · subst k1; rw [show i + (j - i) = j by omega, show i + (j + 1 - i) - 1 - (j - i) = i by omega]; exact he.symm
    · have := h.2 (k - 1) (by omega)
      rw [show i + 1 + (k - 1) = i + k by omega] at this
      rw [this]; congr 1; omega

theorem Pal.stop {w : List Int} {i j : Nat} (hij : i ≤ j) (hs : i = 0 ∨ w.length ≤ j ∨ ¬ w.getD (i - 1) 0 = w.getD j 0) : ∀ s m, Pal w s m → 2 * s + m = i + j → m ≤ j - i := by
  intro s m hp he
  apply Nat.le_of_not_lt
  intro hlt
  have h1 := hp.1
  rcases hs with h | h | h
  · omega
  · omega
  · apply h
    have h2 := hp.2 (i - 1 - s) (by omega)
    rw [show s + (i - 1 - s) = i - 1 by omega, show s + m - 1 - (i - 1 - s) = j by omega] at h2
    exact h2

end Go.Proofs.Ytoaonfacjcienaa.G
