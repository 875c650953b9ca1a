/- SHA-256: texts eaten block by block, in plain words. -/
import Derived.Test.YtclndenmmhdokaaDoorH1
namespace Go.Proofs.YtclndenmmhdokaaDoor
open Go
set_option linter.unusedVariables false
namespace Sha

/-- A state behind all whole blocks of a text, and what is left: at most k blocks. -/
def eat : Nat → V8 → List Int → V8 × List Int
  | 0, v, l => (v, l)
  | k + 1, v, l => if 64 ≤ l.length then eat k (block v (l.take 64)) (l.drop 64) else (v, l)
def eatAll (v : V8) (l : List Int) : V8 × List Int := eat (l.length / 64) v l
theorem eat_small (k : Nat) (v : V8) (l : List Int) (h : l.length < 64) : eat k v l = (v, l) := by
  cases k with
  | zero => rfl
  | succ k => rw [eat, if_neg (by omega)]
theorem eat_more : ∀ (k j : Nat) (v : V8) (l : List Int), l.length / 64 ≤ k → l.length / 64 ≤ j → eat k v l = eat j v l
  | 0, j, v, l, h, h2 => by rw [eat_small j v l (by omega)]; rfl
  | k + 1, 0, v, l, h, h2 => by rw [eat_small (k + 1) v l (by omega)]; rfl
  | k + 1, j + 1, v, l, h, h2 => by
    rw [eat, eat]
    split
    · exact eat_more k j _ _ (by rw [List.length_drop]; omega) (by rw [List.length_drop]; omega)
    · rfl
theorem eatAll_small (v : V8) (l : List Int) (h : l.length < 64) : eatAll v l = (v, l) := eat_small _ v l h
theorem eatAll_big (v : V8) (l : List Int) (h : 64 ≤ l.length) : eatAll v l = eatAll (block v (l.take 64)) (l.drop 64) := by
  unfold eatAll
  obtain ⟨k, hk⟩ : ∃ k, l.length / 64 = k + 1 := ⟨l.length / 64 - 1, by omega⟩
  rw [hk, eat, if_pos h]
  exact eat_more _ _ _ _ (by rw [List.length_drop]; omega) (Nat.le_refl _)
theorem eatAll_left : ∀ (n : Nat) (v : V8) (l : List Int), l.length ≤ n → (eatAll v l).2.length < 64 ∧ (eatAll v l).2.length = l.length % 64 := by
  intro n
  induction n with
  | zero => intro v l h; rw [eatAll_small v l (by omega)]; simp only; omega
  | succ n ih =>
    intro v l h
    by_cases h64 : 64 ≤ l.length
    · rw [eatAll_big v l h64]
      have := ih (block v (l.take 64)) (l.drop 64) (by rw [List.length_drop]; omega)
      rw [List.length_drop] at this
      omega
    · rw [eatAll_small v l (by omega)]; simp only; omega
/-- Eaten in two goes. -/
theorem eatAll_append : ∀ (n : Nat) (v : V8) (l p : List Int), l.length ≤ n → eatAll v (l ++ p) = eatAll (eatAll v l).1 ((eatAll v l).2 ++ p) := by
  intro n
  induction n with
  | zero => intro v l p h; rw [eatAll_small v l (by omega)]
  | succ n ih =>
    intro v l p h
    by_cases h64 : 64 ≤ l.length
    · rw [eatAll_big v l h64, eatAll_big v (l ++ p) (by rw [List.length_append]; omega), List.take_append_of_le_length h64, List.drop_append_of_le_length h64]
      exact ih _ _ _ (by rw [List.length_drop]; omega)
    · rw [eatAll_small v l (by omega)]
/-- The state behind j whole blocks. -/
def vAt (v : V8) (l : List Int) : Nat → V8
  | 0 => v
  | j + 1 => block (vAt v l j) ((l.drop (64 * j)).take 64)
theorem vAt_shift (v : V8) (l : List Int) : ∀ j, vAt v l (j + 1) = vAt (block v (l.take 64)) (l.drop 64) j
  | 0 => by simp [vAt]
  | j + 1 => by
    rw [vAt, vAt_shift v l j, vAt, List.drop_drop]
    congr 3
    omega
theorem eatAll_vAt : ∀ (j : Nat) (v : V8) (l : List Int), 64 * j ≤ l.length → l.length < 64 * j + 64 → eatAll v l = (vAt v l j, l.drop (64 * j))
  | 0, v, l, h1, h2 => by rw [eatAll_small v l (by omega)]; simp [vAt]
  | j + 1, v, l, h1, h2 => by
    rw [eatAll_big v l (by omega), eatAll_vAt j _ _ (by rw [List.length_drop]; omega) (by rw [List.length_drop]; omega), vAt_shift, List.drop_drop]
    congr 2
    omega
end Sha
end Go.Proofs.YtclndenmmhdokaaDoor
