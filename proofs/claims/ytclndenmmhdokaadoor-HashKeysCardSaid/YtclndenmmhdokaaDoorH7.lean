/- SHA-256: what is put behind a text, and the sum, in plain words. -/
import Derived.Test.YtclndenmmhdokaaDoorH4
import Derived.Test.YtclndenmmhdokaaDoorQB
namespace Go.Proofs.YtclndenmmhdokaaDoor
open Go
set_option linter.unusedVariables false
namespace Sha

/-- A number as eight bytes, the highest one first. -/
def big8 (m : Nat) : List Int := (List.range 8).map fun i => ((m / 2 ^ (56 - 8 * i) % 256 : Nat) : Int)
def zeros (n : Nat) : Nat := (119 - n % 64) % 64
/-- What is put behind n bytes. -/
def tail (n : Nat) : List Int := 128 :: (List.replicate (zeros n) 0 ++ big8 (8 * n))
def quad (x : Int) : List Int := [x / 16777216 % 256, x / 65536 % 256, x / 256 % 256, x % 256]
def digest (v : V8) : List Int := v.list.flatMap quad
def sum (t : List Int) : List Int := digest (eatAll H0 (t ++ tail t.length)).1
theorem big8_length (m : Nat) : (big8 m).length = 8 := by simp [big8]
theorem tail_length (n : Nat) : (tail n).length = zeros n + 9 := by simp [tail, big8_length]
theorem tail_whole (n : Nat) : (n + (tail n).length) % 64 = 0 := by rw [tail_length]; unfold zeros; omega
theorem zeros_at (n l j : Nat) (h : l % 64 = n % 64) (hj : j ≤ zeros n) : (l + 1 + j) % 64 = 56 ↔ j = zeros n := by unfold zeros at hj ⊢; omega
theorem digest_length (v : V8) : (digest v).length = 32 := by rfl
theorem sum_length (t : List Int) : (sum t).length = 32 := digest_length _
theorem digest_get (v : V8) (i j : Nat) (hi : i < 8) (hj : j < 4) : (digest v).getD (4 * i + j) 0 = (quad (v.list.getD i 0)).getD j 0 := by
  rcases (by omega : i = 0 ∨ i = 1 ∨ i = 2 ∨ i = 3 ∨ i = 4 ∨ i = 5 ∨ i = 6 ∨ i = 7) with rfl | rfl | rfl | rfl | rfl | rfl | rfl | rfl <;>
    rcases (by omega : j = 0 ∨ j = 1 ∨ j = 2 ∨ j = 3) with rfl | rfl | rfl | rfl <;> rfl
theorem byts_quad (x : Int) : Byts (quad x) := by
  intro y hy
  simp only [quad, List.mem_cons, List.not_mem_nil, or_false] at hy
  rcases hy with rfl | rfl | rfl | rfl <;> omega
theorem byts_digest (v : V8) : Byts (digest v) := by
  intro y hy
  obtain ⟨x, _, h⟩ := List.mem_flatMap.1 hy
  exact byts_quad x y h
theorem byts_sum (t : List Int) : Byts (sum t) := byts_digest _
theorem byts_big8 (m : Nat) : Byts (big8 m) := by
  intro y hy
  obtain ⟨i, _, rfl⟩ := List.mem_map.1 hy
  omega
theorem byts_tail (n : Nat) : Byts (tail n) := by
  intro y hy
  rcases List.mem_cons.1 hy with rfl | hy
  · omega
  · rcases List.mem_append.1 hy with hy | hy
    · have := List.eq_of_mem_replicate hy
      omega
    · exact byts_big8 _ y hy
theorem big8_next (m i : Nat) (h : i < 8) : (big8 m).take i ++ [((m / 2 ^ (56 - 8 * i) % 256 : Nat) : Int)] = (big8 m).take (i + 1) := by
  have hl : i < (big8 m).length := by rw [big8_length]; exact h
  rw [List.take_succ_eq_append_getElem hl]
  simp [big8]
end Sha
end Go.Proofs.YtclndenmmhdokaaDoor
