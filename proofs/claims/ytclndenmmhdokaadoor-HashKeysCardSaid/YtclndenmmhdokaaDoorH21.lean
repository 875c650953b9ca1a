/- Bytes as letters, in plain words. -/
import Derived.Test.YtclndenmmhdokaaDoorQ4
import Derived.Test.YtclndenmmhdokaaDoorH20
namespace Go.Proofs.YtclndenmmhdokaaDoor
open Go Bq
set_option linter.unusedVariables false
def lett : List Int := [65, 66, 67, 68, 69, 70, 71, 72, 73, 74, 75, 76, 77, 78, 79, 80, 81, 82, 83, 84, 85, 86, 87, 88, 89, 90, 97, 98, 99, 100, 101, 102, 103, 104, 105, 106, 107, 108, 109, 110, 111, 112, 113, 114, 115, 116, 117, 118, 119, 120, 121, 122, 48, 49, 50, 51, 52, 53, 54, 55, 56, 57, 45, 95]
def lettS : ByteArray := ⟨#[65, 66, 67, 68, 69, 70, 71, 72, 73, 74, 75, 76, 77, 78, 79, 80, 81, 82, 83, 84, 85, 86, 87, 88, 89, 90, 97, 98, 99, 100, 101, 102, 103, 104, 105, 106, 107, 108, 109, 110, 111, 112, 113, 114, 115, 116, 117, 118, 119, 120, 121, 122, 48, 49, 50, 51, 52, 53, 54, 55, 56, 57, 45, 95]⟩
/-- At most six bits as a letter. -/
def six1 (l : List Bool) : Int := lett.getD (bnum l * 2 ^ (6 - l.length)) 0
/-- Bits as letters, six in a letter. -/
def arm (l : List Bool) : List Int := if l = [] then [] else six1 (l.take 6) :: arm (l.drop 6)
  termination_by l.length
  decreasing_by
    rename_i h
    have : 0 < l.length := (List.length_pos_iff.2 h)
    rw [List.length_drop]
    omega
def armor (xs : List Int) : List Int := arm (bitsOf xs (8 * xs.length))
theorem arm_nil : arm [] = [] := by unfold arm; simp
theorem arm_cons (l : List Bool) (h : l ≠ []) : arm l = six1 (l.take 6) :: arm (l.drop 6) := by rw [arm]; simp [h]
theorem arm_append : ∀ (q : Nat) (a t : List Bool), a.length = 6 * q → arm (a ++ t) = arm a ++ arm t
  | 0, a, t, h => by
    have : a = [] := List.eq_nil_of_length_eq_zero (by omega)
    subst this
    rw [arm_nil]
    rfl
  | q + 1, a, t, h => by
    have ha : a ≠ [] := by intro e; rw [e] at h; simp at h
    have hat : a ++ t ≠ [] := by intro e; exact ha (List.append_eq_nil_iff.1 e).1
    rw [arm_cons _ hat, arm_cons a ha, List.take_append_of_le_length (by omega), List.drop_append_of_le_length (by omega), arm_append q (a.drop 6) t (by rw [List.length_drop]; omega)]
    rfl
theorem arm_short (t : List Bool) (h0 : t ≠ []) (h6 : t.length ≤ 6) : arm t = [six1 t] := by
  rw [arm_cons t h0, List.take_of_length_le h6, List.drop_of_length_le h6, arm_nil]
theorem arm_length (l : List Bool) : (arm l).length = (l.length + 5) / 6 := by
  induction hn : l.length using Nat.strongRecOn generalizing l with
  | _ n ih =>
    by_cases h : l = []
    · subst h
      rw [arm_nil, ← hn]
      rfl
    · have hp := (List.length_pos_iff.2 h)
      rw [arm_cons l h, List.length_cons, ih (l.drop 6).length (by rw [List.length_drop]; omega) (l.drop 6) rfl, List.length_drop]
      omega
/-- The six bits ahead of n. -/
theorem six_pick (x n : Nat) (r : List Bool) (hl : r.length = n + 6) (hx : x % 2 ^ (n + 6) = bnum r) : x / 2 ^ n % 64 = bnum (r.take 6) ∧ x % 2 ^ n = bnum (r.drop 6) := by
  have h1 := bnum_append (r.take 6) (r.drop 6)
  rw [List.take_append_drop] at h1
  have hd : (r.drop 6).length = n := by rw [List.length_drop]; omega
  have ht : (r.take 6).length = 6 := by rw [List.length_take]; omega
  rw [hd] at h1
  have h2 := bnum_lt (r.drop 6)
  rw [hd] at h2
  have h3 := bnum_lt (r.take 6)
  rw [ht] at h3
  have hp : 2 ^ (n + 6) = 2 ^ n * 64 := by rw [Nat.pow_add]
  have hp0 : 0 < 2 ^ n := Nat.pow_pos (by decide)
  have e1 : x % 2 ^ n = x % 2 ^ (n + 6) % 2 ^ n := by rw [hp, Nat.mod_mul_right_mod]
  have e2 : x / 2 ^ n % 64 = x % 2 ^ (n + 6) / 2 ^ n := by rw [hp, Nat.mod_mul_right_div_self]
  constructor
  · rw [e2, hx, h1, Nat.add_comm, Nat.add_mul_div_right _ _ hp0, Nat.div_eq_of_lt h2, Nat.zero_add]
  · rw [e1, hx, h1, Nat.add_comm, Nat.add_mul_mod_self_right, Nat.mod_eq_of_lt h2]
theorem six1_full (r : List Bool) (h : r.length = 6) : six1 r = lett.getD (bnum r) 0 := by
  unfold six1
  rw [h]
  simp
end Go.Proofs.YtclndenmmhdokaaDoor
