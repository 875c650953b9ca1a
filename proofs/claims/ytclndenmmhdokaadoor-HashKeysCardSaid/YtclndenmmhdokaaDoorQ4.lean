/- Bits in bytes, there and back. -/
import Derived.Test.YtclndenmmhdokaaDoorQB
namespace Go.Proofs.YtclndenmmhdokaaDoor
open Bq
set_option linter.unusedVariables false

theorem nb_get (n w i : Nat) (h : i < w) : (nb n w)[i]? = some (n.testBit (w - 1 - i)) := by
  unfold nb
  rw [List.getElem?_map, List.getElem?_range h]
  rfl
theorem bnum_testBit (l : List Bool) (i : Nat) (h : i < l.length) : (bnum l).testBit (l.length - 1 - i) = l.getD i false := by
  have h1 := nb_get (bnum l) l.length i h
  rw [nb_bnum] at h1
  rw [List.getD_eq_getElem?_getD, h1]
  rfl
theorem byte8_testBit (l : List Bool) (h8 : l.length ≤ 8) (i : Nat) (h : i < 8) : (byte8 l).testBit (7 - i) = l.getD i false := by
  unfold byte8
  rw [Nat.testBit_mul_two_pow]
  by_cases hi : i < l.length
  · rw [← bnum_testBit l i hi, decide_eq_true (by omega), Bool.true_and]
    congr 1
    omega
  · rw [decide_eq_false (by omega), Bool.false_and, List.getD_eq_getElem?_getD, List.getElem?_eq_none (by omega)]
    rfl
theorem getD_drop8 (l : List Bool) (i : Nat) (h : 8 ≤ i) : (l.drop 8).getD (i - 8) false = l.getD i false := by
  rw [List.getD_eq_getElem?_getD, List.getD_eq_getElem?_getD, List.getElem?_drop]
  congr 2
  omega
theorem bitAt_pack : ∀ (m : Nat) (l : List Bool) (i : Nat), l.length ≤ m → i < 8 * ((l.length + 7) / 8) → bitAt (packI l) i = l.getD i false := by
  intro m
  induction m with
  | zero =>
    intro l i hm hi
    have : l.length = 0 := by omega
    omega
  | succ m ih =>
    intro l i hm hi
    have hl : l ≠ [] := by
      intro h
      subst h
      simp at hi
    have hpos : 0 < l.length := List.length_pos_iff.2 hl
    unfold packI
    rw [pack_cons l hl]
    by_cases h8 : i < 8
    · unfold bitAt
      have e1 : i / 8 = 0 := by omega
      have e2 : i % 8 = i := by omega
      rw [e1, e2]
      show ((byte8 (l.take 8) : Nat) : Int).toNat.testBit (7 - i) = _
      rw [Int.toNat_natCast, byte8_testBit _ (by rw [List.length_take]; omega) i h8]
      rw [List.getD_eq_getElem?_getD, List.getD_eq_getElem?_getD, List.getElem?_take]
      simp [h8]
    · have h1 := ih (l.drop 8) (i - 8) (by rw [List.length_drop]; omega) (by rw [List.length_drop]; omega)
      rw [getD_drop8 l i (by omega)] at h1
      rw [← h1]
      unfold bitAt
      have e1 : i / 8 = (i - 8) / 8 + 1 := by omega
      have e2 : (i - 8) % 8 = i % 8 := by omega
      rw [e1, e2]
      rfl
theorem bitsOf_pack (l : List Bool) : bitsOf (packI l) l.length = l := by
  apply List.ext_getElem
  · rw [bitsOf_length]
  · intro i h1 h2
    rw [bitsOf_get _ _ _ h2, bitAt_pack l.length l i (Nat.le_refl _) (by omega), List.getD_eq_getElem?_getD, List.getElem?_eq_getElem h2]
    rfl
theorem byte_ext {x y : Int} (hx0 : 0 ≤ x) (hx : x < 256) (hy0 : 0 ≤ y) (hy : y < 256) (h : ∀ i, i < 8 → x.toNat.testBit (7 - i) = y.toNat.testBit (7 - i)) : x = y := by
  have e : x.toNat = y.toNat := by
    apply Nat.eq_of_testBit_eq
    intro j
    by_cases hj : j < 8
    · have := h (7 - j) (by omega)
      have e : 7 - (7 - j) = j := by omega
      rw [e] at this
      exact this
    · have hp : (256 : Nat) ≤ 2 ^ j := by
        have : (2 : Nat) ^ 8 ≤ 2 ^ j := Nat.pow_le_pow_right (by decide) (by omega)
        exact this
      rw [Nat.testBit_lt_two_pow (by omega), Nat.testBit_lt_two_pow (by omega)]
  omega
theorem bits_ext (xs ys : List Int) (hl : xs.length = ys.length) (hx : Byts xs) (hy : Byts ys) (h : ∀ i, i < 8 * xs.length → bitAt xs i = bitAt ys i) : xs = ys := by
  apply List.ext_getElem hl
  intro j h1 h2
  have hxj := hx _ (List.getElem_mem h1)
  have hyj := hy _ (List.getElem_mem h2)
  apply byte_ext hxj.1 hxj.2 hyj.1 hyj.2
  intro i hi
  have h3 := h (8 * j + i) (by omega)
  unfold bitAt at h3
  have e1 : (8 * j + i) / 8 = j := by omega
  have e2 : (8 * j + i) % 8 = i := by omega
  rw [e1, e2, List.getD_eq_getElem?_getD, List.getD_eq_getElem?_getD, List.getElem?_eq_getElem h1, List.getElem?_eq_getElem h2] at h3
  exact h3
theorem byts_packI (l : List Bool) : Byts (packI l) := by
  intro x hx
  obtain ⟨y, hy, rfl⟩ := List.mem_map.1 hx
  have := pack_lt l y hy
  omega
/-- A bit laid into a byte. -/
theorem bitAt_set (xs : List Int) (i j : Nat) (hx : Byts xs) (hi : i < 8 * xs.length) :
    bitAt (xs.set (i / 8) ((((xs.getD (i / 8) 0).toNat ||| 2 ^ (7 - i % 8)) : Nat) : Int)) j = (bitAt xs j || decide (j = i)) := by
  have hq : i / 8 < xs.length := by omega
  unfold bitAt
  by_cases hj : j / 8 = i / 8
  · rw [hj, List.getD_eq_getElem?_getD (l := xs.set _ _), List.getElem?_set_self hq]
    show ((((xs.getD (i / 8) 0).toNat ||| 2 ^ (7 - i % 8) : Nat) : Int)).toNat.testBit (7 - j % 8) = _
    rw [Int.toNat_natCast, Nat.testBit_or, Nat.testBit_two_pow]
    congr 1
    have : (7 - i % 8 = 7 - j % 8) = (j = i) := by
      apply propext
      constructor
      · intro h; omega
      · intro h; subst h; rfl
    simp only [this]
  · rw [List.getD_eq_getElem?_getD (l := xs.set _ _), List.getElem?_set_ne (fun h => hj h.symm), decide_eq_false (fun h => hj (by rw [h])), Bool.or_false, List.getD_eq_getElem?_getD]
end Go.Proofs.YtclndenmmhdokaaDoor
