/- Plain mathematics of rows of bits: no program. -/
import Derived.Laws.BitsLemmas
import Derived.KernelRfl
namespace Go.Proofs.YtclndenmmhdokaaDoor
namespace Bq
set_option linter.unusedVariables false
set_option linter.unusedSimpArgs false

theorem snoc_ind {α : Type} {P : List α → Prop} (h0 : P []) (h1 : ∀ l b, P l → P (l ++ [b])) (l : List α) : P l := by
  have h : ∀ m : List α, P m.reverse := by
    intro m
    induction m with
    | nil => exact h0
    | cons b m ih => rw [List.reverse_cons]; exact h1 _ _ ih
  have := h l.reverse
  rwa [List.reverse_reverse] at this

/-- The lowest w bits of n, the highest first. -/
def nb (n : Nat) (w : Nat) : List Bool := (List.range w).map fun i => n.testBit (w - 1 - i)
/-- Bits as a number, the first one highest. -/
def bnum (l : List Bool) : Nat := l.foldl (fun a b => 2 * a + b.toNat) 0
/-- At most eight bits as a byte, bits 0 behind. -/
def byte8 (l : List Bool) : Nat := bnum l * 2 ^ (8 - l.length)
/-- Bits, eight in a byte. -/
def pack (l : List Bool) : List Nat := if l = [] then [] else byte8 (l.take 8) :: pack (l.drop 8)
termination_by l.length
decreasing_by
  rename_i h
  have : 0 < l.length := List.length_pos_iff.2 h
  simp
  omega
/-- As whole numbers. -/
def ints (l : List Nat) : List Int := l.map fun (x : Nat) => (x : Int)
def packI (l : List Bool) : List Int := ints (pack l)

theorem ints_append (a b : List Nat) : ints (a ++ b) = ints a ++ ints b := by simp [ints]
theorem ints_length (a : List Nat) : (ints a).length = a.length := by simp [ints]

theorem nb_length (n w : Nat) : (nb n w).length = w := by simp [nb]
theorem nb_zero (n : Nat) : nb n 0 = [] := rfl
theorem nb_succ (n w : Nat) : nb n (w + 1) = n.testBit w :: nb n w := by
  unfold nb
  rw [List.range_succ_eq_map, List.map_cons, List.map_map]
  congr 1
  apply List.map_congr_left
  intro i hi
  simp only [Function.comp]
  congr 1
  omega
theorem nb_add (n a : Nat) : ∀ b, nb n (b + a) = nb (n / 2 ^ a) b ++ nb n a
  | 0 => by simp [nb_zero]
  | b + 1 => by
    rw [show b + 1 + a = (b + a) + 1 from by omega, nb_succ, nb_succ, nb_add n a b, List.cons_append]
    congr 1
    rw [Nat.testBit_div_two_pow]
theorem nb_split (n w k : Nat) (h : k ≤ w) : nb n w = nb (n / 2 ^ (w - k)) k ++ nb n (w - k) := by
  have := nb_add n (w - k) k
  rwa [show k + (w - k) = w from by omega] at this
theorem nb_mod (n w : Nat) : nb (n % 2 ^ w) w = nb n w := by
  unfold nb
  apply List.map_congr_left
  intro i hi
  have := List.mem_range.1 hi
  rw [Nat.testBit_mod_two_pow]
  simp
  omega

theorem bnum_nil : bnum [] = 0 := rfl
theorem bnum_snoc (l : List Bool) (b : Bool) : bnum (l ++ [b]) = 2 * bnum l + b.toNat := by simp [bnum]
theorem bnum_append (l : List Bool) : ∀ t : List Bool, bnum (l ++ t) = bnum l * 2 ^ t.length + bnum t := by
  intro t
  induction t using snoc_ind with
  | h0 => simp [bnum_nil]
  | h1 t b ih =>
    rw [← List.append_assoc, bnum_snoc, bnum_snoc, ih, List.length_append, List.length_singleton, Nat.pow_succ]
    rw [Nat.mul_add, ← Nat.mul_assoc, Nat.mul_comm 2 (bnum l), Nat.mul_assoc, Nat.mul_comm 2 (2 ^ _)]
    omega
theorem bnum_lt (l : List Bool) : bnum l < 2 ^ l.length := by
  induction l using snoc_ind with
  | h0 => simp [bnum_nil]
  | h1 l b ih =>
    rw [bnum_snoc, List.length_append, List.length_singleton, Nat.pow_succ]
    have : b.toNat ≤ 1 := Bool.toNat_le b
    omega
theorem bnum_nb (n : Nat) : ∀ w, bnum (nb n w) = n % 2 ^ w
  | 0 => by simp [nb_zero, bnum_nil, Nat.mod_one]
  | w + 1 => by
    have h := nb_split n (w + 1) w (by omega)
    rw [show w + 1 - w = 1 from by omega] at h
    rw [h, bnum_append, bnum_nb (n / 2 ^ 1) w, nb_length]
    have h1 : bnum (nb n 1) = n % 2 := by
      rw [nb_succ, nb_zero]
      simp [bnum, Nat.testBit_zero]
      rcases Nat.mod_two_eq_zero_or_one n with h | h <;> simp [h]
    rw [h1, Nat.pow_one, Nat.pow_succ, Nat.mul_comm (2 ^ w) 2, Nat.mod_mul]
    omega
theorem nb_bnum : ∀ l : List Bool, nb (bnum l) l.length = l := by
  intro l
  induction l using snoc_ind with
  | h0 => rfl
  | h1 l b ih =>
    rw [bnum_snoc, List.length_append, List.length_singleton]
    have h := nb_split (2 * bnum l + b.toNat) (l.length + 1) l.length (by omega)
    rw [show l.length + 1 - l.length = 1 from by omega] at h
    rw [h]
    have hb : b.toNat ≤ 1 := Bool.toNat_le b
    rw [show (2 * bnum l + b.toNat) / 2 ^ 1 = bnum l from by omega, ih, nb_succ, nb_zero]
    congr 1
    rw [Nat.testBit_zero]
    cases b <;> simp [Nat.add_mod]

theorem pack_nil : pack [] = [] := by unfold pack; simp
theorem pack_cons (l : List Bool) (h : l ≠ []) : pack l = byte8 (l.take 8) :: pack (l.drop 8) := by rw [pack]; simp [h]
theorem pack_length (l : List Bool) : (pack l).length = (l.length + 7) / 8 := by
    by_cases h : l = []
    · subst h; simp [pack_nil]
    · have hp : 0 < l.length := List.length_pos_iff.2 h
      rw [pack_cons l h, List.length_cons, pack_length (l.drop 8), List.length_drop]
      omega
termination_by l.length
decreasing_by
  have : 0 < l.length := List.length_pos_iff.2 h
  simp
  omega
theorem pack_append : ∀ (q : Nat) (a t : List Bool), a.length = 8 * q → pack (a ++ t) = pack a ++ pack t
  | 0, a, t, h => by
    have : a = [] := List.eq_nil_of_length_eq_zero (by omega)
    subst this
    simp [pack_nil]
  | q + 1, a, t, h => by
    have ha : a ≠ [] := by rintro rfl; simp at h
    have hat : a ++ t ≠ [] := by simp [ha]
    rw [pack_cons _ hat, pack_cons a ha, List.take_append_of_le_length (by omega), List.drop_append_of_le_length (by omega), List.cons_append]
    rw [pack_append q (a.drop 8) t (by simp; omega)]
theorem pack_short (t : List Bool) (h0 : t ≠ []) (h8 : t.length ≤ 8) : pack t = [byte8 t] := by
  rw [pack_cons t h0, List.take_of_length_le h8, List.drop_of_length_le h8, pack_nil]
theorem byte8_lt (t : List Bool) (h8 : t.length ≤ 8) : byte8 t < 256 := by
  unfold byte8
  have h := bnum_lt t
  calc bnum t * 2 ^ (8 - t.length) < 2 ^ t.length * 2 ^ (8 - t.length) := Nat.mul_lt_mul_of_pos_right h (Nat.two_pow_pos _)
    _ = 256 := by rw [← Nat.pow_add, show t.length + (8 - t.length) = 8 from by omega]
theorem pack_lt : ∀ (l : List Bool) (x : Nat), x ∈ pack l → x < 256
  | l, x, hx => by
    by_cases h : l = []
    · subst h; simp [pack_nil] at hx
    · rw [pack_cons l h] at hx
      rcases List.mem_cons.1 hx with rfl | hx
      · exact byte8_lt _ (by simp; omega)
      · exact pack_lt (l.drop 8) x hx
termination_by l => l.length
decreasing_by
  have : 0 < l.length := List.length_pos_iff.2 h
  simp
  omega

/-- The last, unfinished byte with more bits. -/
theorem byte8_append (l t : List Bool) (h : l.length + t.length ≤ 8) : byte8 (l ++ t) = byte8 l + bnum t * 2 ^ (8 - l.length - t.length) := by
  unfold byte8
  rw [bnum_append, List.length_append, Nat.add_mul, Nat.mul_assoc, ← Nat.pow_add]
  congr 2
  · congr 1
    omega
  · congr 1
    omega

/-- What one step does to the bytes. -/
theorem pack_step0 (bs t : List Bool) (h0 : bs.length % 8 = 0) (ht : t ≠ []) (h8 : t.length ≤ 8) : pack (bs ++ t) = pack bs ++ [byte8 t] := by
  rw [pack_append (bs.length / 8) bs t (by omega), pack_short t ht h8]
theorem pack_step1 (bs t : List Bool) (h0 : bs.length % 8 ≠ 0) (h8 : bs.length % 8 + t.length ≤ 8) :
    ∃ p x, pack bs = p ++ [x] ∧ x % 2 ^ (8 - bs.length % 8) = 0 ∧ x < 256 ∧ pack (bs ++ t) = p ++ [x + bnum t * 2 ^ (8 - bs.length % 8 - t.length)] := by
  have hsplit : bs = bs.take (8 * (bs.length / 8)) ++ bs.drop (8 * (bs.length / 8)) := (List.take_append_drop _ _).symm
  have hl : (bs.take (8 * (bs.length / 8))).length = 8 * (bs.length / 8) := by simp; omega
  have hr : (bs.drop (8 * (bs.length / 8))).length = bs.length % 8 := by simp; omega
  have hne : bs.drop (8 * (bs.length / 8)) ≠ [] := by
    intro h
    rw [h] at hr
    simp at hr
    omega
  refine ⟨pack (bs.take (8 * (bs.length / 8))), byte8 (bs.drop (8 * (bs.length / 8))), ?_, ?_, ?_, ?_⟩
  · conv => lhs; rw [hsplit]
    rw [pack_append _ _ _ hl, pack_short _ hne (by omega)]
  · unfold byte8
    rw [hr]
    exact Nat.mul_mod_left _ _
  · exact byte8_lt _ (by omega)
  · conv => lhs; rw [hsplit, List.append_assoc]
    rw [pack_append _ _ _ hl]
    congr 1
    rw [pack_short _ (by intro h; exact hne (List.append_eq_nil_iff.1 h).1) (by rw [List.length_append]; omega), byte8_append _ _ (by omega), hr]

end Bq
end Go.Proofs.YtclndenmmhdokaaDoor
