import Derived.Test.YtkkomfomjpcbfaaDoorSTokenVerifiesG0
import Derived.Lib.ValidLaws
import Derived.Laws.BitsLemmas
import Derived.KernelRfl
import Derived.Laws.BitsAllLaws
import Derived.Laws.Bits64
import Derived.WalkArith
import Derived.WalkKit
import Derived.Deep.LoopGhost
namespace Go.Proofs.YtkkomfomjpcbfaaDoor.Bq
end Go.Proofs.YtkkomfomjpcbfaaDoor.Bq
set_option linter.unusedVariables false
set_option linter.unusedSimpArgs false
section
namespace Go.Proofs.YtkkomfomjpcbfaaDoor.Pu
open Go Go.RowKit Go.Proofs.YtkkomfomjpcbfaaDoorW.PrintWords Go.Proofs.YtkkomfomjpcbfaaDoorW.PrintLast Go.Proofs.YtkkomfomjpcbfaaDoorW.PrintMore
theorem w64 {x : Int} (h0 : -9223372036854775808 ≤ x) (h1 : x ≤ 9223372036854775807) : wrap64 x = x := by unfold wrap64; omega
theorem w32 {x : Int} (h0 : -2147483648 ≤ x) (h1 : x ≤ 2147483647) : wrap32 x = x := by unfold wrap32; omega
theorem wn {n : Nat} {x : Int} (h : x = (n : Int)) (hn : n ≤ 9223372036854775807) : wrap64 x = (n : Int) := by
 rw [h]
 exact w64 (by omega) (by omega)
theorem w1 (n : Nat) (h : n ≤ 9000000000000000000) : wrap64 ((n : Int) + 1) = ((n + 1 : Nat) : Int) := wn rfl (by omega)
theorem w2 (n : Nat) (h : n ≤ 9000000000000000000) : wrap64 (((n + 1 : Nat) : Int) + 1) = ((n + 2 : Nat) : Int) := wn (by omega) (by omega)
abbrev Str := List UInt8
def B (s : ByteArray) : Str := s.data.toList
theorem kD (s : ByteArray) : (B s).length = s.size := kM s
theorem toList_B (s : ByteArray) : s.toList = B s := ByteArray.toList_eq s
theorem B_inj {a b : ByteArray} (h : B a = B b) : a = b := Go.WideShapes.bytes_inj h
theorem bt_B (s : ByteArray) (n : Nat) : bt s (n : Int) = (((B s).getD n 0).toNat : Int) := by
 unfold bt B
 rw [Int.toNat_natCast]
 by_cases h : n < s.size
 ·rw [dif_pos h, List.getD_eq_getElem?_getD, List.getElem?_eq_getElem (by rw [kM]; exact h)]
  simp
  rfl
 ·rw [dif_neg h, List.getD_eq_getElem?_getD, List.getElem?_eq_none (by rw [kM]; omega)]
  rfl
theorem B_append (a b : ByteArray) : B (a ++ b) = B a ++ B b := by
 unfold B
 simp [ByteArray.data_append]
theorem B_extract (s : ByteArray) (i j : Nat) : B (s.extract i j) = ((B s).take j).drop i := by
 unfold B
 simp [ByteArray.data_extract, List.drop_take]
theorem drop_cons (l : Str) (n : Nat) (h : n < l.length) : l.drop n = l.getD n 0 :: l.drop (n + 1) := by
 rw [List.drop_eq_getElem_cons h, List.getD_eq_getElem?_getD, List.getElem?_eq_getElem h]
 rfl
theorem getD_drop (l : Str) (n i : Nat) : (l.drop n).getD i 0 = l.getD (n + i) 0 := by
 simp [List.getD_eq_getElem?_getD, List.getElem?_drop]
theorem succ_of {k d : Nat} (h : d < k) : ∃ m, k = m + 1 := ⟨k - 1, by omega⟩
theorem Ev.at {α : Type} {g : Nat → Option α} {r : α} (K : Nat) (h : ∀ k, K < k → g k = some r) : Ev g r := ⟨K + 1, fun k hk => h k (by omega)⟩
theorem Ev.add {α : Type} {g : Nat → Option α} {r : α} (h : Ev g r) : Ev (fun k => g (k + 1)) r := by
 obtain ⟨K, h⟩ := h
 exact ⟨K, fun k hk => h (k + 1) (by omega)⟩
theorem Ev.ite {α : Type} {c : Prop} [Decidable c] {g f : Nat → Option α} {r : α} (h1 : c → Ev g r) (h2 : ¬ c → Ev f r) : Ev (fun k => if c then g k else f k) r := by
 by_cases hc : c
 ·simp only [if_pos hc]; exact h1 hc
 ·simp only [if_neg hc]; exact h2 hc
theorem Ev.const {α : Type} {g : Option α} {r : α} (h : g = some r) : Ev (fun _ => g) r := ⟨0, fun _ _ => h⟩
theorem Ev.bindc {α β : Type} {g : Option α} {f : Nat → α → Option β} {a : α} {r : β} (h : g = some a) (k : Ev (fun n => f n a) r) : Ev (fun n => g.bind (f n)) r := by
 subst h
 exact k
end Go.Proofs.YtkkomfomjpcbfaaDoor.Pu
end
section
namespace Go.Proofs.YtkkomfomjpcbfaaDoor
namespace Bq
theorem snoc_ind {α : Type} {P : List α → Prop} (h0 : P []) (h1 : ∀ l b, P l → P (l ++ [b])) (l : List α) : P l := by
 have h : ∀ m : List α, P m.reverse := by
  intro m
  induction m with
  | nil => exact h0
  | cons b m ih => rw [List.reverse_cons]; exact h1 _ _ ih
 have := h l.reverse
 rwa [List.reverse_reverse] at this
def nb (n : Nat) (w : Nat) : List Bool := (List.range w).map fun i => n.testBit (w - 1 - i)
def bnum (l : List Bool) : Nat := l.foldl (fun a b => 2 * a + b.toNat) 0
def byte8 (l : List Bool) : Nat := bnum l * 2 ^ (8 - l.length)
def pack (l : List Bool) : List Nat := if l = [] then [] else byte8 (l.take 8) :: pack (l.drop 8)
termination_by l.length
decreasing_by
 rename_i h
 have : 0 < l.length := List.length_pos_iff.2 h
 simp
 omega
def ints (l : List Nat) : List Int := l.map fun (x : Nat) => (x : Int)
def packI (l : List Bool) : List Int := ints (pack l)
theorem ints_append (a b : List Nat) : ints (a ++ b) = ints a ++ ints b := by simp [ints]
theorem ints_length (a : List Nat) : (ints a).length = a.length := by simp [ints]
theorem kJ (n w : Nat) : (nb n w).length = w := by simp [nb]
theorem nb_zero (n : Nat) : nb n 0 = [] := rfl
theorem nb_succ (n w : Nat) : nb n (w + 1) = n.testBit w :: nb n w := by
 unfold nb
 rw [List.range_succ_eq_map, List.map_cons, List.map_map]
 congr 1
 apply List.map_congr_left
 intro i hi
 simp only [Function.comp]
 congr 1
 omega
theorem nb_add (n a : Nat) : ∀ b, nb n (b + a) = nb (n / 2 ^ a) b ++ nb n a
 | 0 => by simp [nb_zero]
 | b + 1 => by
  rw [show b + 1 + a = (b + a) + 1 from by omega, nb_succ, nb_succ, nb_add n a b, List.cons_append]
  congr 1
  rw [Nat.testBit_div_two_pow]
theorem nb_split (n w k : Nat) (h : k ≤ w) : nb n w = nb (n / 2 ^ (w - k)) k ++ nb n (w - k) := by
 have := nb_add n (w - k) k
 rwa [show k + (w - k) = w from by omega] at this
theorem bnum_nil : bnum [] = 0 := rfl
theorem bnum_snoc (l : List Bool) (b : Bool) : bnum (l ++ [b]) = 2 * bnum l + b.toNat := by simp [bnum]
theorem bnum_append (l : List Bool) : ∀ t : List Bool, bnum (l ++ t) = bnum l * 2 ^ t.length + bnum t := by
 intro t
 induction t using snoc_ind with
 | h0 => simp [bnum_nil]
 | h1 t b ih =>
  rw [← List.append_assoc, bnum_snoc, bnum_snoc, ih, List.length_append, List.length_singleton, Nat.pow_succ]
  rw [Nat.mul_add, ← Nat.mul_assoc, Nat.mul_comm 2 (bnum l), Nat.mul_assoc, Nat.mul_comm 2 (2 ^ _)]
  omega
theorem bnum_lt (l : List Bool) : bnum l < 2 ^ l.length := by
 induction l using snoc_ind with
 | h0 => simp [bnum_nil]
 | h1 l b ih =>
  rw [bnum_snoc, List.length_append, List.length_singleton, Nat.pow_succ]
  have : b.toNat ≤ 1 := Bool.toNat_le b
  omega
theorem bnum_nb (n : Nat) : ∀ w, bnum (nb n w) = n % 2 ^ w
 | 0 => by simp [nb_zero, bnum_nil, Nat.mod_one]
 | w + 1 => by
  have h := nb_split n (w + 1) w (by omega)
  rw [show w + 1 - w = 1 from by omega] at h
  rw [h, bnum_append, bnum_nb (n / 2 ^ 1) w, kJ]
  have h1 : bnum (nb n 1) = n % 2 := by
   rw [nb_succ, nb_zero]
   simp [bnum, Nat.testBit_zero]
   rcases Nat.mod_two_eq_zero_or_one n with h | h <;> simp [h]
  rw [h1, Nat.pow_one, Nat.pow_succ, Nat.mul_comm (2 ^ w) 2, Nat.mod_mul]
  omega
theorem nb_bnum : ∀ l : List Bool, nb (bnum l) l.length = l := by
 intro l
 induction l using snoc_ind with
 | h0 => rfl
 | h1 l b ih =>
  rw [bnum_snoc, List.length_append, List.length_singleton]
  have h := nb_split (2 * bnum l + b.toNat) (l.length + 1) l.length (by omega)
  rw [show l.length + 1 - l.length = 1 from by omega] at h
  rw [h]
  have hb : b.toNat ≤ 1 := Bool.toNat_le b
  rw [show (2 * bnum l + b.toNat) / 2 ^ 1 = bnum l from by omega, ih, nb_succ, nb_zero]
  congr 1
  rw [Nat.testBit_zero]
  cases b <;> simp [Nat.add_mod]
theorem pack_nil : pack [] = [] := by unfold pack; simp
theorem pack_cons (l : List Bool) (h : l ≠ []) : pack l = byte8 (l.take 8) :: pack (l.drop 8) := by rw [pack]; simp [h]
theorem pack_length (l : List Bool) : (pack l).length = (l.length + 7) / 8 := by
  by_cases h : l = []
  ·subst h; simp [pack_nil]
  ·have hp : 0 < l.length := List.length_pos_iff.2 h
   rw [pack_cons l h, List.length_cons, pack_length (l.drop 8), List.length_drop]
   omega
termination_by l.length
decreasing_by
 have : 0 < l.length := List.length_pos_iff.2 h
 simp
 omega
theorem pack_append : ∀ (q : Nat) (a t : List Bool), a.length = 8 * q → pack (a ++ t) = pack a ++ pack t
 | 0, a, t, h => by
  have : a = [] := List.eq_nil_of_length_eq_zero (by omega)
  subst this
  simp [pack_nil]
 | q + 1, a, t, h => by
  have ha : a ≠ [] := by rintro rfl; simp at h
  have hat : a ++ t ≠ [] := by simp [ha]
  rw [pack_cons _ hat, pack_cons a ha, List.take_append_of_le_length (by omega), List.drop_append_of_le_length (by omega), List.cons_append]
  rw [pack_append q (a.drop 8) t (by simp; omega)]
theorem pack_short (t : List Bool) (h0 : t ≠ []) (h8 : t.length ≤ 8) : pack t = [byte8 t] := by
 rw [pack_cons t h0, List.take_of_length_le h8, List.drop_of_length_le h8, pack_nil]
theorem byte8_lt (t : List Bool) (h8 : t.length ≤ 8) : byte8 t < 256 := by
 unfold byte8
 have h := bnum_lt t
 calc bnum t * 2 ^ (8 - t.length) < 2 ^ t.length * 2 ^ (8 - t.length) := Nat.mul_lt_mul_of_pos_right h (Nat.two_pow_pos _)
  _ = 256 := by rw [← Nat.pow_add, show t.length + (8 - t.length) = 8 from by omega]
theorem pack_lt : ∀ (l : List Bool) (x : Nat), x ∈ pack l → x < 256
 | l, x, hx => by
  by_cases h : l = []
  ·subst h; simp [pack_nil] at hx
  ·rw [pack_cons l h] at hx
   rcases List.mem_cons.1 hx with rfl | hx
   ·exact byte8_lt _ (by simp; omega)
   ·exact pack_lt (l.drop 8) x hx
termination_by l => l.length
decreasing_by
 have : 0 < l.length := List.length_pos_iff.2 h
 simp
 omega
end Bq
end Go.Proofs.YtkkomfomjpcbfaaDoor
end
section
namespace Go.Proofs.YtkkomfomjpcbfaaDoor
namespace Bq
def uv (n : Nat) : List Nat := if n < 128 then [n] else (n % 128 + 128) :: uv (n / 128)
termination_by n
decreasing_by omega
theorem uv_small (n : Nat) (h : n < 128) : uv n = [n] := by rw [uv, if_pos h]
theorem uv_big (n : Nat) (h : 128 ≤ n) : uv n = (n % 128 + 128) :: uv (n / 128) := by rw [uv, if_neg (by omega)]
theorem uv_pos (n : Nat) : 0 < (uv n).length := by
 by_cases h : n < 128
 ·simp [uv_small n h]
 ·simp [uv_big n (by omega)]
theorem uv_len (k : Nat) : ∀ n, n < 128 ^ (k + 1) → (uv n).length ≤ k + 1 := by
 induction k with
 | zero => intro n h; rw [uv_small n (by simpa using h)]; simp
 | succ k ih =>
  intro n h
  by_cases h1 : n < 128
  ·rw [uv_small n h1]; simp
  ·rw [uv_big n (by omega), List.length_cons]
   have := ih (n / 128) (by rw [Nat.div_lt_iff_lt_mul (by decide)]; rwa [Nat.pow_succ] at h)
   omega
theorem uv_len10 (n : Nat) (h : n < 18446744073709551616) : (uv n).length ≤ 10 := uv_len 9 n (Nat.lt_of_lt_of_le h (by decide))
theorem uv_lt (n : Nat) : ∀ x ∈ uv n, x < 256 := by
 induction n using Nat.strongRecOn with
 | _ n ih =>
  intro x hx
  by_cases h : n < 128
  ·rw [uv_small n h] at hx
   have : x = n := by simpa using hx
   omega
  ·rw [uv_big n (by omega)] at hx
   rcases List.mem_cons.1 hx with rfl | hx
   ·omega
   ·exact ih (n / 128) (by omega) x hx
def ug : Nat → Nat → List Int → Int × Int × Int
 | at_, acc, [] => if at_ < 10 then (0, 0, 6) else (0, 0, 9)
 | at_, acc, x :: xs =>
  if 10 ≤ at_ then (0, 0, 9)
  else if at_ = 9 ∧ 1 < x then (0, 0, 9)
  else if x < 128 then (if 0 < at_ ∧ x = 0 then (0, 0, 8) else ((acc : Int) + x * 128 ^ at_, (at_ : Int) + 1, 0))
  else ug (at_ + 1) (acc + (x.toNat - 128) * 128 ^ at_) xs
def uget (xs : List Int) : Int × Int × Int := ug 0 0 xs
def zigI (n : Int) : Int := if n < 0 then -2 * n - 1 else 2 * n
def zagI (n : Int) : Int := if n % 2 = 1 then -((n + 1) / 2) else n / 2
theorem zig_zag (n : Int) (h : 0 ≤ n) : zigI (zagI n) = n := by
 unfold zagI zigI
 split <;> split <;> omega
theorem wrap_u64' (n : Int) : IntKind.u64.wrap n = n % 18446744073709551616 := by simp [IntKind.wrap, IntKind.bits, IntKind.signed]
theorem xor_ones (a : Nat) (ha : a < 18446744073709551616) : a ^^^ 18446744073709551615 = 18446744073709551615 - a := by
 have h : ((BitVec.ofNat 64 a) ^^^ (BitVec.allOnes 64)).toNat = 2 ^ 64 - 1 - (BitVec.ofNat 64 a).toNat := by rw [BitVec.xor_allOnes, BitVec.toNat_not]
 rw [BitVec.toNat_xor, BitVec.toNat_ofNat, BitVec.toNat_allOnes, Nat.mod_eq_of_lt (by omega)] at h
 simpa using h
theorem bits_xor_i64 (x y : Int) : bits .xor .i64 x y = IntKind.i64.wrap (((BitVec.ofInt 64 x) ^^^ (BitVec.ofInt 64 y)).toNat : Int) := rfl
theorem bits_zero_i64 (x : Int) (h0 : 0 ≤ x) (h1 : x < 9223372036854775808) : bits .xor .i64 x 0 = x := by
 obtain ⟨a, rfl⟩ := Int.eq_ofNat_of_zero_le h0
 rw [bits_xor_i64, BitVec.ofInt_natCast, show BitVec.ofInt 64 0 = 0#64 from rfl, BitVec.xor_zero, BitVec.toNat_ofNat, Nat.mod_eq_of_lt (show a < 2 ^ 64 by omega), IntKind.wrap_i64]
 omega
theorem bits_ones_i64 (x : Int) (h0 : 0 ≤ x) (h1 : x < 9223372036854775808) : bits .xor .i64 x (-1) = -x - 1 := by
 obtain ⟨a, rfl⟩ := Int.eq_ofNat_of_zero_le h0
 rw [bits_xor_i64, BitVec.ofInt_natCast, show BitVec.ofInt 64 (-1) = BitVec.allOnes 64 from rfl, BitVec.xor_allOnes, BitVec.toNat_not, BitVec.toNat_ofNat, Nat.mod_eq_of_lt (show a < 2 ^ 64 by omega), IntKind.wrap_i64]
 omega
theorem zag_bits (n : Int) (h0 : 0 ≤ n) (h1 : n < 18446744073709551616) :
  bits .xor .i64 (n / 2) (-(n % 2)) = zagI n := by
 unfold zagI
 split
 ·rename_i h
  rw [h, bits_ones_i64 _ (by omega) (by omega)]
  omega
 ·rw [show n % 2 = 0 by omega]
  exact bits_zero_i64 _ (by omega) (by omega)
theorem and_one (n : Int) (h0 : 0 ≤ n) (h1 : n < 18446744073709551616) : bits .and .u64 n 1 = n % 2 := by
 have := bits_mask .u64 64 (by decide) (fun m a b => by rw [wrap_u64']; omega) 1 (by omega) n h0 (by omega)
 simpa using this
theorem zig_bits (n : Int) (h0 : -9223372036854775808 ≤ n) (h1 : n ≤ 9223372036854775807) :
  bits .xor .u64 (IntKind.u64.wrap (IntKind.i64.wrap (n * 2))) (IntKind.u64.wrap (n / 9223372036854775808)) = zigI n := by
 have e1 : IntKind.u64.wrap (IntKind.i64.wrap (n * 2)) = (n * 2) % 18446744073709551616 := by
  rw [IntKind.wrap_i64, wrap_u64']
  omega
 unfold zigI
 rw [e1, wrap_u64']
 obtain ⟨a, ha⟩ := Int.eq_ofNat_of_zero_le (show 0 ≤ (n * 2) % 18446744073709551616 by omega)
 have ha2 : a < 18446744073709551616 := by omega
 rw [ha]
 by_cases hn : n < 0
 ·rw [if_pos hn]
  have e2 : (n / 9223372036854775808) % 18446744073709551616 = ((18446744073709551615 : Nat) : Int) := by omega
  rw [e2, bits_xor_u64_nat _ _ ha2 (by decide)]
  rw [xor_ones a ha2]
  omega
 ·rw [if_neg hn]
  have e2 : (n / 9223372036854775808) % 18446744073709551616 = ((0 : Nat) : Int) := by omega
  rw [e2, bits_xor_u64_nat _ _ ha2 (by decide), Nat.xor_zero]
  omega
end Bq
end Go.Proofs.YtkkomfomjpcbfaaDoor
end
section
namespace Go.Proofs.YtkkomfomjpcbfaaDoor
open Bq
theorem p128 (k : Nat) : 128 ^ (k + 1) = 128 * 128 ^ k := by rw [Nat.pow_succ, Nat.mul_comm]
theorem k9 {n k : Nat} (h : n * 128 ^ k < 18446744073709551616) (hk : k = 9) : n ≤ 1 := by
 subst hk
 have h3 : (128 : Nat) ^ 9 = 9223372036854775808 := by decide
 rw [h3] at h
 omega
theorem ug_back : ∀ (xs : List Int) (k acc : Nat), (∀ x ∈ xs, 0 ≤ x ∧ x < 256) → (ug k acc xs).2.2 = 0 →
  ∃ n : Nat, (ug k acc xs).1 = ((acc + n * 128 ^ k : Nat) : Int) ∧ (ug k acc xs).2.1 = ((k + (uv n).length : Nat) : Int) ∧ (uv n).length ≤ xs.length ∧ ints (uv n) = xs.take (uv n).length ∧ (k = 0 ∨ 0 < n)
 | [], k, acc, _, he => by
  unfold ug at he
  split at he <;> exact absurd he (by decide)
 | x :: xs, k, acc, hb, he => by
  obtain ⟨hx0, hx1⟩ := hb x (by simp)
  obtain ⟨y, rfl⟩ := Int.eq_ofNat_of_zero_le hx0
  rw [ug] at he ⊢
  split at he
  ·exact absurd he (by decide)
  ·rename_i h10
   rw [if_neg h10]
   split at he
   ·exact absurd he (by decide)
   ·rename_i h9
    rw [if_neg h9]
    split at he
    ·rename_i h128
     rw [if_pos h128]
     split at he
     ·exact absurd he (by decide)
     ·rename_i hform
      rw [if_neg hform]
      refine ⟨y, ?_, ?_, ?_, ?_, by omega⟩
      ·simp
      ·rw [uv_small y (by omega)]; simp
      ·rw [uv_small y (by omega)]; simp
      ·rw [uv_small y (by omega)]; simp [ints]
    ·rename_i h128
     rw [if_neg h128]
     obtain ⟨n, h1, h2, h3, h4, h5⟩ := ug_back xs _ _ (fun z hz => hb z (by simp [hz])) he
     have hn : 0 < n := by omega
     have e1 : ((y : Int).toNat - 128) = y - 128 := by omega
     have e2 : (128 * n + (y - 128)) % 128 + 128 = y := by omega
     have e3 : (128 * n + (y - 128)) / 128 = n := by omega
     refine ⟨128 * n + (y - 128), ?_, ?_, ?_, ?_, .inr (by omega)⟩
     ·have e4 : acc + (y - 128) * 128 ^ k + n * (128 * 128 ^ k) = acc + (128 * n + (y - 128)) * 128 ^ k := by
       rw [Nat.add_mul, Nat.mul_comm 128 n, Nat.mul_assoc]
       omega
      rw [h1, e1, p128, e4]
     ·rw [h2, uv_big (128 * n + (y - 128)) (by omega), e3, List.length_cons, Nat.add_assoc k 1, Nat.add_comm 1]
     ·rw [uv_big (128 * n + (y - 128)) (by omega), e3]
      simpa using h3
     ·rw [uv_big (128 * n + (y - 128)) (by omega), e3, e2, List.length_cons, List.take_succ_cons, ← h4]
      rfl
theorem uget_back (xs : List Int) (hb : ∀ x ∈ xs, 0 ≤ x ∧ x < 256) (he : (uget xs).2.2 = 0) :
  ∃ n : Nat, (uget xs).1 = (n : Int) ∧ (uget xs).2.1 = ((uv n).length : Int) ∧ (uv n).length ≤ xs.length ∧ ints (uv n) = xs.take (uv n).length := by
 obtain ⟨n, h1, h2, h3, h4, _⟩ := ug_back xs 0 0 hb he
 exact ⟨n, by simpa [uget] using h1, by simpa [uget] using h2, h3, h4⟩
end Go.Proofs.YtkkomfomjpcbfaaDoor
end
section
namespace Go.Proofs.YtkkomfomjpcbfaaDoor
open Go Bq
def Byts (xs : List Int) : Prop := ∀ x ∈ xs, 0 ≤ x ∧ x < 256
def bitAt (xs : List Int) (i : Nat) : Bool := ((xs.getD (i / 8) 0).toNat).testBit (7 - i % 8)
def bitsOf (xs : List Int) (n : Nat) : List Bool := (List.range n).map (bitAt xs)
theorem kE (xs : List Int) (n : Nat) : (bitsOf xs n).length = n := by simp [bitsOf]
theorem bitsOf_get (xs : List Int) (n i : Nat) (h : i < n) : (bitsOf xs n)[i]'(by rw [kE]; exact h) = bitAt xs i := by simp [bitsOf]
end Go.Proofs.YtkkomfomjpcbfaaDoor
end
section
namespace Go.Proofs.YtkkomfomjpcbfaaDoor.Pu
open Go Go.Proofs.YtkkomfomjpcbfaaDoor Bq
theorem byt_get {xs : List Int} (h : Byts xs) (i : Nat) (hi : i < xs.length) : 0 ≤ xs.getD i 0 ∧ xs.getD i 0 < 256 := by
 rw [List.getD_eq_getElem?_getD, List.getElem?_eq_getElem hi]
 exact h _ (List.getElem_mem hi)
theorem byt_drop {xs : List Int} (h : Byts xs) (n : Nat) : Byts (xs.drop n) := fun x hx => h x (List.mem_of_mem_drop hx)
theorem byt_app {xs ys : List Int} (h : Byts xs) (h' : Byts ys) : Byts (xs ++ ys) := fun x hx => by
 rcases List.mem_append.1 hx with hx | hx
 ·exact h x hx
 ·exact h' x hx
theorem byt_uv (n : Nat) : Byts (Bq.ints (uv n)) := fun x hx => by
 obtain ⟨y, hy, rfl⟩ := List.mem_map.1 hx
 have := uv_lt n y hy
 exact ⟨by omega, by omega⟩
theorem drop_rd (xs : List Int) (i : Nat) (hi : i < xs.length) : xs.drop i = xs.getD i 0 :: xs.drop (i + 1) := by
 rw [List.drop_eq_getElem_cons hi, List.getD_eq_getElem?_getD, List.getElem?_eq_getElem hi]
 rfl
theorem wraps_u64n (n : Int) (h0 : 0 ≤ n) (h1 : n < 2 ^ 64) : IntKind.u64.wrap n = n := by
 rw [wrap_u64']
 omega
theorem comm_or (k : IntKind) (x y : Int) : bits .or k x y = bits .or k y x := by simp only [bits, BitVec.or_comm]
theorem and127n (x : Int) (h0 : 0 ≤ x) (h1 : x < 256) : bits .and .u8 x 127 = x % 128 := by
 have := bits_mask .u8 8 (by decide) wraps_u8 7 (by omega) x h0 (by omega)
 simpa using this
theorem or128n (x : Nat) (h1 : x < 256) : bits .or .u8 (x : Int) 128 = ((x % 128 + 128 : Nat) : Int) := by
 have e : (128 : Int) = ((128 : Nat) : Int) := rfl
 rw [e, Go.u8_or_nat x 128 h1 (by decide)]
 have h : ∀ a : Fin 256, (a.val ||| 128) = a.val % 128 + 128 := by decide +kernel
 rw [h ⟨x, h1⟩]
theorem pow7 (k : Nat) : (2 : Int) ^ (7 * k) = 128 ^ k := by rw [Int.pow_mul]; rfl
theorem val_bd (k acc : Nat) (x : Int) (hk : k < 10) (hx0 : 0 ≤ x) (hx1 : x < 256) (h9 : ¬ (k = 9 ∧ 1 < x)) (ha : acc < 128 ^ k) :
  (acc + (x % 128).toNat * 128 ^ k < 128 ^ (k + 1)) ∧ (acc + (x % 128).toNat * 128 ^ k < 18446744073709551616) := by
 have h1 : (x % 128).toNat < 128 := by omega
 constructor
 ·rw [Nat.pow_succ]
  have : (x % 128).toNat * 128 ^ k ≤ 127 * 128 ^ k := Nat.mul_le_mul_right _ (by omega)
  omega
 ·have hp : (128 : Nat) ^ k ≤ 128 ^ 9 := Nat.pow_le_pow_right (by decide) (by omega)
  rcases Nat.lt_or_ge k 9 with h | h
  ·have hp2 : (128 : Nat) ^ k ≤ 128 ^ 8 := Nat.pow_le_pow_right (by decide) (by omega)
   have : (x % 128).toNat * 128 ^ k ≤ 127 * 128 ^ 8 := Nat.mul_le_mul (by omega) hp2
   omega
  ·have hk9 : k = 9 := by omega
   subst hk9
   have : (x % 128).toNat ≤ 1 := by omega
   have : (x % 128).toNat * 128 ^ 9 ≤ 1 * 128 ^ 9 := Nat.mul_le_mul_right _ this
   omega
theorem val_shl (k : Nat) (y : Nat) : ((y : Int) * 2 ^ (7 * k)) = ((y * 128 ^ k : Nat) : Int) := by rw [pow7]; simp
theorem or_val (k acc : Nat) (x : Int) (hk : k < 10) (hx0 : 0 ≤ x) (hx1 : x < 256) (h9 : ¬ (k = 9 ∧ 1 < x)) (ha : acc < 128 ^ k) :
  bits .or .u64 (acc : Int) (IntKind.u64.wrap (x % 128 * 2 ^ (7 * k))) = ((acc + (x % 128).toNat * 128 ^ k : Nat) : Int) := by
 obtain ⟨h1, h2⟩ := val_bd k acc x hk hx0 hx1 h9 ha
 obtain ⟨y, hy⟩ := Int.eq_ofNat_of_zero_le (show 0 ≤ x % 128 by omega)
 rw [hy, Int.toNat_natCast] at h1 h2 ⊢
 rw [val_shl, wraps_u64n _ (by omega) (by omega), comm_or]
 have e3 : (2 : Nat) ^ (7 * k) = 128 ^ k := by rw [Nat.pow_mul]
 have e2 := bits_join .u64 64 (by decide) wraps_u64n (7 * k) ((y * 128 ^ k : Nat) : Int) (acc : Int) (by omega) (by
  have : y * 128 ^ k % 2 ^ (7 * k) = 0 := by rw [e3]; exact Nat.mul_mod_left _ _
  exact_mod_cast this) (by omega) (by omega) (by
  have : acc < 2 ^ (7 * k) := by rw [e3]; exact ha
  exact_mod_cast this) (by omega)
 rw [e2]
 omega
theorem add_val (k acc : Nat) (x : Int) (hk : k < 10) (hx0 : 0 ≤ x) (hx1 : x < 256) (h9 : ¬ (k = 9 ∧ 1 < x)) (ha : acc < 128 ^ k) :
  IntKind.u64.wrap ((acc : Int) + IntKind.u64.wrap (x % 128 * 2 ^ (7 * k))) = ((acc + (x % 128).toNat * 128 ^ k : Nat) : Int) := by
 obtain ⟨h1, h2⟩ := val_bd k acc x hk hx0 hx1 h9 ha
 obtain ⟨y, hy⟩ := Int.eq_ofNat_of_zero_le (show 0 ≤ x % 128 by omega)
 rw [hy, Int.toNat_natCast] at h1 h2 ⊢
 rw [val_shl, wraps_u64n ((y * 128 ^ k : Nat) : Int) (by omega) (by omega), wraps_u64n _ (by omega) (by omega)]
 omega
theorem sum_val (k acc : Nat) (x : Int) (hx0 : 0 ≤ x) (hx1 : x < 128) : ((acc + (x % 128).toNat * 128 ^ k : Nat) : Int) = (acc : Int) + x * 128 ^ k := by
 obtain ⟨y, rfl⟩ := Int.eq_ofNat_of_zero_le hx0
 rw [show ((y : Int) % 128).toNat = y by omega]
 simp
theorem more_val (k acc : Nat) (x : Int) (hx0 : 128 ≤ x) (hx1 : x < 256) : acc + (x % 128).toNat * 128 ^ k = acc + (x.toNat - 128) * 128 ^ k := by
 rw [show (x % 128).toNat = x.toNat - 128 by omega]
theorem g_stop9 (acc : Nat) (x : Int) (xs : List Int) (h : 1 < x) : ug 9 acc (x :: xs) = (0, 0, 9) := by rw [ug, if_neg (by decide), if_pos ⟨rfl, h⟩]
theorem g_form (k acc : Nat) (xs : List Int) (hk : k < 10) (h0 : 0 < k) : ug k acc (0 :: xs) = (0, 0, 8) := by rw [ug, if_neg (by omega), if_neg (by omega), if_pos (by decide), if_pos ⟨h0, rfl⟩]
theorem g_end (k acc : Nat) (x : Int) (xs : List Int) (hk : k < 10) (h9 : ¬ (k = 9 ∧ 1 < x)) (h128 : x < 128) (h0 : ¬ (0 < k ∧ x = 0)) : ug k acc (x :: xs) = ((acc : Int) + x * 128 ^ k, (k : Int) + 1, 0) := by
 rw [ug, if_neg (by omega), if_neg h9, if_pos h128, if_neg h0]
theorem g_more (k acc : Nat) (x : Int) (xs : List Int) (hk : k < 10) (h9 : ¬ (k = 9 ∧ 1 < x)) (h128 : ¬ x < 128) : ug k acc (x :: xs) = ug (k + 1) (acc + (x.toNat - 128) * 128 ^ k) xs := by
 rw [ug, if_neg (by omega), if_neg h9, if_neg h128]
theorem ug_bound : ∀ (xs : List Int) (k acc : Nat), Byts xs → k ≤ 10 → acc < 128 ^ k → 0 ≤ (ug k acc xs).1 ∧ (ug k acc xs).1 < 18446744073709551616
 | [], k, acc, _, _, _ => by
  unfold ug
  split <;> decide
 | x :: xs, k, acc, hb, hk, ha => by
  obtain ⟨x0, x1⟩ := hb x (by simp)
  by_cases h10 : 10 ≤ k
  ·rw [ug, if_pos h10]
   decide
  ·by_cases h9 : k = 9 ∧ 1 < x
   ·rw [ug, if_neg h10, if_pos h9]
    decide
   ·obtain ⟨v1, v2⟩ := val_bd k acc x (by omega) x0 x1 h9 ha
    by_cases h128 : x < 128
    ·by_cases h0 : 0 < k ∧ x = 0
     ·rw [ug, if_neg h10, if_neg h9, if_pos h128, if_pos h0]
      decide
     ·rw [ug, if_neg h10, if_neg h9, if_pos h128, if_neg h0, ← sum_val k acc x x0 h128]
      exact ⟨by omega, by omega⟩
    ·rw [ug, if_neg h10, if_neg h9, if_neg h128, ← more_val k acc x (by omega) x1]
     exact ug_bound xs (k + 1) _ (fun y hy => hb y (by simp [hy])) (by omega) v1
theorem ug_err : ∀ (xs : List Int) (k acc : Nat), ¬ (ug k acc xs).2.2 = 0 → (ug k acc xs).1 = 0 ∧ (ug k acc xs).2.1 = 0
 | [], k, acc, h => by
  unfold ug
  split <;> exact ⟨rfl, rfl⟩
 | x :: xs, k, acc, h => by
  rw [ug] at h ⊢
  by_cases h10 : 10 ≤ k
  ·rw [if_pos h10]; exact ⟨rfl, rfl⟩
  ·rw [if_neg h10] at h ⊢
   by_cases h9 : k = 9 ∧ 1 < x
   ·rw [if_pos h9]; exact ⟨rfl, rfl⟩
   ·rw [if_neg h9] at h ⊢
    by_cases h128 : x < 128
    ·rw [if_pos h128] at h ⊢
     by_cases h0 : 0 < k ∧ x = 0
     ·rw [if_pos h0]; exact ⟨rfl, rfl⟩
     ·rw [if_neg h0] at h
      exact absurd rfl h
    ·rw [if_neg h128] at h ⊢
     exact ug_err xs _ _ h
theorem uget_cases (xs : List Int) (hb : Byts xs) :
  (∃ n : Nat, uget xs = ((n : Int), ((uv n).length : Int), 0) ∧ (uv n).length ≤ xs.length ∧ Bq.ints (uv n) = xs.take (uv n).length ∧ n < 18446744073709551616) ∨ (∃ e : Int, ¬ e = 0 ∧ uget xs = (0, 0, e)) := by
 by_cases he : (uget xs).2.2 = 0
 ·obtain ⟨n, h1, h2, h3, h4⟩ := uget_back xs hb he
  have h5 := (ug_bound xs 0 0 hb (by decide) (by decide)).2
  refine .inl ⟨n, ?_, h3, h4, ?_⟩
  ·rw [← h1, ← h2, ← he]
  ·have : (uget xs).1 < 18446744073709551616 := h5
   omega
 ·obtain ⟨h1, h2⟩ := ug_err xs 0 0 he
  exact .inr ⟨(uget xs).2.2, he, by
   rw [show uget xs = ((uget xs).1, (uget xs).2.1, (uget xs).2.2) from rfl, show (uget xs).1 = 0 from h1, show (uget xs).2.1 = 0 from h2]⟩
theorem g_short (k acc : Nat) (hk : k < 10) : ug k acc [] = (0, 0, 6) := by rw [ug, if_pos hk]
theorem g_over (k acc : Nat) (xs : List Int) (hk : 10 ≤ k) : ug k acc xs = (0, 0, 9) := by
 cases xs with
 | nil => rw [ug, if_neg (by omega)]
 | cons x xs => rw [ug, if_pos hk]
end Go.Proofs.YtkkomfomjpcbfaaDoor.Pu
end
section
namespace Go.Proofs.YtkkomfomjpcbfaaDoor
open Bq
theorem nb_get (n w i : Nat) (h : i < w) : (nb n w)[i]? = some (n.testBit (w - 1 - i)) := by
 unfold nb
 rw [List.getElem?_map, List.getElem?_range h]
 rfl
theorem bnum_testBit (l : List Bool) (i : Nat) (h : i < l.length) : (bnum l).testBit (l.length - 1 - i) = l.getD i false := by
 have h1 := nb_get (bnum l) l.length i h
 rw [nb_bnum] at h1
 rw [List.getD_eq_getElem?_getD, h1]
 rfl
theorem byte8_testBit (l : List Bool) (h8 : l.length ≤ 8) (i : Nat) (h : i < 8) : (byte8 l).testBit (7 - i) = l.getD i false := by
 unfold byte8
 rw [Nat.testBit_mul_two_pow]
 by_cases hi : i < l.length
 ·rw [← bnum_testBit l i hi, decide_eq_true (by omega), Bool.true_and]
  congr 1
  omega
 ·rw [decide_eq_false (by omega), Bool.false_and, List.getD_eq_getElem?_getD, List.getElem?_eq_none (by omega)]
  rfl
theorem getD_drop8 (l : List Bool) (i : Nat) (h : 8 ≤ i) : (l.drop 8).getD (i - 8) false = l.getD i false := by
 rw [List.getD_eq_getElem?_getD, List.getD_eq_getElem?_getD, List.getElem?_drop]
 congr 2
 omega
theorem bitAt_pack : ∀ (m : Nat) (l : List Bool) (i : Nat), l.length ≤ m → i < 8 * ((l.length + 7) / 8) → bitAt (packI l) i = l.getD i false := by
 intro m
 induction m with
 | zero =>
  intro l i hm hi
  have : l.length = 0 := by omega
  omega
 | succ m ih =>
  intro l i hm hi
  have hl : l ≠ [] := by
   intro h
   subst h
   simp at hi
  have hpos : 0 < l.length := List.length_pos_iff.2 hl
  unfold packI
  rw [pack_cons l hl]
  by_cases h8 : i < 8
  ·unfold bitAt
   have e1 : i / 8 = 0 := by omega
   have e2 : i % 8 = i := by omega
   rw [e1, e2]
   show ((byte8 (l.take 8) : Nat) : Int).toNat.testBit (7 - i) = _
   rw [Int.toNat_natCast, byte8_testBit _ (by rw [List.length_take]; omega) i h8]
   rw [List.getD_eq_getElem?_getD, List.getD_eq_getElem?_getD, List.getElem?_take]
   simp [h8]
  ·have h1 := ih (l.drop 8) (i - 8) (by rw [List.length_drop]; omega) (by rw [List.length_drop]; omega)
   rw [getD_drop8 l i (by omega)] at h1
   rw [← h1]
   unfold bitAt
   have e1 : i / 8 = (i - 8) / 8 + 1 := by omega
   have e2 : (i - 8) % 8 = i % 8 := by omega
   rw [e1, e2]
   rfl
theorem bitsOf_pack (l : List Bool) : bitsOf (packI l) l.length = l := by
 apply List.ext_getElem
 ·rw [kE]
 ·intro i h1 h2
  rw [bitsOf_get _ _ _ h2, bitAt_pack l.length l i (Nat.le_refl _) (by omega), List.getD_eq_getElem?_getD, List.getElem?_eq_getElem h2]
  rfl
theorem byte_ext {x y : Int} (hx0 : 0 ≤ x) (hx : x < 256) (hy0 : 0 ≤ y) (hy : y < 256) (h : ∀ i, i < 8 → x.toNat.testBit (7 - i) = y.toNat.testBit (7 - i)) : x = y := by
 have e : x.toNat = y.toNat := by
  apply Nat.eq_of_testBit_eq
  intro j
  by_cases hj : j < 8
  ·have := h (7 - j) (by omega)
   have e : 7 - (7 - j) = j := by omega
   rw [e] at this
   exact this
  ·have hp : (256 : Nat) ≤ 2 ^ j := by
    have : (2 : Nat) ^ 8 ≤ 2 ^ j := Nat.pow_le_pow_right (by decide) (by omega)
    exact this
   rw [Nat.testBit_lt_two_pow (by omega), Nat.testBit_lt_two_pow (by omega)]
 omega
theorem bits_ext (xs ys : List Int) (hl : xs.length = ys.length) (hx : Byts xs) (hy : Byts ys) (h : ∀ i, i < 8 * xs.length → bitAt xs i = bitAt ys i) : xs = ys := by
 apply List.ext_getElem hl
 intro j h1 h2
 have hxj := hx _ (List.getElem_mem h1)
 have hyj := hy _ (List.getElem_mem h2)
 apply byte_ext hxj.1 hxj.2 hyj.1 hyj.2
 intro i hi
 have h3 := h (8 * j + i) (by omega)
 unfold bitAt at h3
 have e1 : (8 * j + i) / 8 = j := by omega
 have e2 : (8 * j + i) % 8 = i := by omega
 rw [e1, e2, List.getD_eq_getElem?_getD, List.getD_eq_getElem?_getD, List.getElem?_eq_getElem h1, List.getElem?_eq_getElem h2] at h3
 exact h3
theorem byts_packI (l : List Bool) : Byts (packI l) := by
 intro x hx
 obtain ⟨y, hy, rfl⟩ := List.mem_map.1 hx
 have := pack_lt l y hy
 omega
theorem bitAt_set (xs : List Int) (i j : Nat) (hx : Byts xs) (hi : i < 8 * xs.length) :
  bitAt (xs.set (i / 8) ((((xs.getD (i / 8) 0).toNat ||| 2 ^ (7 - i % 8)) : Nat) : Int)) j = (bitAt xs j || decide (j = i)) := by
 have hq : i / 8 < xs.length := by omega
 unfold bitAt
 by_cases hj : j / 8 = i / 8
 ·rw [hj, List.getD_eq_getElem?_getD (l := xs.set _ _), List.getElem?_set_self hq]
  show ((((xs.getD (i / 8) 0).toNat ||| 2 ^ (7 - i % 8) : Nat) : Int)).toNat.testBit (7 - j % 8) = _
  rw [Int.toNat_natCast, Nat.testBit_or, Nat.testBit_two_pow]
  congr 1
  have : (7 - i % 8 = 7 - j % 8) = (j = i) := by
   apply propext
   constructor
   ·intro h; omega
   ·intro h; subst h; rfl
  simp only [this]
 ·rw [List.getD_eq_getElem?_getD (l := xs.set _ _), List.getElem?_set_ne (fun h => hj h.symm), decide_eq_false (fun h => hj (by rw [h])), Bool.or_false, List.getD_eq_getElem?_getD]
end Go.Proofs.YtkkomfomjpcbfaaDoor
end
section
namespace Go.Proofs.YtkkomfomjpcbfaaDoor
open Go.RowKit Go.Proofs.YtkkomfomjpcbfaaDoorW.PrintWords Go.Proofs.YtkkomfomjpcbfaaDoorW.PrintMore Go.Proofs.YtkkomfomjpcbfaaDoorW.PrintLast
theorem C_at_int {k : IntKind} {w : World} {A : Option Addr} {n : Nat} {xs : List Int} (h : (Kd.int k).C w A n xs) (i : Nat) (hi : i < n) : ∃ ad, A = some ad ∧ w.cell? (ad.add i) = some (.int k (xs.getD i 0)) := by
 obtain ⟨ad, c, e, _, hK, hc⟩ := Kd.C_get h 0 (i : Int) (by omega) (by omega)
 rw [Int.toNat_natCast] at hK hc
 have hk : c = [.int k (xs.getD i 0)] := hK
 subst hk
 have h2 := hc 0 _ rfl
 refine ⟨ad, e, ?_⟩
 have e1 : i * (Kd.int k).sz + 0 = i := by show i * 1 + 0 = i; omega
 rw [e1] at h2
 exact h2
theorem Byts.get {xs : List Int} (h : Byts xs) (i : Nat) (hi : i < xs.length) : 0 ≤ xs.getD i 0 ∧ xs.getD i 0 < 256 := by
 rw [List.getD_eq_getElem?_getD, List.getElem?_eq_getElem hi]
 exact h _ (List.getElem_mem hi)
end Go.Proofs.YtkkomfomjpcbfaaDoor
end
section
namespace Go.Proofs.YtkkomfomjpcbfaaDoor
open Go
namespace Sha
def rot (N : Int) (x : Int) : Int := bits .or .u32 (x * 2 ^ (32 - (-N).toNat) % 4294967296) (x / 2 ^ (-N).toNat)
def x2 (a b : Int) : Int := bits .xor .u32 a b
def add (a b : Int) : Int := (a + b) % 4294967296
def nxt (l : List Int) (i : Nat) : Int :=
 add (add (add (l.getD (i - 16) 0) (x2 (x2 (rot (-7) (l.getD (i - 15) 0)) (rot (-18) (l.getD (i - 15) 0))) (l.getD (i - 15) 0 / 8))) (l.getD (i - 7) 0)) (x2 (x2 (rot (-17) (l.getD (i - 2) 0)) (rot (-19) (l.getD (i - 2) 0))) (l.getD (i - 2) 0 / 1024))
def sched (m : List Int) : Nat → List Int
 | 0 => m ++ List.replicate 48 0
 | k + 1 => (sched m k).set (16 + k) (nxt (sched m k) (16 + k))
structure V8 where
 (a b c d e f g h : Int)
deriving DecidableEq
def K : List Int := [1116352408, 1899447441, 3049323471, 3921009573, 961987163, 1508970993, 2453635748, 2870763221,
 3624381080, 310598401, 607225278, 1426881987, 1925078388, 2162078206, 2614888103, 3248222580,
 3835390401, 4022224774, 264347078, 604807628, 770255983, 1249150122, 1555081692, 1996064986,
 2554220882, 2821834349, 2952996808, 3210313671, 3336571891, 3584528711, 113926993, 338241895,
 666307205, 773529912, 1294757372, 1396182291, 1695183700, 1986661051, 2177026350, 2456956037,
 2730485921, 2820302411, 3259730800, 3345764771, 3516065817, 3600352804, 4094571909, 275423344,
 430227734, 506948616, 659060556, 883997877, 958139571, 1322822218, 1537002063, 1747873779,
 1955562222, 2024104815, 2227730452, 2361852424, 2428436474, 2756734187, 3204031479, 3329325298]
def t1 (v : V8) (k w : Int) : Int := add (add (add (add v.h (x2 (x2 (rot (-6) v.e) (rot (-11) v.e)) (rot (-25) v.e))) (x2 (bits .and .u32 v.e v.f) (bits .and .u32 (bits .xor .u32 IntKind.u32.max v.e) v.g))) k) w
def t2 (v : V8) : Int := x2 (x2 (rot (-2) v.a) (rot (-13) v.a)) (rot (-22) v.a)
def t3 (v : V8) : Int := x2 (x2 (bits .and .u32 v.a v.b) (bits .and .u32 v.a v.c)) (bits .and .u32 v.b v.c)
def rnd (v : V8) (k w : Int) : V8 := ⟨add (add (t1 v k w) (t2 v)) (t3 v), v.a, v.b, v.c, add v.d (t1 v k w), v.e, v.f, v.g⟩
def rounds (v : V8) (ws : List Int) : Nat → V8
 | 0 => v
 | k + 1 => rnd (rounds v ws k) (K.getD k 0) (ws.getD k 0)
def sum8 (v u : V8) : V8 := ⟨add v.a u.a, add v.b u.b, add v.c u.c, add v.d u.d, add v.e u.e, add v.f u.f, add v.g u.g, add v.h u.h⟩
def word (b : List Int) (i : Nat) : Int :=
 bits .or .u32 (bits .or .u32 (bits .or .u32 (b.getD (4 * i) 0 * 16777216 % 4294967296) (b.getD (4 * i + 1) 0 * 65536 % 4294967296)) (b.getD (4 * i + 2) 0 * 256 % 4294967296)) (b.getD (4 * i + 3) 0)
def wordsOf (b : List Int) : List Int := (List.range 16).map (word b)
def block (v : V8) (b : List Int) : V8 := sum8 v (rounds v (sched (wordsOf b) 48) 64)
def H0 : V8 := ⟨1779033703, 3144134277, 1013904242, 2773480762, 1359893119, 2600822924, 528734635, 1541459225⟩
def V8.list (v : V8) : List Int := [v.a, v.b, v.c, v.d, v.e, v.f, v.g, v.h]
theorem sched_length (m : List Int) (h : m.length = 16) : ∀ k, (sched m k).length = 64
 | 0 => by simp [sched, h]
 | k + 1 => by rw [sched, List.length_set]; exact sched_length m h k
theorem wordsOf_length (b : List Int) : (wordsOf b).length = 16 := by simp [wordsOf]
end Sha
end Go.Proofs.YtkkomfomjpcbfaaDoor
end
section
namespace Go.Proofs.YtkkomfomjpcbfaaDoor
open Go.RowKit Go.Proofs.YtkkomfomjpcbfaaDoorW.PrintWords Go.Proofs.YtkkomfomjpcbfaaDoorW.PrintMore Go.Proofs.YtkkomfomjpcbfaaDoorW.PrintLast
attribute [local go_sem ↓] Go.wp_at_zero Go.wp_at_succ
theorem take_set (l : List Int) (k n : Nat) (hk : k < l.length) (hn : k < n) : (l.take k ++ List.replicate (n - k) 0).set k (l.getD k 0) = l.take (k + 1) ++ List.replicate (n - (k + 1)) 0 := by
 have hl : (l.take k).length = k := by rw [List.length_take]; omega
 have e : n - k = (n - (k + 1)) + 1 := by omega
 rw [List.set_append_right _ _ (by omega), hl, Nat.sub_self, e, List.replicate_succ, List.set_cons_zero, List.take_succ_eq_append_getElem hk, List.append_assoc, List.getD_eq_getElem?_getD, List.getElem?_eq_getElem hk]
 rfl
theorem nums_get (k : IntKind) (xs : List Int) (i : Nat) (h : i < xs.length) : (nums k xs).toArray[i]? = some (.int k (xs.getD i 0)) := by
 rw [List.getD_eq_getElem?_getD, List.getElem?_eq_getElem h]
 simp [nums, h]
theorem nums_put (k : IntKind) (xs : List Int) (i : Nat) (x : Int) : (nums k xs).toArray.setIfInBounds i (.int k x) = (nums k (xs.set i x)).toArray := by
 simp [nums, List.map_set]
theorem mix_get (s v : List Int) (k : Nat) (hs : s.length = 8) (hv : v.length = 8) (hk : k < 8) : (s.take k ++ v.drop k).getD k 0 = v.getD k 0 := by
 have hl : (s.take k).length = k := by rw [List.length_take]; omega
 rw [List.getD_eq_getElem?_getD, List.getElem?_append_right (by omega), hl, Nat.sub_self, List.getElem?_drop, List.getD_eq_getElem?_getD]
 rfl
theorem mix_set (s v : List Int) (k : Nat) (hs : s.length = 8) (hv : v.length = 8) (hk : k < 8) : (s.take k ++ v.drop k).set k (s.getD k 0) = s.take (k + 1) ++ v.drop (k + 1) := by
 have hl : (s.take k).length = k := by rw [List.length_take]; omega
 rw [List.set_append_right _ _ (by omega), hl, Nat.sub_self, List.drop_eq_getElem_cons (show k < v.length by omega), List.set_cons_zero, List.take_succ_eq_append_getElem (show k < s.length by omega), List.append_assoc, List.getD_eq_getElem?_getD, List.getElem?_eq_getElem (show k < s.length by omega)]
 rfl
theorem mix_len (s v : List Int) (k : Nat) (hs : s.length = 8) (hv : v.length = 8) (hk : k ≤ 8) : (s.take k ++ v.drop k).length = 8 := by
 rw [List.length_append, List.length_take, List.length_drop]
 omega
theorem sum8_get (v u : Sha.V8) (k : Nat) (hk : k < 8) : (Sha.sum8 v u).list.getD k 0 = (v.list.getD k 0 + u.list.getD k 0) % 4294967296 := by
 rcases k with _ | _ | _ | _ | _ | _ | _ | _ | k
 ·rfl
 ·rfl
 ·rfl
 ·rfl
 ·rfl
 ·rfl
 ·rfl
 ·rfl
 ·omega
def Blk (w : World) (g : Nat) (k : IntKind) (t : Nat) (xs : List Int) : Prop := w.heap[g]? = some (.cells (nums k xs).toArray t (0, 0))
theorem Blk.get {w : World} {g t : Nat} {k : IntKind} {xs : List Int} (h : Blk w g k t xs) (i : Nat) (hi : i < xs.length) : w.cell? ⟨g, i, none⟩ = some (.int k (xs.getD i 0)) :=
 (ka h i).trans (nums_get k xs i hi)
theorem Blk.free {w : World} {g t : Nat} {k : IntKind} {xs : List Int} (h : Blk w g k t xs) (i : Nat) : w.frozen? ⟨g, i, none⟩ = false := kc h i
theorem Blk.put {w : World} {g t : Nat} {k : IntKind} {xs : List Int} (h : Blk w g k t xs) (i : Nat) (x : Int) : Blk (w.setCell ⟨g, i, none⟩ (.int k x)) g k t (xs.set i x) := by
 unfold Blk
 rw [blk_set h i (.int k x), nums_put]
theorem Blk.other {w : World} {g g' t i : Nat} {k : IntKind} {xs : List Int} {v : Value} (h : Blk w g k t xs) (hne : g' ≠ g) : Blk (w.setCell ⟨g', i, none⟩ v) g k t xs :=
 (Below.heap_setCell w ⟨g', i, none⟩ v g (fun e => hne e.symm)).trans h
theorem Blk.alloc {w : World} {g t : Nat} {k : IntKind} {xs : List Int} (h : Blk w g k t xs) (o : Obj) : Blk (w.alloc o) g k t xs := kd h o
theorem Blk.drewN {w : World} {g t : Nat} {k : IntKind} {xs : List Int} (h : Blk w g k t xs) (n : Nat) : Blk (w.drewN n) g k t xs := h
theorem Blk.cast {w : World} {g t : Nat} {k : IntKind} {xs ys : List Int} (h : Blk w g k t xs) (e : xs = ys) : Blk w g k t ys := by rw [← e]; exact h
theorem Blk.lt {w : World} {g t : Nat} {k : IntKind} {xs : List Int} (h : Blk w g k t xs) : g < w.heap.size := ky h
end Go.Proofs.YtkkomfomjpcbfaaDoor
end
section
namespace Go.Proofs.YtkkomfomjpcbfaaDoor
open Go.RowKit Go.Proofs.YtkkomfomjpcbfaaDoorW.PrintWords Go.Proofs.YtkkomfomjpcbfaaDoorW.PrintMore Go.Proofs.YtkkomfomjpcbfaaDoorW.PrintLast
attribute [local go_sem ↓] Go.wp_at_zero Go.wp_at_succ
theorem rot32_calls (x : Int) (N : Int) (w : World) (hN : N ∈ ([-7, -18, -17, -19, -6, -11, -25, -2, -13, -22] : List Int)) :
  Calls Tryd.prog 73 #[.int .u32 x, .int .i64 N] w fun e w' => e = .returned (.int .u32 (Sha.rot N x)) ∧ w = w' := by
 have hs : bits .and .u64 (IntKind.u64.wrap N) 31 = ((32 - (-N).toNat : Nat) : Int) ∧ 0 < (-N).toNat ∧ (-N).toNat < 32 := by
  revert hN
  have : ∀ M ∈ ([-7, -18, -17, -19, -6, -11, -25, -2, -13, -22] : List Int), bits .and .u64 (IntKind.u64.wrap M) 31 = ((32 - (-M).toNat : Nat) : Int) ∧ 0 < (-M).toNat ∧ (-M).toNat < 32 := by decide
  exact this N
 obtain ⟨hs, hn, hn2⟩ := hs
 obtain ⟨n, hnn⟩ : ∃ n, n = (-N).toNat := ⟨_, rfl⟩
 rw [← hnn] at hs hn hn2
 obtain ⟨m, hm⟩ : ∃ m, m = 32 - n := ⟨_, rfl⟩
 rw [← hm] at hs
 have e1 : ((m : Int)).toNat = m := by omega
 have e2 : (32 - (m : Int)).toNat = n := by omega
 have e3 : IntKind.u64.wrap (32 - (m : Int)) = 32 - (m : Int) := by rw [IntKind.wrap_u64]; omega
 have HM := Lib.hid hm
 have HNN := Lib.hid hnn
 clear hm hnn
 go_enter Tryd.func73, Tryd.ntmps73
 go_wp2
 go_ret
 refine ⟨?_, rfl⟩
 unfold Sha.rot
 rw [← HNN.out, ← HM.out]
 rfl
end Go.Proofs.YtkkomfomjpcbfaaDoor
end
