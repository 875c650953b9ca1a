/- Plain mathematics of numbers in few bytes: no program. -/
import Derived.Test.YtemkfkaggdpcjaaDoorQ
import Derived.Laws.BitsAllLaws
import Derived.Laws.Bits64
import Derived.WalkArith
namespace Go.Proofs.YtemkfkaggdpcjaaDoor
namespace Bq
set_option linter.unusedVariables false
set_option linter.unusedSimpArgs false

/-- A number in few bytes. -/
def uv (n : Nat) : List Nat := if n < 128 then [n] else (n % 128 + 128) :: uv (n / 128)
termination_by n
decreasing_by omega
theorem uv_small (n : Nat) (h : n < 128) : uv n = [n] := by rw [uv, if_pos h]
theorem uv_big (n : Nat) (h : 128 ≤ n) : uv n = (n % 128 + 128) :: uv (n / 128) := by rw [uv, if_neg (by omega)]
theorem uv_pos (n : Nat) : 0 < (uv n).length := by
  by_cases h : n < 128
  · simp [uv_small n h]
  · simp [uv_big n (by omega)]
theorem uv_len (k : Nat) : ∀ n, n < 128 ^ (k + 1) → (uv n).length ≤ k + 1 := by
  induction k with
  | zero => intro n h; rw [uv_small n (by simpa using h)]; simp
  | succ k ih =>
    intro n h
    by_cases h1 : n < 128
    · rw [uv_small n h1]; simp
    · rw [uv_big n (by omega), List.length_cons]
      have := ih (n / 128) (by rw [Nat.div_lt_iff_lt_mul (by decide)]; rwa [Nat.pow_succ] at h)
      omega
theorem uv_len10 (n : Nat) (h : n < 18446744073709551616) : (uv n).length ≤ 10 := uv_len 9 n (Nat.lt_of_lt_of_le h (by decide))
theorem uv_lt (n : Nat) : ∀ x ∈ uv n, x < 256 := by
  induction n using Nat.strongRecOn with
  | _ n ih =>
    intro x hx
    by_cases h : n < 128
    · rw [uv_small n h] at hx
      have : x = n := by simpa using hx
      omega
    · rw [uv_big n (by omega)] at hx
      rcases List.mem_cons.1 hx with rfl | hx
      · omega
      · exact ih (n / 128) (by omega) x hx

/-- The number that bytes go on with: at: how many are behind, acc: what they come to. The results: the number, how many bytes, the error. -/
def ug : Nat → Nat → List Int → Int × Int × Int
  | at_, acc, [] => if at_ < 10 then (0, 0, 6) else (0, 0, 9)
  | at_, acc, x :: xs =>
    if 10 ≤ at_ then (0, 0, 9)
    else if at_ = 9 ∧ 1 < x then (0, 0, 9)
    else if x < 128 then (if 0 < at_ ∧ x = 0 then (0, 0, 8) else ((acc : Int) + x * 128 ^ at_, (at_ : Int) + 1, 0))
    else ug (at_ + 1) (acc + (x.toNat - 128) * 128 ^ at_) xs
def uget (xs : List Int) : Int × Int × Int := ug 0 0 xs

/-- Zig and Zag. -/
def zigI (n : Int) : Int := if n < 0 then -2 * n - 1 else 2 * n
def zagI (n : Int) : Int := if n % 2 = 1 then -((n + 1) / 2) else n / 2
theorem zag_zig (n : Int) : zagI (zigI n) = n := by
  unfold zagI zigI
  split <;> split <;> omega
theorem zig_zag (n : Int) (h : 0 ≤ n) : zigI (zagI n) = n := by
  unfold zagI zigI
  split <;> split <;> omega

theorem wrap_u64' (n : Int) : IntKind.u64.wrap n = n % 18446744073709551616 := by simp [IntKind.wrap, IntKind.bits, IntKind.signed]
theorem xor_ones (a : Nat) (ha : a < 18446744073709551616) : a ^^^ 18446744073709551615 = 18446744073709551615 - a := by
  have h : ((BitVec.ofNat 64 a) ^^^ (BitVec.allOnes 64)).toNat = 2 ^ 64 - 1 - (BitVec.ofNat 64 a).toNat := by rw [BitVec.xor_allOnes, BitVec.toNat_not]
  rw [BitVec.toNat_xor, BitVec.toNat_ofNat, BitVec.toNat_allOnes, Nat.mod_eq_of_lt (by omega)] at h
  simpa using h
theorem bits_xor_i64 (x y : Int) : bits .xor .i64 x y = IntKind.i64.wrap (((BitVec.ofInt 64 x) ^^^ (BitVec.ofInt 64 y)).toNat : Int) := rfl
theorem bits_zero_i64 (x : Int) (h0 : 0 ≤ x) (h1 : x < 9223372036854775808) : bits .xor .i64 x 0 = x := by
  obtain ⟨a, rfl⟩ := Int.eq_ofNat_of_zero_le h0
  rw [bits_xor_i64, BitVec.ofInt_natCast, show BitVec.ofInt 64 0 = 0#64 from rfl, BitVec.xor_zero, BitVec.toNat_ofNat, Nat.mod_eq_of_lt (show a < 2 ^ 64 by omega), IntKind.wrap_i64]
  omega
theorem bits_ones_i64 (x : Int) (h0 : 0 ≤ x) (h1 : x < 9223372036854775808) : bits .xor .i64 x (-1) = -x - 1 := by
  obtain ⟨a, rfl⟩ := Int.eq_ofNat_of_zero_le h0
  rw [bits_xor_i64, BitVec.ofInt_natCast, show BitVec.ofInt 64 (-1) = BitVec.allOnes 64 from rfl, BitVec.xor_allOnes, BitVec.toNat_not, BitVec.toNat_ofNat, Nat.mod_eq_of_lt (show a < 2 ^ 64 by omega), IntKind.wrap_i64]
  omega
/-- Zag as Go reckons it. -/
theorem zag_bits (n : Int) (h0 : 0 ≤ n) (h1 : n < 18446744073709551616) :
    bits .xor .i64 (n / 2) (-(n % 2)) = zagI n := by
  unfold zagI
  split
  · rename_i h
    rw [h, bits_ones_i64 _ (by omega) (by omega)]
    omega
  · rw [show n % 2 = 0 by omega]
    exact bits_zero_i64 _ (by omega) (by omega)
theorem and_one (n : Int) (h0 : 0 ≤ n) (h1 : n < 18446744073709551616) : bits .and .u64 n 1 = n % 2 := by
  have := bits_mask .u64 64 (by decide) (fun m a b => by rw [wrap_u64']; omega) 1 (by omega) n h0 (by omega)
  simpa using this
/-- Zig as Go reckons it. -/
theorem zig_bits (n : Int) (h0 : -9223372036854775808 ≤ n) (h1 : n ≤ 9223372036854775807) :
    bits .xor .u64 (IntKind.u64.wrap (IntKind.i64.wrap (n * 2))) (IntKind.u64.wrap (n / 9223372036854775808)) = zigI n := by
  have e1 : IntKind.u64.wrap (IntKind.i64.wrap (n * 2)) = (n * 2) % 18446744073709551616 := by
    rw [IntKind.wrap_i64, wrap_u64']
    omega
  unfold zigI
  rw [e1, wrap_u64']
  obtain ⟨a, ha⟩ := Int.eq_ofNat_of_zero_le (show 0 ≤ (n * 2) % 18446744073709551616 by omega)
  have ha2 : a < 18446744073709551616 := by omega
  rw [ha]
  by_cases hn : n < 0
  · rw [if_pos hn]
    have e2 : (n / 9223372036854775808) % 18446744073709551616 = ((18446744073709551615 : Nat) : Int) := by omega
    rw [e2, bits_xor_u64_nat _ _ ha2 (by decide)]
    rw [xor_ones a ha2]
    omega
  · rw [if_neg hn]
    have e2 : (n / 9223372036854775808) % 18446744073709551616 = ((0 : Nat) : Int) := by omega
    rw [e2, bits_xor_u64_nat _ _ ha2 (by decide), Nat.xor_zero]
    omega
end Bq
end Go.Proofs.YtemkfkaggdpcjaaDoor
