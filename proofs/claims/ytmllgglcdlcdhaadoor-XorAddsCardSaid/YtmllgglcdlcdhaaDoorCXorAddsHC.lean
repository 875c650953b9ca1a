import Derived.Test.YtmllgglcdlcdhaaDoorCXorAddsQ
import Derived.RowKit
import Derived.Laws.BitsAllLaws
import Derived.Laws.Bits64
import Derived.WalkArith
namespace Go.Proofs.YtmllgglcdlcdhaaDoor.Bq
end Go.Proofs.YtmllgglcdlcdhaaDoor.Bq
section
namespace Go.Proofs.YtmllgglcdlcdhaaDoor.Xs
open Go Go.RowKit Go.Proofs.YtmllgglcdlcdhaaDoor Bq
set_option linter.unusedVariables false
structure Win where
  set : Bool
  lead : Nat
  trail : Nat
def u64 (d : Int) : Nat := (d % 18446744073709551616).toNat
def tz : Nat → Nat → Nat
  | 0, _ => 0
  | f + 1, x => if x % 2 = 1 then 0 else 1 + tz f (x / 2)
def leadX (x : Nat) : Nat := min (63 - Nat.log2 x) 31
def trailX (x : Nat) : Nat := tz 64 x
theorem tz_dvd : ∀ (f x : Nat), 2 ^ tz f x ∣ x
  | 0, x => ⟨x, by simp [tz]⟩
  | f + 1, x => by
    unfold tz
    by_cases h : x % 2 = 1
    · rw [if_pos h]; exact ⟨x, by simp⟩
    · rw [if_neg h]
      obtain ⟨c, hc⟩ := tz_dvd f (x / 2)
      refine ⟨c, ?_⟩
      have e : x = 2 * (x / 2) := by omega
      rw [Nat.add_comm, Nat.pow_succ, Nat.mul_comm (2 ^ tz f (x / 2)) 2, Nat.mul_assoc, ← hc]
      exact e
theorem trail_le (x : Nat) (h0 : x ≠ 0) : trailX x ≤ Nat.log2 x := by
  have h : 2 ^ trailX x ≤ x := Nat.le_of_dvd (by omega) (tz_dvd 64 x)
  exact (Nat.le_log2 h0).2 h
theorem lead_lt (x : Nat) (h0 : x ≠ 0) (hx : x < 2 ^ 64) : x < 2 ^ (64 - leadX x) := by
  have h1 : Nat.log2 x < 64 := (Nat.log2_lt h0).2 hx
  have h2 : x < 2 ^ (Nat.log2 x + 1) := Nat.lt_log2_self
  refine Nat.lt_of_lt_of_le h2 (Nat.pow_le_pow_right (by decide) ?_)
  unfold leadX
  omega
theorem lead_trail (x : Nat) (h0 : x ≠ 0) (hx : x < 2 ^ 64) : leadX x + trailX x ≤ 63 := by
  have h1 : Nat.log2 x < 64 := (Nat.log2_lt h0).2 hx
  have h2 := trail_le x h0
  unfold leadX
  omega
theorem lead_le (x : Nat) : leadX x ≤ 31 := Nat.min_le_right _ _
def changeB (d : Int) : List Bool :=
  if d = 0 then nb 0 1
  else if -8191 ≤ d ∧ d ≤ 8192 then nb 2 2 ++ nb (u64 d) 14
  else if -65535 ≤ d ∧ d ≤ 65536 then nb 6 3 ++ nb (u64 d) 17
  else if -524287 ≤ d ∧ d ≤ 524288 then nb 14 4 ++ nb (u64 d) 20
  else nb 15 4 ++ nb (u64 d) 64
def turnB (x : Nat) (w : Win) : List Bool × Win :=
  if x = 0 then (nb 0 1, w)
  else if w.set = true ∧ w.lead ≤ leadX x ∧ w.trail ≤ trailX x then (nb 1 1 ++ (nb 0 1 ++ nb (x / 2 ^ w.trail) (64 - w.lead - w.trail)), w)
  else (nb 1 1 ++ (nb 1 1 ++ (nb (leadX x) 5 ++ (nb ((64 - leadX x - trailX x) % 64) 6 ++ nb (x / 2 ^ trailX x) (64 - leadX x - trailX x)))), ⟨true, leadX x, trailX x⟩)
def getX (w : Nat) (r : List Bool) : Except Int (Nat × List Bool) := if r.length < w then .error 6 else .ok (bnum (r.take w), r.drop w)
def signX (n w : Nat) : Int := if w < 64 ∧ 2 ^ (w - 1) < n then (n : Int) - 2 ^ w else wrap64 (n : Int)
def signR (w : Nat) (r : List Bool) : Except Int (Int × List Bool) := match getX w r with
  | .error e => .error e
  | .ok (n, r) => .ok (signX n w, r)
def changeR : List Nat → List Bool → Except Int (Int × List Bool)
  | [], r => signR 64 r
  | w :: ws, r => match getX 1 r with
    | .error e => .error e
    | .ok (n, r) => if n = 0 then (if w = 0 then .ok (0, r) else signR w r) else changeR ws r
def turnR (w : Win) (r : List Bool) : Except Int (Nat × Win × List Bool) := match getX 1 r with
  | .error e => .error e
  | .ok (n, r) => if n = 0 then .ok (0, w, r) else match getX 1 r with
    | .error e => .error e
    | .ok (n, r) => if n = 0 then (if w.set = true then (match getX (64 - w.lead - w.trail) r with
        | .error e => .error e
        | .ok (n, r) => .ok (n * 2 ^ w.trail, w, r)) else .error 8) else match getX 5 r with
      | .error e => .error e
      | .ok (l, r) => match getX 6 r with
        | .error e => .error e
        | .ok (m, r) => if 64 < l + (if m = 0 then 64 else m) then .error 8 else match getX (if m = 0 then 64 else m) r with
          | .error e => .error e
          | .ok (n, r) => .ok (n * 2 ^ (64 - l - (if m = 0 then 64 else m)), ⟨true, l, 64 - l - (if m = 0 then 64 else m)⟩, r)
theorem getX_nb (n w : Nat) (r : List Bool) : getX w (nb n w ++ r) = .ok (n % 2 ^ w, r) := by
  unfold getX
  have hl := nb_length n w
  rw [if_neg (by rw [List.length_append]; omega), List.take_left' hl, List.drop_left' hl, bnum_nb]
theorem u64_neg (d : Int) (h : -18446744073709551616 ≤ d ∧ d < 0) : (u64 d : Int) = d + 18446744073709551616 := by unfold u64; omega
theorem sign_back (d : Int) (w : Nat) (hw : 2 ≤ w ∧ w < 64) (h1 : -(2 ^ (w - 1) : Int) < d) (h2 : d ≤ 2 ^ (w - 1)) : signX (u64 d % 2 ^ w) w = d := by
  obtain ⟨m, rfl⟩ : ∃ m, w = m + 1 := ⟨w - 1, by omega⟩
  have hm : m < 63 := by omega
  simp only [Nat.add_sub_cancel] at h1 h2 ⊢
  have hp : (2 : Nat) ^ m ≤ 2 ^ 62 := Nat.pow_le_pow_right (by decide) (by omega)
  have hq : (2 : Nat) ^ (m + 1) = 2 * 2 ^ m := by rw [Nat.pow_succ]; omega
  have hpi : ((2 : Nat) ^ m : Nat) = ((2 : Int) ^ m) := by simp
  have hpos : 0 < (2 : Nat) ^ m := Nat.pos_of_ne_zero (by simp)
  have hqi : ((2 : Int) ^ (m + 1)) = 2 * ((2 ^ m : Nat) : Int) := by rw [Int.pow_succ, hpi]; omega
  rw [← hpi] at h1 h2
  have hd64 : (18446744073709551616 : Nat) = 2 ^ (m + 1) * 2 ^ (63 - m) := by rw [← Nat.pow_add, show m + 1 + (63 - m) = 64 by omega]
  obtain ⟨P, hP⟩ : ∃ P, P = 2 ^ m := ⟨_, rfl⟩
  rw [← hP] at hp hq hpos hqi h1 h2
  unfold signX
  by_cases hn : 0 ≤ d
  · have hu : u64 d = d.toNat := by unfold u64; rw [Int.emod_eq_of_lt hn (by omega)]
    rw [hu, hq, Nat.add_sub_cancel, ← hP, Nat.mod_eq_of_lt (by omega), if_neg (by omega)]
    unfold wrap64
    omega
  · have hu : u64 d = 18446744073709551616 - (-d).toNat := by have := u64_neg d (by omega); omega
    have hr : u64 d % 2 ^ (m + 1) = 2 * P - (-d).toNat := by
      rw [hu, hd64, hq]
      have hpp : 0 < 2 ^ (63 - m) := Nat.pos_of_ne_zero (by simp)
      have e : 2 * P * 2 ^ (63 - m) - (-d).toNat = (2 * P - (-d).toNat) + 2 * P * (2 ^ (63 - m) - 1) := by
        have : 2 * P * 2 ^ (63 - m) = 2 * P + 2 * P * (2 ^ (63 - m) - 1) := by
          obtain ⟨q, hq2⟩ : ∃ q, 2 ^ (63 - m) = q + 1 := ⟨2 ^ (63 - m) - 1, by omega⟩
          rw [hq2, Nat.mul_succ, Nat.add_sub_cancel, Nat.add_comm]
        omega
      rw [e, Nat.add_mul_mod_self_left, Nat.mod_eq_of_lt (by omega)]
    rw [hr, Nat.add_sub_cancel, ← hP, if_pos (by constructor <;> omega), hqi]
    omega
theorem change_back (d : Int) (hd : -9223372036854775808 ≤ d ∧ d ≤ 9223372036854775807) (r : List Bool) : changeR [0, 14, 17, 20] (changeB d ++ r) = .ok (d, r) := by
  unfold changeB
  split
  · rename_i h
    subst h
    rfl
  · split
    · rename_i h
      rw [List.append_assoc]
      show signR 14 (nb (u64 d) 14 ++ r) = _
      unfold signR
      rw [getX_nb]
      simp only
      rw [sign_back d 14 (by decide) (by omega) (by omega)]
    · split
      · rename_i h
        rw [List.append_assoc]
        show signR 17 (nb (u64 d) 17 ++ r) = _
        unfold signR
        rw [getX_nb]
        simp only
        rw [sign_back d 17 (by decide) (by omega) (by omega)]
      · split
        · rename_i h
          rw [List.append_assoc]
          show signR 20 (nb (u64 d) 20 ++ r) = _
          unfold signR
          rw [getX_nb]
          simp only
          rw [sign_back d 20 (by decide) (by omega) (by omega)]
        · rw [List.append_assoc]
          show signR 64 (nb (u64 d) 64 ++ r) = _
          unfold signR
          rw [getX_nb]
          simp only
          have e : signX (u64 d % 2 ^ 64) 64 = d := by
            unfold signX
            rw [if_neg (by omega)]
            unfold u64 wrap64
            omega
          rw [e]
def okW (w : Win) : Prop := w.set = true → w.lead + w.trail ≤ 63
theorem turnB_ok (x : Nat) (w : Win) (hx : x < 2 ^ 64) (hw : okW w) : okW (turnB x w).2 := by
  unfold turnB
  split
  · exact hw
  · rename_i h0
    split
    · exact hw
    · exact fun _ => lead_trail x h0 hx
theorem turn_back (x : Nat) (w : Win) (hx : x < 2 ^ 64) (hw : okW w) (r : List Bool) : turnR w ((turnB x w).1 ++ r) = .ok (x, (turnB x w).2, r) := by
  unfold turnB
  split
  · rename_i h
    subst h
    rfl
  · rename_i h0
    have hlt := lead_lt x h0 hx
    have hle := lead_trail x h0 hx
    have hl31 := lead_le x
    split
    · rename_i hc
      obtain ⟨c1, c2, c3⟩ := hc
      have hww := hw c1
      simp only [List.append_assoc]
      unfold turnR
      rw [getX_nb]
      simp only
      rw [if_neg (by decide), getX_nb]
      simp only
      rw [if_pos (by decide)]
      rw [if_pos c1, getX_nb]
      simp only
      have hdv : 2 ^ w.trail ∣ x := Nat.dvd_trans (Nat.pow_dvd_pow 2 c3) (tz_dvd 64 x)
      have hsm : x / 2 ^ w.trail < 2 ^ (64 - w.lead - w.trail) := by
        rw [Nat.div_lt_iff_lt_mul (Nat.pos_of_ne_zero (by simp)), ← Nat.pow_add]
        refine Nat.lt_of_lt_of_le hlt (Nat.pow_le_pow_right (by decide) (by omega))
      rw [Nat.mod_eq_of_lt hsm, Nat.div_mul_cancel hdv]
    · obtain ⟨L, hL⟩ : ∃ L, L = leadX x := ⟨_, rfl⟩
      obtain ⟨T, hT⟩ : ∃ T, T = trailX x := ⟨_, rfl⟩
      rw [← hL] at hlt hle hl31
      rw [← hT] at hle
      rw [← hL, ← hT]
      have hdv : 2 ^ T ∣ x := by rw [hT]; exact tz_dvd 64 x
      have hsm : x / 2 ^ T < 2 ^ (64 - L - T) := by
        rw [Nat.div_lt_iff_lt_mul (Nat.pos_of_ne_zero (by simp)), ← Nat.pow_add]
        refine Nat.lt_of_lt_of_le hlt (Nat.pow_le_pow_right (by decide) (by omega))
      have hm : (if (64 - L - T) % 64 = 0 then 64 else (64 - L - T) % 64) = 64 - L - T := by split <;> omega
      simp only [List.append_assoc]
      unfold turnR
      rw [getX_nb]
      simp only
      rw [if_neg (by decide), getX_nb]
      simp only
      rw [if_neg (by decide)]
      rw [getX_nb]
      simp only
      rw [getX_nb]
      simp only
      rw [Nat.mod_eq_of_lt (show L < 2 ^ 5 by omega), Nat.mod_eq_of_lt (show (64 - L - T) % 64 < 2 ^ 6 by omega), hm, if_neg (by omega), getX_nb]
      simp only
      rw [Nat.mod_eq_of_lt hsm, show 64 - L - (64 - L - T) = T by omega, Nat.div_mul_cancel hdv]
end Go.Proofs.YtmllgglcdlcdhaaDoor.Xs
end
section
namespace Go.Proofs.YtmllgglcdlcdhaaDoor
namespace Bq
set_option linter.unusedVariables false
set_option linter.unusedSimpArgs false
def uv (n : Nat) : List Nat := if n < 128 then [n] else (n % 128 + 128) :: uv (n / 128)
termination_by n
decreasing_by omega
theorem uv_small (n : Nat) (h : n < 128) : uv n = [n] := by rw [uv, if_pos h]
theorem uv_big (n : Nat) (h : 128 ≤ n) : uv n = (n % 128 + 128) :: uv (n / 128) := by rw [uv, if_neg (by omega)]
theorem uv_pos (n : Nat) : 0 < (uv n).length := by
  by_cases h : n < 128
  · simp [uv_small n h]
  · simp [uv_big n (by omega)]
theorem uv_len (k : Nat) : ∀ n, n < 128 ^ (k + 1) → (uv n).length ≤ k + 1 := by
  induction k with
  | zero => intro n h; rw [uv_small n (by simpa using h)]; simp
  | succ k ih =>
    intro n h
    by_cases h1 : n < 128
    · rw [uv_small n h1]; simp
    · rw [uv_big n (by omega), List.length_cons]
      have := ih (n / 128) (by rw [Nat.div_lt_iff_lt_mul (by decide)]; rwa [Nat.pow_succ] at h)
      omega
theorem uv_len10 (n : Nat) (h : n < 18446744073709551616) : (uv n).length ≤ 10 := uv_len 9 n (Nat.lt_of_lt_of_le h (by decide))
theorem uv_lt (n : Nat) : ∀ x ∈ uv n, x < 256 := by
  induction n using Nat.strongRecOn with
  | _ n ih =>
    intro x hx
    by_cases h : n < 128
    · rw [uv_small n h] at hx
      have : x = n := by simpa using hx
      omega
    · rw [uv_big n (by omega)] at hx
      rcases List.mem_cons.1 hx with rfl | hx
      · omega
      · exact ih (n / 128) (by omega) x hx
def ug : Nat → Nat → List Int → Int × Int × Int
  | at_, acc, [] => if at_ < 10 then (0, 0, 6) else (0, 0, 9)
  | at_, acc, x :: xs =>
    if 10 ≤ at_ then (0, 0, 9)
    else if at_ = 9 ∧ 1 < x then (0, 0, 9)
    else if x < 128 then (if 0 < at_ ∧ x = 0 then (0, 0, 8) else ((acc : Int) + x * 128 ^ at_, (at_ : Int) + 1, 0))
    else ug (at_ + 1) (acc + (x.toNat - 128) * 128 ^ at_) xs
def uget (xs : List Int) : Int × Int × Int := ug 0 0 xs
def zigI (n : Int) : Int := if n < 0 then -2 * n - 1 else 2 * n
def zagI (n : Int) : Int := if n % 2 = 1 then -((n + 1) / 2) else n / 2
theorem zag_zig (n : Int) : zagI (zigI n) = n := by
  unfold zagI zigI
  split <;> split <;> omega
theorem wrap_u64' (n : Int) : IntKind.u64.wrap n = n % 18446744073709551616 := by simp [IntKind.wrap, IntKind.bits, IntKind.signed]
theorem xor_ones (a : Nat) (ha : a < 18446744073709551616) : a ^^^ 18446744073709551615 = 18446744073709551615 - a := by
  have h : ((BitVec.ofNat 64 a) ^^^ (BitVec.allOnes 64)).toNat = 2 ^ 64 - 1 - (BitVec.ofNat 64 a).toNat := by rw [BitVec.xor_allOnes, BitVec.toNat_not]
  rw [BitVec.toNat_xor, BitVec.toNat_ofNat, BitVec.toNat_allOnes, Nat.mod_eq_of_lt (by omega)] at h
  simpa using h
theorem bits_xor_i64 (x y : Int) : bits .xor .i64 x y = IntKind.i64.wrap (((BitVec.ofInt 64 x) ^^^ (BitVec.ofInt 64 y)).toNat : Int) := rfl
theorem bits_zero_i64 (x : Int) (h0 : 0 ≤ x) (h1 : x < 9223372036854775808) : bits .xor .i64 x 0 = x := by
  obtain ⟨a, rfl⟩ := Int.eq_ofNat_of_zero_le h0
  rw [bits_xor_i64, BitVec.ofInt_natCast, show BitVec.ofInt 64 0 = 0#64 from rfl, BitVec.xor_zero, BitVec.toNat_ofNat, Nat.mod_eq_of_lt (show a < 2 ^ 64 by omega), IntKind.wrap_i64]
  omega
theorem bits_ones_i64 (x : Int) (h0 : 0 ≤ x) (h1 : x < 9223372036854775808) : bits .xor .i64 x (-1) = -x - 1 := by
  obtain ⟨a, rfl⟩ := Int.eq_ofNat_of_zero_le h0
  rw [bits_xor_i64, BitVec.ofInt_natCast, show BitVec.ofInt 64 (-1) = BitVec.allOnes 64 from rfl, BitVec.xor_allOnes, BitVec.toNat_not, BitVec.toNat_ofNat, Nat.mod_eq_of_lt (show a < 2 ^ 64 by omega), IntKind.wrap_i64]
  omega
theorem zag_bits (n : Int) (h0 : 0 ≤ n) (h1 : n < 18446744073709551616) :
    bits .xor .i64 (n / 2) (-(n % 2)) = zagI n := by
  unfold zagI
  split
  · rename_i h
    rw [h, bits_ones_i64 _ (by omega) (by omega)]
    omega
  · rw [show n % 2 = 0 by omega]
    exact bits_zero_i64 _ (by omega) (by omega)
theorem and_one (n : Int) (h0 : 0 ≤ n) (h1 : n < 18446744073709551616) : bits .and .u64 n 1 = n % 2 := by
  have := bits_mask .u64 64 (by decide) (fun m a b => by rw [wrap_u64']; omega) 1 (by omega) n h0 (by omega)
  simpa using this
theorem zig_bits (n : Int) (h0 : -9223372036854775808 ≤ n) (h1 : n ≤ 9223372036854775807) :
    bits .xor .u64 (IntKind.u64.wrap (IntKind.i64.wrap (n * 2))) (IntKind.u64.wrap (n / 9223372036854775808)) = zigI n := by
  have e1 : IntKind.u64.wrap (IntKind.i64.wrap (n * 2)) = (n * 2) % 18446744073709551616 := by
    rw [IntKind.wrap_i64, wrap_u64']
    omega
  unfold zigI
  rw [e1, wrap_u64']
  obtain ⟨a, ha⟩ := Int.eq_ofNat_of_zero_le (show 0 ≤ (n * 2) % 18446744073709551616 by omega)
  have ha2 : a < 18446744073709551616 := by omega
  rw [ha]
  by_cases hn : n < 0
  · rw [if_pos hn]
    have e2 : (n / 9223372036854775808) % 18446744073709551616 = ((18446744073709551615 : Nat) : Int) := by omega
    rw [e2, bits_xor_u64_nat _ _ ha2 (by decide)]
    rw [xor_ones a ha2]
    omega
  · rw [if_neg hn]
    have e2 : (n / 9223372036854775808) % 18446744073709551616 = ((0 : Nat) : Int) := by omega
    rw [e2, bits_xor_u64_nat _ _ ha2 (by decide), Nat.xor_zero]
    omega
end Bq
end Go.Proofs.YtmllgglcdlcdhaaDoor
end
section
namespace Go.Proofs.YtmllgglcdlcdhaaDoor
open Bq
set_option linter.unusedVariables false
theorem p128 (k : Nat) : 128 ^ (k + 1) = 128 * 128 ^ k := by rw [Nat.pow_succ, Nat.mul_comm]
theorem k_lt {n k : Nat} (h : n * 128 ^ k < 18446744073709551616) (hk : k = 0 ∨ 0 < n) : k < 10 := by
  rcases hk with rfl | hk
  · decide
  · apply Nat.lt_of_not_le
    intro h10
    have h1 : 128 ^ 10 ≤ 128 ^ k := Nat.pow_le_pow_right (by decide) h10
    have h2 : 1 * 128 ^ k ≤ n * 128 ^ k := Nat.mul_le_mul_right _ hk
    have h3 : (128 : Nat) ^ 10 = 1180591620717411303424 := by decide
    omega
theorem k9 {n k : Nat} (h : n * 128 ^ k < 18446744073709551616) (hk : k = 9) : n ≤ 1 := by
  subst hk
  have h3 : (128 : Nat) ^ 9 = 9223372036854775808 := by decide
  rw [h3] at h
  omega
theorem step128 {n k : Nat} (h : n * 128 ^ k < 18446744073709551616) : n / 128 * 128 ^ (k + 1) < 18446744073709551616 := by
  rw [p128, ← Nat.mul_assoc]
  exact Nat.lt_of_le_of_lt (Nat.mul_le_mul_right _ (Nat.div_mul_le_self n 128)) h
theorem sum128 (n k : Nat) : n % 128 * 128 ^ k + n / 128 * 128 ^ (k + 1) = n * 128 ^ k := by
  rw [p128, ← Nat.mul_assoc, ← Nat.add_mul]
  congr 1
  omega
theorem ug_uv (rest : List Int) : ∀ (b n k acc : Nat), n ≤ b → n * 128 ^ k < 18446744073709551616 → (k = 0 ∨ 0 < n) →
    ug k acc (ints (uv n) ++ rest) = (((acc + n * 128 ^ k : Nat) : Int), ((k + (uv n).length : Nat) : Int), 0) := by
  intro b
  induction b with
  | zero =>
    intro n k acc hb h hk
    have hn : n = 0 := by omega
    subst hn
    have hk0 : k = 0 := by omega
    subst hk0
    rw [uv_small 0 (by decide)]
    simp [ints, ug]
  | succ b ih =>
    intro n k acc hb h hk
    have hk10 := k_lt h hk
    by_cases hn : n < 128
    · rw [uv_small n hn]
      show ug k acc ((n : Int) :: rest) = _
      rw [ug, if_neg (by omega), if_neg (by
        rintro ⟨h9, h1⟩
        have := k9 h h9
        omega), if_pos (by omega), if_neg (by
        rintro ⟨h1, h2⟩
        omega)]
      simp
    · rw [uv_big n (by omega)]
      show ug k acc (((n % 128 + 128 : Nat) : Int) :: (ints (uv (n / 128)) ++ rest)) = _
      rw [ug, if_neg (by omega), if_neg (by
        rintro ⟨h9, h1⟩
        have := k9 h h9
        omega), if_neg (by omega)]
      have e : (((n % 128 + 128 : Nat) : Int).toNat - 128) = n % 128 := by omega
      rw [e, ih (n / 128) (k + 1) _ (by omega) (step128 h) (.inr (by omega)), Nat.add_assoc acc, sum128, List.length_cons, Nat.add_assoc k 1, Nat.add_comm 1]
theorem uget_uv (n : Nat) (h : n < 18446744073709551616) (rest : List Int) : uget (ints (uv n) ++ rest) = ((n : Int), ((uv n).length : Int), 0) := by
  have := ug_uv rest n n 0 0 (Nat.le_refl _) (by simpa using h) (.inl rfl)
  simpa [uget] using this
theorem ug_cut : ∀ (b n k acc i : Nat), n ≤ b → n * 128 ^ k < 18446744073709551616 → (k = 0 ∨ 0 < n) → i < (uv n).length →
    (ug k acc ((ints (uv n)).take i)).2.2 = 6 := by
  intro b
  induction b with
  | zero =>
    intro n k acc i hb h hk hi
    have hn : n = 0 := by omega
    subst hn
    have hk0 : k = 0 := by omega
    subst hk0
    rw [uv_small 0 (by decide)] at hi ⊢
    have hi0 : i = 0 := by simpa using hi
    subst hi0
    simp [ints, ug]
  | succ b ih =>
    intro n k acc i hb h hk hi
    have hk10 := k_lt h hk
    cases i with
    | zero => simp [ug, hk10]
    | succ i =>
      by_cases hn : n < 128
      · rw [uv_small n hn] at hi
        simp at hi
      · rw [uv_big n (by omega)] at hi ⊢
        show (ug k acc (((n % 128 + 128 : Nat) : Int) :: (ints (uv (n / 128))).take i)).2.2 = 6
        rw [ug, if_neg (by omega), if_neg (by
          rintro ⟨h9, h1⟩
          have := k9 h h9
          omega), if_neg (by omega)]
        exact ih (n / 128) (k + 1) _ i (by omega) (step128 h) (.inr (by omega)) (by simpa using hi)
theorem uget_cut (n : Nat) (h : n < 18446744073709551616) (i : Nat) (hi : i < (uv n).length) : (uget ((ints (uv n)).take i)).2.2 = 6 :=
  ug_cut n n 0 0 i (Nat.le_refl _) (by simpa using h) (.inl rfl) hi
end Go.Proofs.YtmllgglcdlcdhaaDoor
end
section
namespace Go.Proofs.YtmllgglcdlcdhaaDoor.Xs
open Go Go.RowKit Go.Proofs.YtmllgglcdlcdhaaDoor Bq
set_option linter.unusedVariables false
def bytesB (l : List Int) : List Bool := l.flatMap (fun x => nb x.toNat 8)
theorem bytesB_cons (x : Int) (l : List Int) : bytesB (x :: l) = nb x.toNat 8 ++ bytesB l := rfl
def fewR : Nat → List Int → List Bool → Except Int (Int × List Bool)
  | 0, _, _ => .error 8
  | f + 1, b, r => match getX 8 r with
    | .error e => .error e
    | .ok (x, r) => if (uget (b ++ [(x : Int)])).2.2 = 0 then .ok ((uget (b ++ [(x : Int)])).1, r) else if (uget (b ++ [(x : Int)])).2.2 = 6 then fewR f (b ++ [(x : Int)]) r else .error 8
theorem few_from (n : Nat) (h : n < 18446744073709551616) (r : List Bool) : ∀ (d i f : Nat), i + (d + 1) = (uv n).length → d < f →
    fewR f ((ints (uv n)).take i) (bytesB ((ints (uv n)).drop i) ++ r) = .ok ((n : Int), r)
  | d, i, 0, hi, hf => absurd hf (Nat.not_lt_zero _)
  | d, i, f + 1, hi, hf => by
    have hl : (ints (uv n)).length = (uv n).length := by simp [ints]
    have hil : i < (ints (uv n)).length := by omega
    obtain ⟨x, hx⟩ : ∃ x, x = (ints (uv n))[i] := ⟨_, rfl⟩
    have hxb : 0 ≤ x ∧ x < 256 := by
      have hm : x ∈ ints (uv n) := by rw [hx]; exact List.getElem_mem _
      obtain ⟨y, hy, rfl⟩ := List.mem_map.1 hm
      have := uv_lt n y hy
      omega
    have hxn : ((x.toNat : Nat) : Int) = x := by omega
    have ht : (ints (uv n)).take i ++ [x] = (ints (uv n)).take (i + 1) := by rw [hx, List.take_append_getElem hil]
    rw [List.drop_eq_getElem_cons hil, ← hx, bytesB_cons, List.append_assoc]
    unfold fewR
    rw [getX_nb]
    simp only
    rw [Nat.mod_eq_of_lt (show x.toNat < 2 ^ 8 by omega), hxn, ht]
    by_cases he : d = 0
    · subst he
      have e1 : (ints (uv n)).take (i + 1) = ints (uv n) ++ [] := by rw [List.append_nil]; exact List.take_of_length_le (by omega)
      have e2 : (ints (uv n)).drop (i + 1) = [] := List.drop_eq_nil_iff.2 (by omega)
      rw [e1, uget_uv n h [], if_pos rfl, e2]
      rfl
    · have hc := uget_cut n h (i + 1) (by omega)
      rw [if_neg (by rw [hc]; decide), if_pos hc]
      obtain ⟨d', rfl⟩ : ∃ d', d = d' + 1 := ⟨d - 1, by omega⟩
      exact few_from n h r d' (i + 1) f (by omega) (by omega)
theorem few_back (n : Nat) (h : n < 18446744073709551616) (r : List Bool) : fewR 11 [] (bytesB (ints (uv n)) ++ r) = .ok ((n : Int), r) := by
  have hp := uv_pos n
  have hl := uv_len10 n h
  exact few_from n h r ((uv n).length - 1) 0 11 (by omega) (by omega)
structure St where
  n : Nat
  t : Int
  v : Nat
  step : Nat
  w : Win
def addB (s : St) (t : Int) (v : Nat) : List Bool × St :=
  if s.n = 0 then (bytesB (ints (uv (zigI t).toNat)) ++ nb v 64, ⟨1, t, v, 0, s.w⟩)
  else if s.n = 1 then (bytesB (ints (uv (u64 (t - s.t)))) ++ (turnB (v ^^^ s.v) s.w).1, ⟨2, t, v, u64 (t - s.t), (turnB (v ^^^ s.v) s.w).2⟩)
  else (changeB (wrap64 ((u64 (t - s.t) : Int) - s.step)) ++ (turnB (v ^^^ s.v) s.w).1, ⟨s.n + 1, t, v, u64 (t - s.t), (turnB (v ^^^ s.v) s.w).2⟩)
def nextR (s : St) (r : List Bool) : Except Int ((Int × Nat) × St × List Bool) :=
  if s.n = 0 then (match fewR 11 [] r with
    | .error e => .error e
    | .ok (u, r) => match getX 64 r with
      | .error e => .error e
      | .ok (v, r) => .ok ((zagI u, v), ⟨1, zagI u, v, 0, s.w⟩, r))
  else if s.n = 1 then (match fewR 11 [] r with
    | .error e => .error e
    | .ok (u, r) => match turnR s.w r with
      | .error e => .error e
      | .ok (x, w, r) => .ok ((wrap64 (s.t + u), s.v ^^^ x), ⟨2, wrap64 (s.t + u), s.v ^^^ x, u.toNat, w⟩, r))
  else (match changeR [0, 14, 17, 20] r with
    | .error e => .error e
    | .ok (d, r) => match turnR s.w r with
      | .error e => .error e
      | .ok (x, w, r) => .ok ((wrap64 (s.t + u64 (s.step + d)), s.v ^^^ x), ⟨s.n + 1, wrap64 (s.t + u64 (s.step + d)), s.v ^^^ x, u64 (s.step + d), w⟩, r))
structure OkS (s : St) : Prop where
  t : -9223372036854775808 ≤ s.t ∧ s.t ≤ 9223372036854775807
  v : s.v < 2 ^ 64
  step : s.step < 18446744073709551616
  w : okW s.w
theorem u64_lt (d : Int) : u64 d < 18446744073709551616 := by unfold u64; omega
theorem addB_ok {s : St} (h : OkS s) (t : Int) (v : Nat) (ht : -9223372036854775808 ≤ t ∧ t ≤ 9223372036854775807) (hv : v < 2 ^ 64) : OkS (addB s t v).2 := by
  have hx : v ^^^ s.v < 2 ^ 64 := Nat.xor_lt_two_pow hv h.v
  unfold addB
  split
  · exact ⟨ht, hv, (by show (0 : Nat) < 18446744073709551616; decide), h.w⟩
  · split
    · exact ⟨ht, hv, u64_lt _, turnB_ok _ _ hx h.w⟩
    · exact ⟨ht, hv, u64_lt _, turnB_ok _ _ hx h.w⟩
theorem zig_lt (t : Int) (ht : -9223372036854775808 ≤ t ∧ t ≤ 9223372036854775807) : (zigI t).toNat < 18446744073709551616 ∧ ((zigI t).toNat : Int) = zigI t := by
  unfold zigI
  split <;> omega
theorem t_back (t o : Int) (ht : -9223372036854775808 ≤ t ∧ t ≤ 9223372036854775807) (ho : -9223372036854775808 ≤ o ∧ o ≤ 9223372036854775807) : wrap64 (o + u64 (t - o)) = t := by
  unfold u64 wrap64
  omega
theorem step_back (a b : Nat) (ha : a < 18446744073709551616) (hb : b < 18446744073709551616) : u64 ((b : Int) + wrap64 ((a : Int) - b)) = a := by
  unfold u64 wrap64
  omega
theorem next_back {s : St} (h : OkS s) (t : Int) (v : Nat) (ht : -9223372036854775808 ≤ t ∧ t ≤ 9223372036854775807) (hv : v < 2 ^ 64) (r : List Bool) : nextR s ((addB s t v).1 ++ r) = .ok ((t, v), (addB s t v).2, r) := by
  have hx : v ^^^ s.v < 2 ^ 64 := Nat.xor_lt_two_pow hv h.v
  have hxx : s.v ^^^ (v ^^^ s.v) = v := by rw [Nat.xor_comm v, ← Nat.xor_assoc, Nat.xor_self, Nat.zero_xor]
  unfold addB nextR
  by_cases h0 : s.n = 0
  · simp only [if_pos h0, List.append_assoc]
    obtain ⟨z1, z2⟩ := zig_lt t ht
    rw [few_back _ z1]
    simp only
    rw [getX_nb]
    simp only
    rw [z2, zag_zig, Nat.mod_eq_of_lt hv]
  · simp only [if_neg h0]
    by_cases h1 : s.n = 1
    · simp only [if_pos h1, List.append_assoc]
      rw [few_back _ (u64_lt _)]
      simp only
      rw [turn_back _ _ hx h.w]
      simp only
      rw [hxx, t_back t s.t ht h.t]
      rfl
    · simp only [if_neg h1, List.append_assoc]
      have hd := wrap64_wf ((u64 (t - s.t) : Int) - s.step)
      have hdb : -9223372036854775808 ≤ wrap64 ((u64 (t - s.t) : Int) - s.step) ∧ wrap64 ((u64 (t - s.t) : Int) - s.step) ≤ 9223372036854775807 := by unfold wrap64; omega
      rw [change_back _ hdb]
      simp only
      rw [turn_back _ _ hx h.w]
      simp only
      rw [hxx, step_back _ _ (u64_lt _) h.step, t_back t s.t ht h.t]
def allB : St → List (Int × Nat) → List Bool
  | _, [] => []
  | s, x :: l => (addB s x.1 x.2).1 ++ allB (addB s x.1 x.2).2 l
def allR : Nat → St → List Bool → Except Int (List (Int × Nat) × List Bool)
  | 0, _, r => .ok ([], r)
  | n + 1, s, r => match nextR s r with
    | .error e => .error e
    | .ok (x, s, r) => match allR n s r with
      | .error e => .error e
      | .ok (l, r) => .ok (x :: l, r)
def st0 : St := ⟨0, 0, 0, 0, ⟨false, 0, 0⟩⟩
theorem st0_ok : OkS st0 := ⟨by decide, by decide, by decide, fun h => by cases h⟩
def SmpOk (x : Int × Nat) : Prop := (-9223372036854775808 ≤ x.1 ∧ x.1 ≤ 9223372036854775807) ∧ x.2 < 2 ^ 64
theorem all_back : ∀ (l : List (Int × Nat)) (s : St), OkS s → (∀ x ∈ l, SmpOk x) → ∀ r, allR l.length s (allB s l ++ r) = .ok (l, r)
  | [], s, _, _, r => rfl
  | x :: l, s, h, hl, r => by
    have hx := hl x (List.mem_cons_self ..)
    show (match nextR s (((addB s x.1 x.2).1 ++ allB (addB s x.1 x.2).2 l) ++ r) with
      | Except.error e => Except.error e
      | Except.ok (x, s, r) => match allR l.length s r with
        | Except.error e => Except.error e
        | Except.ok (l, r) => Except.ok (x :: l, r) : Except Int (List (Int × Nat) × List Bool)) = _
    rw [List.append_assoc, next_back h x.1 x.2 hx.1 hx.2]
    simp only
    rw [all_back l _ (addB_ok h x.1 x.2 hx.1 hx.2) (fun y hy => hl y (List.mem_cons_of_mem _ hy)) r]
def packB (l : List (Int × Nat)) : List Bool := nb l.length 16 ++ allB st0 l
def unpackR (r : List Bool) : Except Int (List (Int × Nat) × List Bool) := match getX 16 r with
  | .error e => .error e
  | .ok (n, r) => allR n st0 r
theorem unpack_back (l : List (Int × Nat)) (hn : l.length < 65536) (hl : ∀ x ∈ l, SmpOk x) (r : List Bool) : unpackR (packB l ++ r) = .ok (l, r) := by
  unfold unpackR packB
  rw [List.append_assoc, getX_nb]
  simp only
  rw [Nat.mod_eq_of_lt (show l.length < 2 ^ 16 by omega)]
  exact all_back l st0 st0_ok hl r
end Go.Proofs.YtmllgglcdlcdhaaDoor.Xs
end
section
namespace Go.Proofs.YtmllgglcdlcdhaaDoor
open Go Bq
set_option linter.unusedVariables false
def Byts (xs : List Int) : Prop := ∀ x ∈ xs, 0 ≤ x ∧ x < 256
def bitAt (xs : List Int) (i : Nat) : Bool := ((xs.getD (i / 8) 0).toNat).testBit (7 - i % 8)
def bitsOf (xs : List Int) (n : Nat) : List Bool := (List.range n).map (bitAt xs)
theorem bitsOf_length (xs : List Int) (n : Nat) : (bitsOf xs n).length = n := by simp [bitsOf]
theorem bitsOf_get (xs : List Int) (n i : Nat) (h : i < n) : (bitsOf xs n)[i]'(by rw [bitsOf_length]; exact h) = bitAt xs i := by simp [bitsOf]
end Go.Proofs.YtmllgglcdlcdhaaDoor
end
section
namespace Go.Proofs.YtmllgglcdlcdhaaDoor
open Bq
set_option linter.unusedVariables false
theorem nb_get (n w i : Nat) (h : i < w) : (nb n w)[i]? = some (n.testBit (w - 1 - i)) := by
  unfold nb
  rw [List.getElem?_map, List.getElem?_range h]
  rfl
theorem bnum_testBit (l : List Bool) (i : Nat) (h : i < l.length) : (bnum l).testBit (l.length - 1 - i) = l.getD i false := by
  have h1 := nb_get (bnum l) l.length i h
  rw [nb_bnum] at h1
  rw [List.getD_eq_getElem?_getD, h1]
  rfl
theorem byte8_testBit (l : List Bool) (h8 : l.length ≤ 8) (i : Nat) (h : i < 8) : (byte8 l).testBit (7 - i) = l.getD i false := by
  unfold byte8
  rw [Nat.testBit_mul_two_pow]
  by_cases hi : i < l.length
  · rw [← bnum_testBit l i hi, decide_eq_true (by omega), Bool.true_and]
    congr 1
    omega
  · rw [decide_eq_false (by omega), Bool.false_and, List.getD_eq_getElem?_getD, List.getElem?_eq_none (by omega)]
    rfl
theorem getD_drop8 (l : List Bool) (i : Nat) (h : 8 ≤ i) : (l.drop 8).getD (i - 8) false = l.getD i false := by
  rw [List.getD_eq_getElem?_getD, List.getD_eq_getElem?_getD, List.getElem?_drop]
  congr 2
  omega
theorem bitAt_pack : ∀ (m : Nat) (l : List Bool) (i : Nat), l.length ≤ m → i < 8 * ((l.length + 7) / 8) → bitAt (packI l) i = l.getD i false := by
  intro m
  induction m with
  | zero =>
    intro l i hm hi
    have : l.length = 0 := by omega
    omega
  | succ m ih =>
    intro l i hm hi
    have hl : l ≠ [] := by
      intro h
      subst h
      simp at hi
    have hpos : 0 < l.length := List.length_pos_iff.2 hl
    unfold packI
    rw [pack_cons l hl]
    by_cases h8 : i < 8
    · unfold bitAt
      have e1 : i / 8 = 0 := by omega
      have e2 : i % 8 = i := by omega
      rw [e1, e2]
      show ((byte8 (l.take 8) : Nat) : Int).toNat.testBit (7 - i) = _
      rw [Int.toNat_natCast, byte8_testBit _ (by rw [List.length_take]; omega) i h8]
      rw [List.getD_eq_getElem?_getD, List.getD_eq_getElem?_getD, List.getElem?_take]
      simp [h8]
    · have h1 := ih (l.drop 8) (i - 8) (by rw [List.length_drop]; omega) (by rw [List.length_drop]; omega)
      rw [getD_drop8 l i (by omega)] at h1
      rw [← h1]
      unfold bitAt
      have e1 : i / 8 = (i - 8) / 8 + 1 := by omega
      have e2 : (i - 8) % 8 = i % 8 := by omega
      rw [e1, e2]
      rfl
theorem bitsOf_pack (l : List Bool) : bitsOf (packI l) l.length = l := by
  apply List.ext_getElem
  · rw [bitsOf_length]
  · intro i h1 h2
    rw [bitsOf_get _ _ _ h2, bitAt_pack l.length l i (Nat.le_refl _) (by omega), List.getD_eq_getElem?_getD, List.getElem?_eq_getElem h2]
    rfl
theorem byte_ext {x y : Int} (hx0 : 0 ≤ x) (hx : x < 256) (hy0 : 0 ≤ y) (hy : y < 256) (h : ∀ i, i < 8 → x.toNat.testBit (7 - i) = y.toNat.testBit (7 - i)) : x = y := by
  have e : x.toNat = y.toNat := by
    apply Nat.eq_of_testBit_eq
    intro j
    by_cases hj : j < 8
    · have := h (7 - j) (by omega)
      have e : 7 - (7 - j) = j := by omega
      rw [e] at this
      exact this
    · have hp : (256 : Nat) ≤ 2 ^ j := by
        have : (2 : Nat) ^ 8 ≤ 2 ^ j := Nat.pow_le_pow_right (by decide) (by omega)
        exact this
      rw [Nat.testBit_lt_two_pow (by omega), Nat.testBit_lt_two_pow (by omega)]
  omega
theorem bits_ext (xs ys : List Int) (hl : xs.length = ys.length) (hx : Byts xs) (hy : Byts ys) (h : ∀ i, i < 8 * xs.length → bitAt xs i = bitAt ys i) : xs = ys := by
  apply List.ext_getElem hl
  intro j h1 h2
  have hxj := hx _ (List.getElem_mem h1)
  have hyj := hy _ (List.getElem_mem h2)
  apply byte_ext hxj.1 hxj.2 hyj.1 hyj.2
  intro i hi
  have h3 := h (8 * j + i) (by omega)
  unfold bitAt at h3
  have e1 : (8 * j + i) / 8 = j := by omega
  have e2 : (8 * j + i) % 8 = i := by omega
  rw [e1, e2, List.getD_eq_getElem?_getD, List.getD_eq_getElem?_getD, List.getElem?_eq_getElem h1, List.getElem?_eq_getElem h2] at h3
  exact h3
theorem byts_packI (l : List Bool) : Byts (packI l) := by
  intro x hx
  obtain ⟨y, hy, rfl⟩ := List.mem_map.1 hx
  have := pack_lt l y hy
  omega
theorem bitAt_set (xs : List Int) (i j : Nat) (hx : Byts xs) (hi : i < 8 * xs.length) :
    bitAt (xs.set (i / 8) ((((xs.getD (i / 8) 0).toNat ||| 2 ^ (7 - i % 8)) : Nat) : Int)) j = (bitAt xs j || decide (j = i)) := by
  have hq : i / 8 < xs.length := by omega
  unfold bitAt
  by_cases hj : j / 8 = i / 8
  · rw [hj, List.getD_eq_getElem?_getD (l := xs.set _ _), List.getElem?_set_self hq]
    show ((((xs.getD (i / 8) 0).toNat ||| 2 ^ (7 - i % 8) : Nat) : Int)).toNat.testBit (7 - j % 8) = _
    rw [Int.toNat_natCast, Nat.testBit_or, Nat.testBit_two_pow]
    congr 1
    have : (7 - i % 8 = 7 - j % 8) = (j = i) := by
      apply propext
      constructor
      · intro h; omega
      · intro h; subst h; rfl
    simp only [this]
  · rw [List.getD_eq_getElem?_getD (l := xs.set _ _), List.getElem?_set_ne (fun h => hj h.symm), decide_eq_false (fun h => hj (by rw [h])), Bool.or_false, List.getD_eq_getElem?_getD]
end Go.Proofs.YtmllgglcdlcdhaaDoor
end
section
namespace Go.Proofs.YtmllgglcdlcdhaaDoor.Xs
open Go Go.RowKit Go.Proofs.YtmllgglcdlcdhaaDoor Bq
set_option linter.unusedVariables false
def packL (l : List (Int × Nat)) : List Int := packI (packB l)
def getL (b : List Int) : Except Int (List (Int × Nat)) := match unpackR (bitsOf b (8 * b.length)) with
  | .error e => .error e
  | .ok (l, _) => if packL l = b then .ok l else .error 8
theorem bitsOf_take (xs : List Int) (n k : Nat) (h : k ≤ n) : (bitsOf xs n).take k = bitsOf xs k := by
  unfold bitsOf
  rw [← List.map_take, List.take_range, Nat.min_eq_left h]
theorem bitsOf_app (xs ys : List Int) : bitsOf (xs ++ ys) (8 * xs.length) = bitsOf xs (8 * xs.length) := by
  unfold bitsOf
  refine List.map_congr_left fun i hi => ?_
  have hi := List.mem_range.1 hi
  unfold bitAt
  rw [List.getD_eq_getElem?_getD, List.getD_eq_getElem?_getD, List.getElem?_append_left (by omega)]
theorem bitsOf_longer (xs ys : List Int) : ∃ q, bitsOf (xs ++ ys) (8 * (xs ++ ys).length) = bitsOf xs (8 * xs.length) ++ q := by
  refine ⟨(bitsOf (xs ++ ys) (8 * (xs ++ ys).length)).drop (8 * xs.length), ?_⟩
  have h := List.take_append_drop (8 * xs.length) (bitsOf (xs ++ ys) (8 * (xs ++ ys).length))
  rw [bitsOf_take _ _ _ (by rw [List.length_append]; omega), bitsOf_app] at h
  exact h.symm
theorem bits_pack (bs : List Bool) : ∃ q, bitsOf (packI bs) (8 * (packI bs).length) = bs ++ q := by
  have hl : bs.length ≤ 8 * (packI bs).length := by unfold packI; rw [ints_length, pack_length]; omega
  refine ⟨(bitsOf (packI bs) (8 * (packI bs).length)).drop bs.length, ?_⟩
  have h := List.take_append_drop bs.length (bitsOf (packI bs) (8 * (packI bs).length))
  rw [bitsOf_take _ _ _ hl, bitsOf_pack] at h
  exact h.symm
theorem unpack_pack (l : List (Int × Nat)) (hn : l.length < 65536) (hl : ∀ x ∈ l, SmpOk x) (more : List Int) : ∃ q, unpackR (bitsOf (packL l ++ more) (8 * (packL l ++ more).length)) = .ok (l, q) := by
  obtain ⟨q1, h1⟩ := bitsOf_longer (packL l) more
  obtain ⟨q2, h2⟩ := bits_pack (packB l)
  rw [h1]
  unfold packL
  rw [h2, List.append_assoc]
  exact ⟨_, unpack_back l hn hl _⟩
theorem get_more (l : List (Int × Nat)) (hn : l.length < 65536) (hl : ∀ x ∈ l, SmpOk x) (more : List Int) : getL (packL l ++ more) = if more = [] then .ok l else .error 8 := by
  obtain ⟨q, h⟩ := unpack_pack l hn hl more
  unfold getL
  rw [h]
  simp only
  by_cases hm : more = []
  · subst hm
    rw [if_pos rfl, if_pos (by simp)]
  · rw [if_neg hm, if_neg (fun e => hm (by have := congrArg List.length e; rw [List.length_append] at this; exact List.eq_nil_of_length_eq_zero (by omega)))]
theorem get_back (l : List (Int × Nat)) (hn : l.length < 65536) (hl : ∀ x ∈ l, SmpOk x) : getL (packL l) = .ok l := by
  have h := get_more l hn hl []
  rw [List.append_nil, if_pos rfl] at h
  exact h
theorem bytesB_length (l : List Int) : (bytesB l).length = 8 * l.length := by
  induction l with
  | nil => rfl
  | cons x l ih => rw [bytesB_cons, List.length_append, nb_length, ih, List.length_cons]; omega
end Go.Proofs.YtmllgglcdlcdhaaDoor.Xs
end
section
namespace Go.Proofs.YtmllgglcdlcdhaaDoor.Xs
open Go Go.RowKit Go.Proofs.YtmllgglcdlcdhaaDoor Bq
set_option linter.unusedVariables false
theorem wrapu (n : Int) : IntKind.u64.wrap n = ((u64 n : Nat) : Int) := by rw [wrap_u64']; unfold u64; omega
theorem u_sub (a b : Int) : IntKind.u64.wrap (IntKind.u64.wrap a - IntKind.u64.wrap b) = ((u64 (a - b) : Nat) : Int) := by
  rw [wrap_u64', wrap_u64', wrap_u64']; unfold u64; omega
theorem t_add (a : Int) (b : Int) : wrap64 (IntKind.u64.wrap (IntKind.u64.wrap a + b)) = wrap64 (a + b) := by
  rw [wrap_u64', wrap_u64']; unfold wrap64; omega
theorem step_add (a d : Int) : IntKind.u64.wrap (a + IntKind.u64.wrap d) = ((u64 (a + d) : Nat) : Int) := by
  rw [wrap_u64', wrap_u64']; unfold u64; omega
theorem and_mask (n k : Nat) (hn : n < 18446744073709551616) (hk : k < 64) : bits .and .u64 (n : Int) ((2 ^ k - 1 : Nat) : Int) = ((n % 2 ^ k : Nat) : Int) := by
  have h1 : (2 : Nat) ^ k ≤ 2 ^ 63 := Nat.pow_le_pow_right (by decide) (by omega)
  have hA : (BitVec.ofInt 64 (n : Int)).toNat = n := by rw [BitVec.toNat_ofInt]; omega
  have hB : (BitVec.ofInt 64 ((2 ^ k - 1 : Nat) : Int)).toNat = 2 ^ k - 1 := by rw [BitVec.toNat_ofInt]; omega
  show IntKind.u64.wrap (((BitVec.ofInt 64 (n : Int)) &&& (BitVec.ofInt 64 ((2 ^ k - 1 : Nat) : Int))).toNat : Int) = _
  rw [BitVec.toNat_and, hA, hB, Nat.and_two_pow_sub_one_eq_mod, wrap_u64']
  have : n % 2 ^ k ≤ n := Nat.mod_le _ _
  omega
theorem sign_form (n w : Nat) (hw : w < 64) (hn : n < 2 ^ w) : signX n w = if 2 ^ (w - 1) < n then (n : Int) - 2 ^ w else (n : Int) := by
  unfold signX
  have h : (2 : Nat) ^ w ≤ 2 ^ 63 := Nat.pow_le_pow_right (by decide) (by omega)
  by_cases hc : 2 ^ (w - 1) < n
  · rw [if_pos ⟨hw, hc⟩, if_pos hc]
  · rw [if_neg (fun h => hc h.2), if_neg hc]
    unfold wrap64
    omega
theorem xor_u (a b : Nat) (ha : a < 18446744073709551616) (hb : b < 18446744073709551616) : bits .xor .u64 (a : Int) (b : Int) = ((a ^^^ b : Nat) : Int) := by
  have hA : (BitVec.ofInt 64 (a : Int)).toNat = a := by rw [BitVec.toNat_ofInt]; omega
  have hB : (BitVec.ofInt 64 (b : Int)).toNat = b := by rw [BitVec.toNat_ofInt]; omega
  show IntKind.u64.wrap (((BitVec.ofInt 64 (a : Int)) ^^^ (BitVec.ofInt 64 (b : Int))).toNat : Int) = _
  rw [BitVec.toNat_xor, hA, hB, wrap_u64']
  have : a ^^^ b < 2 ^ 64 := Nat.xor_lt_two_pow (by omega) (by omega)
  omega
theorem change_len (d : Int) : (changeB d).length ≤ 68 := by
  unfold changeB
  repeat' split
  all_goals simp [nb_length]
theorem turn_len (x : Nat) (w : Win) (hw : okW w) (hx : x < 2 ^ 64) : (turnB x w).1.length ≤ 77 := by
  unfold turnB
  split
  · simp [nb_length]
  · split
    · simp only [List.length_append, nb_length]; omega
    · simp only [List.length_append, nb_length]; omega
theorem add_len {s : St} (h : OkS s) (t : Int) (v : Nat) (ht : -9223372036854775808 ≤ t ∧ t ≤ 9223372036854775807) (hv : v < 2 ^ 64) : (addB s t v).1.length ≤ 157 := by
  have hx : v ^^^ s.v < 2 ^ 64 := Nat.xor_lt_two_pow hv h.v
  have h1 := uv_len10 _ (zig_lt t ht).1
  have h2 := uv_len10 _ (u64_lt (t - s.t))
  have h3 := turn_len (v ^^^ s.v) s.w h.w hx
  have h4 := change_len (wrap64 ((u64 (t - s.t) : Int) - s.step))
  have i1 : (ints (uv (zigI t).toNat)).length = (uv (zigI t).toNat).length := by simp [ints]
  have i2 : (ints (uv (u64 (t - s.t)))).length = (uv (u64 (t - s.t))).length := by simp [ints]
  unfold addB
  split
  · simp only [List.length_append, bytesB_length, nb_length]; omega
  · split
    · simp only [List.length_append, bytesB_length]; omega
    · simp only [List.length_append]; omega
theorem all_len : ∀ (l : List (Int × Nat)) (s : St), OkS s → (∀ x ∈ l, SmpOk x) → (allB s l).length ≤ 157 * l.length
  | [], s, _, _ => Nat.le_refl _
  | x :: l, s, h, hl => by
    have hx := hl x (List.mem_cons_self ..)
    have h1 := add_len h x.1 x.2 hx.1 hx.2
    have h2 := all_len l _ (addB_ok h x.1 x.2 hx.1 hx.2) (fun y hy => hl y (List.mem_cons_of_mem _ hy))
    show ((addB s x.1 x.2).1 ++ allB (addB s x.1 x.2).2 l).length ≤ _
    rw [List.length_append, List.length_cons]
    omega
end Go.Proofs.YtmllgglcdlcdhaaDoor.Xs
end
section
namespace Go.Proofs.YtmllgglcdlcdhaaDoor.Pu
open Go Go.Proofs.YtmllgglcdlcdhaaDoor Bq
set_option linter.unusedVariables false
theorem byt_app {xs ys : List Int} (h : Byts xs) (h' : Byts ys) : Byts (xs ++ ys) := fun x hx => by
  rcases List.mem_append.1 hx with hx | hx
  · exact h x hx
  · exact h' x hx
theorem val_bd (k acc : Nat) (x : Int) (hk : k < 10) (hx0 : 0 ≤ x) (hx1 : x < 256) (h9 : ¬ (k = 9 ∧ 1 < x)) (ha : acc < 128 ^ k) :
    (acc + (x % 128).toNat * 128 ^ k < 128 ^ (k + 1)) ∧ (acc + (x % 128).toNat * 128 ^ k < 18446744073709551616) := by
  have h1 : (x % 128).toNat < 128 := by omega
  constructor
  · rw [Nat.pow_succ]
    have : (x % 128).toNat * 128 ^ k ≤ 127 * 128 ^ k := Nat.mul_le_mul_right _ (by omega)
    omega
  · have hp : (128 : Nat) ^ k ≤ 128 ^ 9 := Nat.pow_le_pow_right (by decide) (by omega)
    rcases Nat.lt_or_ge k 9 with h | h
    · have hp2 : (128 : Nat) ^ k ≤ 128 ^ 8 := Nat.pow_le_pow_right (by decide) (by omega)
      have : (x % 128).toNat * 128 ^ k ≤ 127 * 128 ^ 8 := Nat.mul_le_mul (by omega) hp2
      omega
    · have hk9 : k = 9 := by omega
      subst hk9
      have : (x % 128).toNat ≤ 1 := by omega
      have : (x % 128).toNat * 128 ^ 9 ≤ 1 * 128 ^ 9 := Nat.mul_le_mul_right _ this
      omega
theorem sum_val (k acc : Nat) (x : Int) (hx0 : 0 ≤ x) (hx1 : x < 128) : ((acc + (x % 128).toNat * 128 ^ k : Nat) : Int) = (acc : Int) + x * 128 ^ k := by
  obtain ⟨y, rfl⟩ := Int.eq_ofNat_of_zero_le hx0
  rw [show ((y : Int) % 128).toNat = y by omega]
  simp
theorem more_val (k acc : Nat) (x : Int) (hx0 : 128 ≤ x) (hx1 : x < 256) : acc + (x % 128).toNat * 128 ^ k = acc + (x.toNat - 128) * 128 ^ k := by
  rw [show (x % 128).toNat = x.toNat - 128 by omega]
theorem ug_bound : ∀ (xs : List Int) (k acc : Nat), Byts xs → k ≤ 10 → acc < 128 ^ k → 0 ≤ (ug k acc xs).1 ∧ (ug k acc xs).1 < 18446744073709551616
  | [], k, acc, _, _, _ => by
    unfold ug
    split <;> decide
  | x :: xs, k, acc, hb, hk, ha => by
    obtain ⟨x0, x1⟩ := hb x (by simp)
    by_cases h10 : 10 ≤ k
    · rw [ug, if_pos h10]
      decide
    · by_cases h9 : k = 9 ∧ 1 < x
      · rw [ug, if_neg h10, if_pos h9]
        decide
      · obtain ⟨v1, v2⟩ := val_bd k acc x (by omega) x0 x1 h9 ha
        by_cases h128 : x < 128
        · by_cases h0 : 0 < k ∧ x = 0
          · rw [ug, if_neg h10, if_neg h9, if_pos h128, if_pos h0]
            decide
          · rw [ug, if_neg h10, if_neg h9, if_pos h128, if_neg h0, ← sum_val k acc x x0 h128]
            exact ⟨by omega, by omega⟩
        · rw [ug, if_neg h10, if_neg h9, if_neg h128, ← more_val k acc x (by omega) x1]
          exact ug_bound xs (k + 1) _ (fun y hy => hb y (by simp [hy])) (by omega) v1
end Go.Proofs.YtmllgglcdlcdhaaDoor.Pu
end
section
namespace Go.Proofs.YtmllgglcdlcdhaaDoor.Xs
open Go Go.RowKit Go.Proofs.YtmllgglcdlcdhaaDoor Bq Go.Proofs.YtmllgglcdlcdhaaDoor.Pu
set_option linter.unusedVariables false
theorem getX_ok {w : Nat} {r : List Bool} {n : Nat} {r' : List Bool} (h : getX w r = .ok (n, r')) : n < 2 ^ w ∧ r'.length + w = r.length := by
  unfold getX at h
  split at h
  · cases h
  · rename_i hl
    injection h with h
    injection h with h1 h2
    subst h1 h2
    have h3 := bnum_lt (r.take w)
    rw [List.length_take, Nat.min_eq_left (by omega)] at h3
    rw [List.length_drop]
    exact ⟨h3, by omega⟩
theorem signR_ok {w : Nat} {r : List Bool} {d : Int} {r' : List Bool} (h : signR w r = .ok (d, r')) : r'.length + w = r.length := by
  unfold signR at h
  cases hg : getX w r with
  | error e => rw [hg] at h; cases h
  | ok v =>
    obtain ⟨n, r1⟩ := v
    rw [hg] at h
    simp only at h
    injection h with h
    injection h with h1 h2
    subst h2
    exact (getX_ok hg).2
theorem changeR_ok : ∀ (ws : List Nat) {r : List Bool} {d : Int} {r' : List Bool} (h : changeR ws r = .ok (d, r')), r'.length + 1 ≤ r.length
  | [], r, d, r', h => by have := signR_ok h; omega
  | w :: ws, r, d, r', h => by
    unfold changeR at h
    cases hg : getX 1 r with
    | error e => rw [hg] at h; cases h
    | ok v =>
      obtain ⟨n, r1⟩ := v
      have h1 := (getX_ok hg).2
      rw [hg] at h
      simp only at h
      by_cases hn : n = 0
      · rw [if_pos hn] at h
        by_cases hw : w = 0
        · rw [if_pos hw] at h
          injection h with h
          injection h with h2 h3
          subst h3
          omega
        · rw [if_neg hw] at h
          have := signR_ok h
          omega
      · rw [if_neg hn] at h
        have := changeR_ok ws h
        omega
theorem mul_bound {n a b : Nat} (h : n < 2 ^ a) (hab : a + b ≤ 64) : n * 2 ^ b < 2 ^ 64 := by
  have h1 : n * 2 ^ b < 2 ^ a * 2 ^ b := Nat.mul_lt_mul_of_pos_right h (Nat.pos_of_ne_zero (by simp))
  rw [← Nat.pow_add] at h1
  exact Nat.lt_of_lt_of_le h1 (Nat.pow_le_pow_right (by decide) hab)
theorem turnR_ok {w : Win} {r : List Bool} {x : Nat} {w' : Win} {r' : List Bool} (hw : okW w) (h : turnR w r = .ok (x, w', r')) : x < 2 ^ 64 ∧ okW w' ∧ r'.length + 1 ≤ r.length := by
  unfold turnR at h
  cases hg : getX 1 r with
  | error e => rw [hg] at h; cases h
  | ok v =>
    obtain ⟨n, r1⟩ := v
    have g1 := (getX_ok hg).2
    rw [hg] at h
    simp only at h
    by_cases hn : n = 0
    · rw [if_pos hn] at h
      injection h with h
      injection h with h1 h2
      injection h2 with h2 h3
      subst h1 h2 h3
      exact ⟨by decide, hw, by omega⟩
    · rw [if_neg hn] at h
      cases hg2 : getX 1 r1 with
      | error e => rw [hg2] at h; cases h
      | ok v =>
        obtain ⟨n2, r2⟩ := v
        have g2 := (getX_ok hg2).2
        rw [hg2] at h
        simp only at h
        by_cases hn2 : n2 = 0
        · rw [if_pos hn2] at h
          by_cases hs : w.set = true
          · rw [if_pos hs] at h
            have hb := hw hs
            cases hg3 : getX (64 - w.lead - w.trail) r2 with
            | error e => rw [hg3] at h; cases h
            | ok v =>
              obtain ⟨n3, r3⟩ := v
              obtain ⟨g3, g4⟩ := getX_ok hg3
              rw [hg3] at h
              simp only at h
              injection h with h
              injection h with h1 h2
              injection h2 with h2 h3
              subst h1 h2 h3
              exact ⟨mul_bound g3 (by omega), hw, by omega⟩
          · rw [if_neg hs] at h
            cases h
        · rw [if_neg hn2] at h
          cases hg3 : getX 5 r2 with
          | error e => rw [hg3] at h; cases h
          | ok v =>
            obtain ⟨l, r3⟩ := v
            have g3 := (getX_ok hg3).2
            rw [hg3] at h
            simp only at h
            cases hg4 : getX 6 r3 with
            | error e => rw [hg4] at h; cases h
            | ok v =>
              obtain ⟨m, r4⟩ := v
              have g4 := (getX_ok hg4).2
              rw [hg4] at h
              simp only at h
              obtain ⟨M, hM⟩ : ∃ M, M = (if m = 0 then 64 else m) := ⟨_, rfl⟩
              have hM0 : 0 < M := by rw [hM]; split <;> omega
              rw [← hM] at h
              by_cases hb : 64 < l + M
              · rw [if_pos hb] at h
                cases h
              · rw [if_neg hb] at h
                cases hg5 : getX M r4 with
                | error e => rw [hg5] at h; cases h
                | ok v =>
                  obtain ⟨y, r5⟩ := v
                  obtain ⟨g5, g6⟩ := getX_ok hg5
                  rw [hg5] at h
                  simp only at h
                  injection h with h
                  injection h with h1 h2
                  injection h2 with h2 h3
                  subst h1 h2 h3
                  exact ⟨mul_bound g5 (by omega), fun _ => by simp only; omega, by omega⟩
theorem fewR_ok : ∀ (f : Nat) (b : List Int) {r : List Bool} {u : Int} {r' : List Bool} (hb : Byts b) (h : fewR f b r = .ok (u, r')), (0 ≤ u ∧ u < 18446744073709551616) ∧ r'.length + 8 ≤ r.length
  | 0, b, r, u, r', hb, h => by cases h
  | f + 1, b, r, u, r', hb, h => by
    unfold fewR at h
    cases hg : getX 8 r with
    | error e => rw [hg] at h; cases h
    | ok v =>
      obtain ⟨x, r1⟩ := v
      obtain ⟨g1, g2⟩ := getX_ok hg
      have hb2 : Byts (b ++ [(x : Int)]) := byt_app hb (fun y hy => by rw [List.mem_singleton.1 hy]; omega)
      rw [hg] at h
      simp only at h
      by_cases h0 : (uget (b ++ [(x : Int)])).2.2 = 0
      · rw [if_pos h0] at h
        injection h with h
        injection h with h1 h2
        subst h1 h2
        exact ⟨ug_bound _ 0 0 hb2 (by decide) (by decide), by omega⟩
      · rw [if_neg h0] at h
        by_cases h6 : (uget (b ++ [(x : Int)])).2.2 = 6
        · rw [if_pos h6] at h
          obtain ⟨k1, k2⟩ := fewR_ok f _ hb2 h
          exact ⟨k1, by omega⟩
        · rw [if_neg h6] at h
          cases h
theorem wrap64_bd (n : Int) : -9223372036854775808 ≤ wrap64 n ∧ wrap64 n ≤ 9223372036854775807 := by unfold wrap64; omega
theorem nextR_ok {s : St} (hs : OkS s) {r : List Bool} {x : Int × Nat} {s' : St} {r' : List Bool} (h : nextR s r = .ok (x, s', r')) : SmpOk x ∧ OkS s' ∧ r'.length + 2 ≤ r.length := by
  unfold nextR at h
  by_cases h0 : s.n = 0
  · rw [if_pos h0] at h
    cases hg : fewR 11 [] r with
    | error e => rw [hg] at h; cases h
    | ok v =>
      obtain ⟨u, r1⟩ := v
      obtain ⟨k1, k2⟩ := fewR_ok 11 [] (fun _ hx => by cases hx) hg
      rw [hg] at h
      simp only at h
      cases hg2 : getX 64 r1 with
      | error e => rw [hg2] at h; cases h
      | ok v =>
        obtain ⟨y, r2⟩ := v
        obtain ⟨k3, k4⟩ := getX_ok hg2
        rw [hg2] at h
        simp only at h
        injection h with h
        injection h with h1 h2
        injection h2 with h2 h3
        subst h1 h2 h3
        have hz : -9223372036854775808 ≤ zagI u ∧ zagI u ≤ 9223372036854775807 := by unfold zagI; split <;> omega
        exact ⟨⟨hz, k3⟩, ⟨hz, k3, by simp only; decide, hs.w⟩, by omega⟩
  · rw [if_neg h0] at h
    by_cases h1 : s.n = 1
    · rw [if_pos h1] at h
      cases hg : fewR 11 [] r with
      | error e => rw [hg] at h; cases h
      | ok v =>
        obtain ⟨u, r1⟩ := v
        obtain ⟨k1, k2⟩ := fewR_ok 11 [] (fun _ hx => by cases hx) hg
        rw [hg] at h
        simp only at h
        cases hg2 : turnR s.w r1 with
        | error e => rw [hg2] at h; cases h
        | ok v =>
          obtain ⟨y, w2, r2⟩ := v
          obtain ⟨k3, k4, k5⟩ := turnR_ok hs.w hg2
          rw [hg2] at h
          simp only at h
          injection h with h
          injection h with h1 h2
          injection h2 with h2 h3
          subst h1 h2 h3
          have hv : s.v ^^^ y < 2 ^ 64 := Nat.xor_lt_two_pow hs.v k3
          exact ⟨⟨wrap64_bd _, hv⟩, ⟨wrap64_bd _, hv, by simp only; omega, k4⟩, by omega⟩
    · rw [if_neg h1] at h
      cases hg : changeR [0, 14, 17, 20] r with
      | error e => rw [hg] at h; cases h
      | ok v =>
        obtain ⟨u, r1⟩ := v
        have k2 := changeR_ok _ hg
        rw [hg] at h
        simp only at h
        cases hg2 : turnR s.w r1 with
        | error e => rw [hg2] at h; cases h
        | ok v =>
          obtain ⟨y, w2, r2⟩ := v
          obtain ⟨k3, k4, k5⟩ := turnR_ok hs.w hg2
          rw [hg2] at h
          simp only at h
          injection h with h
          injection h with h1 h2
          injection h2 with h2 h3
          subst h1 h2 h3
          have hv : s.v ^^^ y < 2 ^ 64 := Nat.xor_lt_two_pow hs.v k3
          exact ⟨⟨wrap64_bd _, hv⟩, ⟨wrap64_bd _, hv, u64_lt _, k4⟩, by omega⟩
theorem allR_ok : ∀ (n : Nat) {s : St} (hs : OkS s) {r : List Bool} {l : List (Int × Nat)} {r' : List Bool} (h : allR n s r = .ok (l, r')), l.length = n ∧ (∀ x ∈ l, SmpOk x) ∧ r'.length + 2 * n ≤ r.length
  | 0, s, hs, r, l, r', h => by
    unfold allR at h
    injection h with h
    injection h with h1 h2
    subst h1 h2
    exact ⟨rfl, (fun _ hx => by cases hx), by omega⟩
  | n + 1, s, hs, r, l, r', h => by
    unfold allR at h
    cases hg : nextR s r with
    | error e => rw [hg] at h; cases h
    | ok v =>
      obtain ⟨x, s1, r1⟩ := v
      obtain ⟨k1, k2, k3⟩ := nextR_ok hs hg
      rw [hg] at h
      simp only at h
      cases hg2 : allR n s1 r1 with
      | error e => rw [hg2] at h; cases h
      | ok v =>
        obtain ⟨l2, r2⟩ := v
        obtain ⟨k4, k5, k6⟩ := allR_ok n k2 hg2
        rw [hg2] at h
        simp only at h
        injection h with h
        injection h with h1 h2
        subst h1 h2
        refine ⟨by rw [List.length_cons, k4], fun y hy => ?_, by omega⟩
        rcases List.mem_cons.1 hy with rfl | hy
        · exact k1
        · exact k5 y hy
theorem unpackR_ok {r : List Bool} {l : List (Int × Nat)} {r' : List Bool} (h : unpackR r = .ok (l, r')) : l.length < 65536 ∧ (∀ x ∈ l, SmpOk x) ∧ 2 * l.length ≤ r.length := by
  unfold unpackR at h
  cases hg : getX 16 r with
  | error e => rw [hg] at h; cases h
  | ok v =>
    obtain ⟨n, r1⟩ := v
    obtain ⟨g1, g2⟩ := getX_ok hg
    rw [hg] at h
    simp only at h
    obtain ⟨k1, k2, k3⟩ := allR_ok n st0_ok h
    exact ⟨by omega, k2, by omega⟩
end Go.Proofs.YtmllgglcdlcdhaaDoor.Xs
end
section
namespace Go.Proofs.YtmllgglcdlcdhaaDoor.Xs
open Go Go.RowKit Go.Proofs.YtmllgglcdlcdhaaDoor Bq Go.Proofs.YtmllgglcdlcdhaaDoor.Pu
set_option linter.unusedVariables false
abbrev Sg := Except Int (List Bool)
def errT : Sg → Int
  | .error e => e
  | .ok _ => 0
def failT (e : Int) : Sg → Sg
  | .error e' => .error e'
  | .ok _ => .error e
def getT (w : Nat) : Sg → Nat × Sg
  | .error e => (0, .error e)
  | .ok r => match getX w r with
    | .error e => (0, .error e)
    | .ok (n, r) => (n, .ok r)
def fewT : Sg → Int × Sg
  | .error e => (0, .error e)
  | .ok r => match fewR 11 [] r with
    | .error e => (0, .error e)
    | .ok (u, r) => (u, .ok r)
def signT (w : Nat) (σ : Sg) : Int × Sg := (signX (getT w σ).1 w, (getT w σ).2)
def changeT : List Nat → Sg → Int × Sg
  | [], σ => signT 64 σ
  | w :: ws, σ => if (getT 1 σ).1 = 0 then (if w = 0 then (0, (getT 1 σ).2) else signT w (getT 1 σ).2) else changeT ws (getT 1 σ).2
def wideT (m : Nat) : Nat := if m = 0 then 64 else m
def turnT5 (w : Win) (l m : Nat) : Sg → Nat × Win × Sg
  | .error e => (0, w, .error e)
  | .ok r => ((getT m (.ok r)).1 * 2 ^ (64 - l - m), ⟨true, l, 64 - l - m⟩, (getT m (.ok r)).2)
def formT (l m : Nat) (σ : Sg) : Sg := if 64 < l + m then failT 8 σ else σ
def turnT4 (w : Win) (l m : Nat) (σ : Sg) : Nat × Win × Sg := turnT5 w l m (formT l m σ)
def turnT2 (w : Win) (σ : Sg) : Nat × Win × Sg :=
  if (getT 1 σ).1 = 0 then (if w.set = true then ((getT (64 - w.lead - w.trail) (getT 1 σ).2).1 * 2 ^ w.trail, w, (getT (64 - w.lead - w.trail) (getT 1 σ).2).2) else (0, w, failT 8 (getT 1 σ).2))
  else turnT4 w (getT 5 (getT 1 σ).2).1 (wideT (getT 6 (getT 5 (getT 1 σ).2).2).1) (getT 6 (getT 5 (getT 1 σ).2).2).2
def turnT (w : Win) (σ : Sg) : Nat × Win × Sg := if (getT 1 σ).1 = 0 then (0, w, (getT 1 σ).2) else turnT2 w (getT 1 σ).2
def nextT (s : St) (σ : Sg) : (Int × Nat) × St × Sg :=
  if s.n = 0 then ((zagI (fewT σ).1, (getT 64 (fewT σ).2).1), ⟨1, zagI (fewT σ).1, (getT 64 (fewT σ).2).1, s.step, s.w⟩, (getT 64 (fewT σ).2).2)
  else if s.n = 1 then ((wrap64 (s.t + (fewT σ).1), s.v ^^^ (turnT s.w (fewT σ).2).1), ⟨2, wrap64 (s.t + (fewT σ).1), s.v ^^^ (turnT s.w (fewT σ).2).1, (fewT σ).1.toNat, (turnT s.w (fewT σ).2).2.1⟩, (turnT s.w (fewT σ).2).2.2)
  else ((wrap64 (s.t + u64 (s.step + (changeT [0, 14, 17, 20] σ).1)), s.v ^^^ (turnT s.w (changeT [0, 14, 17, 20] σ).2).1),
    ⟨s.n + 1, wrap64 (s.t + u64 (s.step + (changeT [0, 14, 17, 20] σ).1)), s.v ^^^ (turnT s.w (changeT [0, 14, 17, 20] σ).2).1, u64 (s.step + (changeT [0, 14, 17, 20] σ).1), (turnT s.w (changeT [0, 14, 17, 20] σ).2).2.1⟩, (turnT s.w (changeT [0, 14, 17, 20] σ).2).2.2)
theorem getT_ok {w : Nat} {r r' : List Bool} {n : Nat} (h : getX w r = .ok (n, r')) : getT w (.ok r) = (n, .ok r') := by unfold getT; simp only [h]
theorem getT_no {w : Nat} {r : List Bool} {e : Int} (h : getX w r = .error e) : getT w (.ok r) = (0, .error e) := by unfold getT; simp only [h]
theorem getT_er (w : Nat) (e : Int) : getT w (.error e) = (0, .error e) := rfl
theorem fewT_ok {r r' : List Bool} {u : Int} (h : fewR 11 [] r = .ok (u, r')) : fewT (.ok r) = (u, .ok r') := by unfold fewT; simp only [h]
theorem fewT_no {r : List Bool} {e : Int} (h : fewR 11 [] r = .error e) : fewT (.ok r) = (0, .error e) := by unfold fewT; simp only [h]
theorem signT_er (w : Nat) (e : Int) : (signT w (.error e)).2 = .error e := rfl
theorem signT_ok {w : Nat} {r r' : List Bool} {d : Int} (h : signR w r = .ok (d, r')) : signT w (.ok r) = (d, .ok r') := by
  unfold signR at h
  unfold signT
  cases hg : getX w r with
  | error e => rw [hg] at h; cases h
  | ok v =>
    obtain ⟨n, r1⟩ := v
    rw [hg] at h
    rw [getT_ok hg]
    injection h with h
    injection h with h1 h2
    simp only [h1, h2]
theorem signT_no {w : Nat} {r : List Bool} {e : Int} (h : signR w r = .error e) : (signT w (.ok r)).2 = .error e := by
  unfold signR at h
  unfold signT
  cases hg : getX w r with
  | error e2 => rw [hg] at h; injection h with h; rw [getT_no hg, h]
  | ok v => rw [hg] at h; cases h
theorem changeT_ok : ∀ (ws : List Nat) {r r' : List Bool} {d : Int} (h : changeR ws r = .ok (d, r')), changeT ws (.ok r) = (d, .ok r')
  | [], r, r', d, h => signT_ok h
  | w :: ws, r, r', d, h => by
    unfold changeR at h
    unfold changeT
    cases hg : getX 1 r with
    | error e => rw [hg] at h; cases h
    | ok v =>
      obtain ⟨n, r1⟩ := v
      rw [hg] at h
      rw [getT_ok hg]
      simp only at h ⊢
      by_cases hn : n = 0
      · rw [if_pos hn] at h ⊢
        by_cases hw : w = 0
        · rw [if_pos hw] at h ⊢
          injection h with h
          injection h with h1 h2
          rw [← h1, ← h2]
        · rw [if_neg hw] at h ⊢
          exact signT_ok h
      · rw [if_neg hn] at h ⊢
        exact changeT_ok ws h
theorem changeT_no : ∀ (ws : List Nat) {r : List Bool} {e : Int} (h : changeR ws r = .error e), (changeT ws (.ok r)).2 = .error e
  | [], r, e, h => signT_no h
  | w :: ws, r, e, h => by
    unfold changeR at h
    unfold changeT
    cases hg : getX 1 r with
    | error e2 =>
      rw [hg] at h
      injection h with h
      rw [getT_no hg, if_pos rfl, h]
      split
      · rfl
      · exact signT_er w e
    | ok v =>
      obtain ⟨n, r1⟩ := v
      rw [hg] at h
      rw [getT_ok hg]
      simp only at h ⊢
      by_cases hn : n = 0
      · rw [if_pos hn] at h ⊢
        by_cases hw : w = 0
        · rw [if_pos hw] at h
          cases h
        · rw [if_neg hw] at h ⊢
          exact signT_no h
      · rw [if_neg hn] at h ⊢
        exact changeT_no ws h
theorem turnT_er (w : Win) (e : Int) : (turnT w (.error e)).2.2 = .error e := by unfold turnT; rw [getT_er, if_pos rfl]
theorem formT_er (l m : Nat) (e : Int) : formT l m (.error e) = .error e := by unfold formT; split <;> rfl
theorem turnT4_er (w : Win) (l m : Nat) (e : Int) : (turnT4 w l m (.error e)).2.2 = .error e := by unfold turnT4; rw [formT_er]; rfl
theorem turnT_ok {w : Win} {r r' : List Bool} {x : Nat} {w' : Win} (h : turnR w r = .ok (x, w', r')) : turnT w (.ok r) = (x, w', .ok r') := by
  unfold turnR at h
  unfold turnT
  cases hg : getX 1 r with
  | error e => rw [hg] at h; cases h
  | ok v =>
    obtain ⟨n, r1⟩ := v
    rw [hg] at h
    rw [getT_ok hg]
    simp only at h ⊢
    by_cases hn : n = 0
    · rw [if_pos hn] at h ⊢
      injection h with h
      injection h with h1 h2
      injection h2 with h2 h3
      rw [← h1, ← h2, ← h3]
    · rw [if_neg hn] at h ⊢
      unfold turnT2
      cases hg2 : getX 1 r1 with
      | error e => rw [hg2] at h; cases h
      | ok v =>
        obtain ⟨n2, r2⟩ := v
        rw [hg2] at h
        rw [getT_ok hg2]
        simp only at h ⊢
        by_cases hn2 : n2 = 0
        · rw [if_pos hn2] at h ⊢
          by_cases hs : w.set = true
          · rw [if_pos hs] at h ⊢
            cases hg3 : getX (64 - w.lead - w.trail) r2 with
            | error e => rw [hg3] at h; cases h
            | ok v =>
              obtain ⟨n3, r3⟩ := v
              rw [hg3] at h
              rw [getT_ok hg3]
              simp only at h ⊢
              injection h with h
              injection h with h1 h2
              injection h2 with h2 h3
              rw [← h1, ← h2, ← h3]
          · rw [if_neg hs] at h
            cases h
        · rw [if_neg hn2] at h ⊢
          cases hg3 : getX 5 r2 with
          | error e => rw [hg3] at h; cases h
          | ok v =>
            obtain ⟨l, r3⟩ := v
            rw [hg3] at h
            rw [getT_ok hg3]
            simp only at h ⊢
            cases hg4 : getX 6 r3 with
            | error e => rw [hg4] at h; cases h
            | ok v =>
              obtain ⟨m, r4⟩ := v
              rw [hg4] at h
              rw [getT_ok hg4]
              simp only at h ⊢
              unfold turnT4 formT wideT
              by_cases hb : 64 < l + (if m = 0 then 64 else m)
              · rw [if_pos hb] at h
                cases h
              · rw [if_neg hb] at h ⊢
                cases hg5 : getX (if m = 0 then 64 else m) r4 with
                | error e => rw [hg5] at h; cases h
                | ok v =>
                  obtain ⟨y, r5⟩ := v
                  rw [hg5] at h
                  unfold turnT5
                  simp only at h ⊢
                  rw [getT_ok hg5]
                  simp only
                  injection h with h
                  injection h with h1 h2
                  injection h2 with h2 h3
                  rw [← h1, ← h2, ← h3]
theorem turnT_no {w : Win} {r : List Bool} {e : Int} (h : turnR w r = .error e) : (turnT w (.ok r)).2.2 = .error e := by
  unfold turnR at h
  unfold turnT
  cases hg : getX 1 r with
  | error e2 =>
    rw [hg] at h
    injection h with h
    rw [getT_no hg, if_pos rfl, h]
  | ok v =>
    obtain ⟨n, r1⟩ := v
    rw [hg] at h
    rw [getT_ok hg]
    simp only at h ⊢
    by_cases hn : n = 0
    · rw [if_pos hn] at h
      cases h
    · rw [if_neg hn] at h ⊢
      cases hg2 : getX 1 r1 with
      | error e2 =>
        rw [hg2] at h
        injection h with h
        unfold turnT2
        rw [getT_no hg2, if_pos rfl, h]
        split <;> rfl
      | ok v =>
        obtain ⟨n2, r2⟩ := v
        rw [hg2] at h
        unfold turnT2
        rw [getT_ok hg2]
        simp only at h ⊢
        by_cases hn2 : n2 = 0
        · rw [if_pos hn2] at h ⊢
          by_cases hs : w.set = true
          · rw [if_pos hs] at h ⊢
            cases hg3 : getX (64 - w.lead - w.trail) r2 with
            | error e2 =>
              rw [hg3] at h
              injection h with h
              rw [getT_no hg3, h]
            | ok v => rw [hg3] at h; cases h
          · rw [if_neg hs] at h ⊢
            injection h with h
            rw [← h]
            rfl
        · rw [if_neg hn2] at h ⊢
          cases hg3 : getX 5 r2 with
          | error e2 =>
            rw [hg3] at h
            injection h with h
            rw [getT_no hg3, getT_er, h]
            exact turnT4_er _ _ _ _
          | ok v =>
            obtain ⟨l, r3⟩ := v
            rw [hg3] at h
            rw [getT_ok hg3]
            simp only at h ⊢
            cases hg4 : getX 6 r3 with
            | error e2 =>
              rw [hg4] at h
              injection h with h
              rw [getT_no hg4, h]
              exact turnT4_er _ _ _ _
            | ok v =>
              obtain ⟨m, r4⟩ := v
              rw [hg4] at h
              rw [getT_ok hg4]
              simp only at h ⊢
              unfold turnT4 formT wideT
              by_cases hb : 64 < l + (if m = 0 then 64 else m)
              · rw [if_pos hb] at h ⊢
                injection h with h
                rw [← h]
                rfl
              · rw [if_neg hb] at h ⊢
                cases hg5 : getX (if m = 0 then 64 else m) r4 with
                | error e2 =>
                  rw [hg5] at h
                  injection h with h
                  unfold turnT5
                  simp only
                  rw [getT_no hg5, h]
                | ok v => rw [hg5] at h; cases h
theorem nextT_ok {s : St} (h0 : s.n = 0 → s.step = 0) {r r' : List Bool} {x : Int × Nat} {s' : St} (h : nextR s r = .ok (x, s', r')) : nextT s (.ok r) = (x, s', .ok r') := by
  unfold nextR at h
  unfold nextT
  by_cases h1 : s.n = 0
  · rw [if_pos h1] at h ⊢
    cases hg : fewR 11 [] r with
    | error e => rw [hg] at h; cases h
    | ok v =>
      obtain ⟨u, r1⟩ := v
      rw [hg] at h
      rw [fewT_ok hg]
      simp only at h ⊢
      cases hg2 : getX 64 r1 with
      | error e => rw [hg2] at h; cases h
      | ok v =>
        obtain ⟨n, r2⟩ := v
        rw [hg2] at h
        rw [getT_ok hg2]
        simp only at h ⊢
        injection h with h
        injection h with h2 h3
        injection h3 with h3 h4
        rw [← h2, ← h3, ← h4, h0 h1]
  · rw [if_neg h1] at h ⊢
    by_cases h2 : s.n = 1
    · rw [if_pos h2] at h ⊢
      cases hg : fewR 11 [] r with
      | error e => rw [hg] at h; cases h
      | ok v =>
        obtain ⟨u, r1⟩ := v
        rw [hg] at h
        rw [fewT_ok hg]
        simp only at h ⊢
        cases hg2 : turnR s.w r1 with
        | error e => rw [hg2] at h; cases h
        | ok v =>
          obtain ⟨n, w2, r2⟩ := v
          rw [hg2] at h
          rw [turnT_ok hg2]
          simp only at h ⊢
          injection h with h
          injection h with h2 h3
          injection h3 with h3 h4
          rw [← h2, ← h3, ← h4]
    · rw [if_neg h2] at h ⊢
      cases hg : changeR [0, 14, 17, 20] r with
      | error e => rw [hg] at h; cases h
      | ok v =>
        obtain ⟨u, r1⟩ := v
        rw [hg] at h
        rw [changeT_ok _ hg]
        simp only at h ⊢
        cases hg2 : turnR s.w r1 with
        | error e => rw [hg2] at h; cases h
        | ok v =>
          obtain ⟨n, w2, r2⟩ := v
          rw [hg2] at h
          rw [turnT_ok hg2]
          simp only at h ⊢
          injection h with h
          injection h with h2 h3
          injection h3 with h3 h4
          rw [← h2, ← h3, ← h4]
theorem nextT_no {s : St} {r : List Bool} {e : Int} (h : nextR s r = .error e) : (nextT s (.ok r)).2.2 = .error e := by
  unfold nextR at h
  unfold nextT
  by_cases h1 : s.n = 0
  · rw [if_pos h1] at h ⊢
    cases hg : fewR 11 [] r with
    | error e2 => rw [hg] at h; injection h with h; rw [fewT_no hg, getT_er, h]
    | ok v =>
      obtain ⟨u, r1⟩ := v
      rw [hg] at h
      rw [fewT_ok hg]
      simp only at h ⊢
      cases hg2 : getX 64 r1 with
      | error e2 => rw [hg2] at h; injection h with h; rw [getT_no hg2, h]
      | ok v => rw [hg2] at h; cases h
  · rw [if_neg h1] at h ⊢
    by_cases h2 : s.n = 1
    · rw [if_pos h2] at h ⊢
      cases hg : fewR 11 [] r with
      | error e2 => rw [hg] at h; injection h with h; rw [fewT_no hg, h]; simp only [turnT_er]
      | ok v =>
        obtain ⟨u, r1⟩ := v
        rw [hg] at h
        rw [fewT_ok hg]
        simp only at h ⊢
        cases hg2 : turnR s.w r1 with
        | error e2 => rw [hg2] at h; injection h with h; rw [← h]; exact turnT_no hg2
        | ok v => rw [hg2] at h; cases h
    · rw [if_neg h2] at h ⊢
      cases hg : changeR [0, 14, 17, 20] r with
      | error e2 => rw [hg] at h; injection h with h; simp only [changeT_no _ hg, h, turnT_er]
      | ok v =>
        obtain ⟨u, r1⟩ := v
        rw [hg] at h
        rw [changeT_ok _ hg]
        simp only at h ⊢
        cases hg2 : turnR s.w r1 with
        | error e2 => rw [hg2] at h; injection h with h; rw [← h]; exact turnT_no hg2
        | ok v => rw [hg2] at h; cases h
def goodE (σ : Sg) : Prop := ∀ e, σ = .error e → e ≠ 0
theorem getT_lt (w : Nat) (σ : Sg) : (getT w σ).1 < 2 ^ w := by
  cases σ with
  | error e => exact Nat.pos_of_ne_zero (by show 2 ^ w ≠ 0; simp)
  | ok r =>
    unfold getT
    simp only
    cases hg : getX w r with
    | error e => exact Nat.pos_of_ne_zero (by show 2 ^ w ≠ 0; simp)
    | ok v => obtain ⟨n, r1⟩ := v; exact (getX_ok hg).1
theorem ug_short : ∀ (xs : List Int) (k acc : Nat), (ug k acc xs).2.2 = 6 → k + xs.length < 10
  | [], k, acc, h => by
    unfold ug at h
    split at h
    · simpa using ‹_›
    · exact absurd h (by decide)
  | x :: xs, k, acc, h => by
    unfold ug at h
    split at h
    · exact absurd h (by decide)
    · split at h
      · exact absurd h (by decide)
      · split at h
        · split at h
          · exact absurd h (by decide)
          · exact absurd h (show ¬ (0 : Int) = 6 by decide)
        · have := ug_short xs _ _ h
          rw [List.length_cons]
          omega
end Go.Proofs.YtmllgglcdlcdhaaDoor.Xs
end
section
namespace Go.Proofs.YtmllgglcdlcdhaaDoor
open Go.RowKit Go.Proofs.YtmllgglcdlcdhaaDoorW.PrintWords Go.Proofs.YtmllgglcdlcdhaaDoorW.PrintMore Go.Proofs.YtmllgglcdlcdhaaDoorW.PrintLast
set_option linter.unusedVariables false
theorem C_at_int {k : IntKind} {w : World} {A : Option Addr} {n : Nat} {xs : List Int} (h : (Kd.int k).C w A n xs) (i : Nat) (hi : i < n) : ∃ ad, A = some ad ∧ w.cell? (ad.add i) = some (.int k (xs.getD i 0)) := by
  obtain ⟨ad, c, e, _, hK, hc⟩ := Kd.C_get h 0 (i : Int) (by omega) (by omega)
  rw [Int.toNat_natCast] at hK hc
  have hk : c = [.int k (xs.getD i 0)] := hK
  subst hk
  have h2 := hc 0 _ rfl
  refine ⟨ad, e, ?_⟩
  have e1 : i * (Kd.int k).sz + 0 = i := by show i * 1 + 0 = i; omega
  rw [e1] at h2
  exact h2
theorem Byts.get {xs : List Int} (h : Byts xs) (i : Nat) (hi : i < xs.length) : 0 ≤ xs.getD i 0 ∧ xs.getD i 0 < 256 := by
  rw [List.getD_eq_getElem?_getD, List.getElem?_eq_getElem hi]
  exact h _ (List.getElem_mem hi)
theorem drop_get (xs : List Int) (i : Nat) (hi : i < xs.length) : xs.drop i = xs.getD i 0 :: xs.drop (i + 1) := by
  rw [List.drop_eq_getElem_cons hi, List.getD_eq_getElem?_getD, List.getElem?_eq_getElem hi]
  rfl
end Go.Proofs.YtmllgglcdlcdhaaDoor
end
