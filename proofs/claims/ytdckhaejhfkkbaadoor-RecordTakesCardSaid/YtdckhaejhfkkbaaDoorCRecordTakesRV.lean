import Derived.Test.YtdckhaejhfkkbaaDoorCRecordTakesPRTx0
import Derived.Test.YtdckhaejhfkkbaaDoorCRecordTakesPRTx8
import Derived.Test.YtdckhaejhfkkbaaDoorCRecordTakesPRTx17
import Derived.Test.YtdckhaejhfkkbaaDoorCRecordTakesQ2
import Derived.Test.YtdckhaejhfkkbaaDoorCRecordTakesPRTx21
import Derived.Test.YtdckhaejhfkkbaaDoorCRecordTakesY
import Derived.Test.YtdckhaejhfkkbaaDoorCRecordTakesRL
import Derived.Test.YtdckhaejhfkkbaaDoorCRecordTakesWGuard
import Derived.Test.YtdckhaejhfkkbaaDoorCRecordTakesPRTx6
import Derived.Test.YtdckhaejhfkkbaaDoorCRecordTakesPRTx4
import Derived.Test.YtdckhaejhfkkbaaDoorCRecordTakesPRTx12
import Derived.Test.YtdckhaejhfkkbaaDoorCRecordTakesPRTx5
namespace Go.Proofs.YtdckhaejhfkkbaaDoor.Bq
end Go.Proofs.YtdckhaejhfkkbaaDoor.Bq
section
namespace Go.Proofs.YtdckhaejhfkkbaaDoor.PRT
open Go.RowKit Go.Proofs.YtdckhaejhfkkbaaDoorW.PrintWords Go.Proofs.YtdckhaejhfkkbaaDoorW.PrintLast Go.Proofs.YtdckhaejhfkkbaaDoorW.PrintMore
attribute [local go_sem] max2_int min2_int max_two min_two max_three min_three max_four min_four
set_option linter.unusedVariables false
set_option linter.unusedSimpArgs false
end Go.Proofs.YtdckhaejhfkkbaaDoor.PRT
end
section
namespace Go.Proofs.YtdckhaejhfkkbaaDoor.Pu
open Go Go.RowKit Go.Proofs.YtdckhaejhfkkbaaDoor Go.Proofs.YtdckhaejhfkkbaaDoor.PRT Go.Proofs.YtdckhaejhfkkbaaDoorW.PrintWords Go.Proofs.YtdckhaejhfkkbaaDoorW.PrintLast Go.Proofs.YtdckhaejhfkkbaaDoorW.PrintMore Bq
set_option linter.unusedVariables false
set_option linter.unusedSimpArgs false
theorem bitR_eq (n i : Nat) : (((n : Int) / 2 ^ i) % 2 == 1) = n.testBit i := by
  rw [Nat.testBit_eq_decide_div_mod_eq]
  have e : ((n : Int) / 2 ^ i) % 2 = ((n / 2 ^ i % 2 : Nat) : Int) := by simp
  rw [e]
  by_cases h : n / 2 ^ i % 2 = 1
  · rw [h]; rfl
  · have : n / 2 ^ i % 2 = 0 := by omega
    rw [this]; rfl
end Go.Proofs.YtdckhaejhfkkbaaDoor.Pu
end
section
namespace Go.Proofs.YtdckhaejhfkkbaaDoor.Pu
open Go Go.RowKit Go.Proofs.YtdckhaejhfkkbaaDoor Go.Proofs.YtdckhaejhfkkbaaDoor.PRT Go.Proofs.YtdckhaejhfkkbaaDoorW.PrintWords Go.Proofs.YtdckhaejhfkkbaaDoorW.PrintLast Go.Proofs.YtdckhaejhfkkbaaDoorW.PrintMore Bq
set_option linter.unusedVariables false
set_option linter.unusedSimpArgs false
def varG (xs : List Int) : Int × Int × Int := (zagI (uget xs).1, (uget xs).2.1, (uget xs).2.2)
theorem varG_cases (xs : List Int) (hb : Byts xs) : (∃ (v : Int) (n : Nat), n ≤ xs.length ∧ varG xs = (v, (n : Int), 0)) ∨ (∃ e : Int, ¬ e = 0 ∧ varG xs = (0, 0, e)) := by
  rcases uget_cases xs hb with ⟨n, h, hl, _, _⟩ | ⟨e, he, h⟩
  · exact .inl ⟨zagI n, (uv n).length, hl, by unfold varG; rw [h]⟩
  · exact .inr ⟨e, he, by unfold varG; rw [h]; rfl⟩
theorem Zag_eq (n : Nat) (h : n < 18446744073709551616) : bits_Zag.f (n : Int) = some (zagI n) ∧ manometerref01_Zag.f (n : Int) = some (zagI n) := by
  constructor
  · unfold bits_Zag.f
    rw [and_one _ (by omega) (by omega), w64 (x := (n : Int) / 2) (by omega) (by omega), w64 (x := (n : Int) % 2) (by omega) (by omega), w64 (x := -((n : Int) % 2)) (by omega) (by omega), zag_bits _ (by omega) (by omega)]
  · unfold manometerref01_Zag.f zagI
    rw [Int.tmod_eq_emod_of_nonneg (by omega), Int.tdiv_eq_ediv_of_nonneg (by omega)]
    have e : IntKind.u64.wrap ((n : Int) / 2) = (n : Int) / 2 := by rw [IntKind.wrap_u64]; omega
    rw [e, w64 (x := (n : Int) / 2) (by omega) (by omega), w64 (x := -((n : Int) / 2)) (by omega) (by omega), w64 (x := -((n : Int) / 2) - 1) (by omega) (by omega)]
    by_cases h1 : (n : Int) % 2 = 1
    · rw [if_pos h1, if_pos h1]
      congr 1
      omega
    · rw [if_neg h1, if_neg h1]
theorem Varint_ev (b : List Int) (hb : Byts b) (hs : b.length ≤ 1000000000000) : Ev (fun k => bits_Varint.f k b) (varG b) ∧ Ev (fun k => manometerref01_Varint.f k b) (varG b) := by
  obtain ⟨u1, u2⟩ := Uvarint_ev b hb hs
  unfold bits_Varint.f manometerref01_Varint.f varG
  rcases uget_cases b hb with ⟨n, h, hl, _, hn⟩ | ⟨e, he, h⟩
  · obtain ⟨z1, z2⟩ := Zag_eq n hn
    rw [h] at u1 u2 ⊢
    constructor
    · refine Ev.bind u1 ?_
      simp only [z1, Option.bind_some]
      exact Ev.now _
    · refine Ev.bind u2 ?_
      simp only [if_pos trivial, z2, Option.bind_some]
      exact Ev.now _
  · obtain ⟨z1, z2⟩ := Zag_eq 0 (by decide)
    have z1' : bits_Zag.f 0 = some (zagI 0) := z1
    rw [h] at u1 u2 ⊢
    constructor
    · refine Ev.bind u1 ?_
      simp only [z1', Option.bind_some]
      exact Ev.now _
    · refine Ev.bind u2 ?_
      simp only [if_neg he]
      exact Ev.now _
theorem and1_u8 (x : Int) (h0 : 0 ≤ x) (h1 : x < 256) : bits .and .u8 x 1 = x % 2 := by
  have := bits_mask .u8 8 (by decide) (fun m a b => by simp [IntKind.wrap, IntKind.bits, IntKind.signed]; omega) 1 (by omega) x h0 (by omega)
  simpa using this
theorem bit_u8 (xs : List Int) (hb : Byts xs) (n : Nat) (hn : n < 8 * xs.length) : (bits .and .u8 (shr .u8 (xs.getD (n / 8) 0) ((7 - n % 8 : Nat) : Int)) 1 == 1) = bitAt xs n := by
  have hx := byt_get hb (n / 8) (by omega)
  unfold bitAt
  generalize xs.getD (n / 8) 0 = x at hx
  obtain ⟨y, rfl⟩ := Int.eq_ofNat_of_zero_le hx.1
  have hs : shr .u8 (y : Int) ((7 - n % 8 : Nat) : Int) = (y : Int) / 2 ^ (7 - n % 8) := by
    unfold shr
    rw [Int.toNat_natCast, Nat.min_eq_left (by show 7 - n % 8 ≤ 8; omega)]
  have e : (y : Int) / 2 ^ (7 - n % 8) = ((y / 2 ^ (7 - n % 8) : Nat) : Int) := by simp
  have hd : y / 2 ^ (7 - n % 8) ≤ y := Nat.div_le_self _ _
  have q0 : (0 : Int) ≤ (y : Int) / 2 ^ (7 - n % 8) := by rw [e]; exact Int.natCast_nonneg _
  have q1 : (y : Int) / 2 ^ (7 - n % 8) < 256 := by rw [e]; exact Int.lt_of_le_of_lt (Int.ofNat_le.2 hd) (by omega)
  rw [hs, and1_u8 _ q0 q1, bitR_eq, Int.toNat_natCast]
theorem Bits_l0 (xs : List Int) (hb : Byts xs) (m : Nat) (hm : m ≤ 8 * xs.length) (hl : m ≤ 1000000000) : ∀ (d n : Nat), n + d = m → Ev (fun k => manometerref01_Bits.l0 k xs (bitsOf xs n) (m : Int) (n : Int)) (bitsOf xs m)
  | 0, n, hd => by
    refine Ev.step (f := _) (fun k => by simp only [manometerref01_Bits.l0]; rfl) ?_
    simp only [if_neg (show ¬ (n : Int) < (m : Int) by omega)]
    obtain rfl : n = m := by omega
    exact Ev.now _
  | d + 1, n, hd => by
    refine Ev.step (f := _) (fun k => by simp only [manometerref01_Bits.l0]; rfl) ?_
    have hlen := bitsOf_length xs n
    have e1 : wrap64 (Int.tdiv (n : Int) 8) = ((n / 8 : Nat) : Int) := by
      rw [Int.tdiv_eq_ediv_of_nonneg (by omega)]
      exact wn (by omega) (by omega)
    have e2 : IntKind.u64.wrap (wrap64 (7 - Int.tmod (n : Int) 8)) = ((7 - n % 8 : Nat) : Int) := by
      clear e1
      rw [Int.tmod_eq_emod_of_nonneg (by omega), wn (n := 7 - n % 8) (x := 7 - (n : Int) % 8) (by omega) (by omega), IntKind.wrap_u64]
      omega
    have c1 : (n : Int) < (m : Int) := by clear e1 e2; omega
    have c2 : (0 : Int) ≤ ((n / 8 : Nat) : Int) := by clear e1 e2; omega
    have c3 : ((n / 8 : Nat) : Int) < (xs.length : Int) := by clear e1 e2; omega
    have c4 : (0 : Int) ≤ ((7 - n % 8 : Nat) : Int) := by clear e1 e2; omega
    have c5 : (bitsOf xs n).length < 140737488355328 := by clear e1 e2; omega
    have c6 : wrap64 ((n : Int) + 1) = ((n + 1 : Nat) : Int) := w1 n (by clear e1 e2; omega)
    have hbit := bit_u8 xs hb n (by clear e1 e2 c6; omega)
    have hsn : bitsOf xs n ++ [bitAt xs n] = bitsOf xs (n + 1) := by
      unfold bitsOf
      rw [List.range_succ, List.map_append]
      rfl
    simp only [if_pos c1, e1, if_pos c2, if_pos c3, e2, if_pos c4, if_pos c5, rdI, hbit, c6, hsn]
    exact Bits_l0 xs hb m hm hl d (n + 1) (by clear e1 e2 c6; omega)
theorem bitsOf_zero (xs : List Int) : bitsOf xs 0 = [] := rfl
theorem Number_l0 (bs : List Bool) (h64 : bs.length ≤ 64) : ∀ (d n : Nat), n + d = bs.length → Ev (fun k => manometerref01_Number.l0 k ((bnum (bs.take n) : Nat) : Int) bs (bs.length : Int) (n : Int)) ((bnum bs : Nat) : Int)
  | 0, n, hd => by
    refine Ev.step (f := _) (fun k => by simp only [manometerref01_Number.l0]; rfl) ?_
    simp only [if_neg (show ¬ (n : Int) < (bs.length : Int) by omega)]
    rw [List.take_of_length_le (by omega)]
    exact Ev.now _
  | d + 1, n, hd => by
    refine Ev.step (f := _) (fun k => by simp only [manometerref01_Number.l0]; rfl) ?_
    have ih := Number_l0 bs h64 d (n + 1) (by omega)
    have hrd : rdOf false bs (n : Int) = bs.getD n false := by unfold rdOf; rw [Int.toNat_natCast]
    have htk : bs.take (n + 1) = bs.take n ++ [bs.getD n false] := by
      rw [List.take_succ_eq_append_getElem (by omega), List.getD_eq_getElem?_getD, List.getElem?_eq_getElem (by omega)]
      rfl
    have hlt := bnum_lt (bs.take n)
    have hp : 2 ^ (bs.take n).length ≤ 2 ^ 63 := Nat.pow_le_pow_right (by decide) (by rw [List.length_take]; omega)
    have h63 : (2 : Nat) ^ 63 = 9223372036854775808 := by decide
    rw [htk, bnum_snoc] at ih
    have hN : bnum (bs.take n) < 9223372036854775808 := by omega
    clear hlt hp h63 htk
    generalize bnum (bs.take n) = N at *
    have e0 : IntKind.u64.wrap ((N : Int) * 2) = ((2 * N : Nat) : Int) := by rw [IntKind.wrap_u64]; omega
    have e1 : IntKind.u64.wrap (((2 * N : Nat) : Int) + 1) = ((2 * N + 1 : Nat) : Int) := by rw [IntKind.wrap_u64]; omega
    simp only [if_pos (show (n : Int) < (bs.length : Int) by omega), if_pos (show (0 : Int) ≤ (n : Int) by omega), hrd, w1 n (by omega), e0, e1]
    by_cases hc : bs.getD n false = true
    · rw [hc] at ih
      simp only [if_pos hc]
      exact ih
    · have hf : bs.getD n false = false := by simpa using hc
      rw [hf] at ih
      simp only [if_neg hc]
      exact ih
theorem bitsOf_snoc8 (l : List Int) (x : Int) : bitsOf (l ++ [x]) (8 * (l.length + 1)) = bitsOf l (8 * l.length) ++ nb x.toNat 8 := by
  unfold bitsOf nb
  rw [show 8 * (l.length + 1) = 8 * l.length + 8 by omega, List.range_add, List.map_append, List.map_map]
  congr 1
  · apply List.map_congr_left
    intro i hi
    have hi := List.mem_range.1 hi
    unfold bitAt
    rw [List.getD_eq_getElem?_getD, List.getD_eq_getElem?_getD, List.getElem?_append_left (by omega)]
  · apply List.map_congr_left
    intro i hi
    have hi := List.mem_range.1 hi
    show bitAt (l ++ [x]) (8 * l.length + i) = _
    unfold bitAt
    rw [show (8 * l.length + i) / 8 = l.length by omega, show (8 * l.length + i) % 8 = i by omega, List.getD_eq_getElem?_getD, List.getElem?_append_right (Nat.le_refl _), Nat.sub_self]
    rfl
theorem v8_num (N : Nat) (x : Int) (hN : N < 72057594037927936) (h0 : 0 ≤ x) (h1 : x < 256) : v8 (N : Int) x = ((N * 256 + x.toNat : Nat) : Int) := by
  obtain ⟨y, rfl⟩ := Int.eq_ofNat_of_zero_le h0
  unfold v8
  have e0 : IntKind.u64.wrap ((N : Int) * 256) = ((2 ^ 8 * N : Nat) : Int) := by rw [IntKind.wrap_u64]; omega
  have e1 : IntKind.u64.wrap (y : Int) = (y : Int) := by rw [IntKind.wrap_u64]; omega
  rw [e0, e1, (bits_nat .u64 64 (by decide) (fun m a b => by rw [wrap_u64']; omega) (2 ^ 8 * N) y (by omega) (by omega)).2, ← Nat.two_pow_add_eq_or_of_lt (by omega), Int.toNat_natCast]
  congr 1
  omega
theorem fold_bnum : ∀ (xs : List Int), Byts xs → xs.length ≤ 8 → xs.foldl v8 0 = ((bnum (bitsOf xs (8 * xs.length)) : Nat) : Int) := by
  intro xs
  induction xs using snoc_ind with
  | h0 => intro _ _; rfl
  | h1 l x ih =>
    intro hb hl
    rw [List.length_append, List.length_singleton] at hl
    have hx := hb x (by simp)
    have ih := ih (fun y hy => hb y (by simp [hy])) (by omega)
    rw [List.foldl_append, ih, List.length_append, List.length_singleton, bitsOf_snoc8, bnum_append, nb_length, bnum_nb]
    have hlt := bnum_lt (bitsOf l (8 * l.length))
    rw [bitsOf_length] at hlt
    have hp : (2 : Nat) ^ (8 * l.length) ≤ 2 ^ 56 := Nat.pow_le_pow_right (by decide) (by omega)
    have h56 : (2 : Nat) ^ 56 = 72057594037927936 := by decide
    show v8 _ x = _
    rw [v8_num _ x (by omega) hx.1 hx.2]
    congr 1
    have : x.toNat % 2 ^ 8 = x.toNat := Nat.mod_eq_of_lt (by omega)
    rw [this]
theorem Of_ev (xs : List Int) (hb : Byts xs) (h8 : xs.length = 8) : Ev (fun k => manometerref01_Of.f k xs) (xs.foldl v8 0) := by
  unfold manometerref01_Of.f manometerref01_Bits.f manometerref01_Number.f
  have e : wrap64 (8 * (xs.length : Int)) = ((64 : Nat) : Int) := wn (by omega) (by omega)
  rw [e]
  have h1 := Bits_l0 xs hb 64 (by omega) (by omega) 64 0 (by omega)
  rw [bitsOf_zero] at h1
  refine Ev.bind h1 ?_
  have h2 := Number_l0 (bitsOf xs 64) (by rw [bitsOf_length]; omega) 64 0 (by rw [bitsOf_length])
  rw [List.take_zero, ← show 8 * xs.length = 64 by omega, ← fold_bnum xs hb (by omega), show 8 * xs.length = 64 by omega] at h2
  exact Ev.bind h2 (Ev.now _)
end Go.Proofs.YtdckhaejhfkkbaaDoor.Pu
end
