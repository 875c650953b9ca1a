import Derived.Test.YtdckhaejhfkkbaaDoorCRecordPutsRL
import Derived.Test.YtdckhaejhfkkbaaDoorCRecordPutsQ4
import Derived.Test.YtdckhaejhfkkbaaDoorCRecordPutsPRTx17
import Derived.Test.YtdckhaejhfkkbaaDoorCRecordPutsPRTx18
import Derived.Test.YtdckhaejhfkkbaaDoorCRecordPutsPRTx6
import Derived.Test.YtdckhaejhfkkbaaDoorCRecordPutsPRTx8
namespace Go.Proofs.YtdckhaejhfkkbaaDoor.Bq
end Go.Proofs.YtdckhaejhfkkbaaDoor.Bq
namespace Go.Proofs.YtdckhaejhfkkbaaDoor.Pu
open Go Go.RowKit Go.Proofs.YtdckhaejhfkkbaaDoor Go.Proofs.YtdckhaejhfkkbaaDoor.PRT Go.Proofs.YtdckhaejhfkkbaaDoorW.PrintWords Go.Proofs.YtdckhaejhfkkbaaDoorW.PrintLast Go.Proofs.YtdckhaejhfkkbaaDoorW.PrintMore Bq
set_option linter.unusedVariables false
set_option linter.unusedSimpArgs false
theorem bitR_eq (n i : Nat) : (((n : Int) / 2 ^ i) % 2 == 1) = n.testBit i := by
  rw [Nat.testBit_eq_decide_div_mod_eq]
  have e : ((n : Int) / 2 ^ i) % 2 = ((n / 2 ^ i % 2 : Nat) : Int) := by simp
  rw [e]
  by_cases h : n / 2 ^ i % 2 = 1
  · rw [h]; rfl
  · have : n / 2 ^ i % 2 = 0 := by omega
    rw [this]; rfl
theorem shr_bit (n i : Nat) (hi : i < 64) (hn : n < 18446744073709551616) : (bits .and .u64 (shr .u64 (n : Int) (i : Int)) 1 == 1) = n.testBit i := by
  have hs : shr .u64 (n : Int) (i : Int) = ((n / 2 ^ i : Nat) : Int) := by
    unfold shr
    rw [Int.toNat_natCast, Nat.min_eq_left (by show i ≤ 64; omega)]
    simp
  have hd : n / 2 ^ i < 18446744073709551616 := Nat.lt_of_le_of_lt (Nat.div_le_self _ _) hn
  have h := bitR_eq n i
  rw [← h, hs]
  have e : ((n : Int) / 2 ^ i) = ((n / 2 ^ i : Nat) : Int) := by simp
  rw [e]
  generalize n / 2 ^ i = q at hd
  rw [and_one _ (by omega) (by omega)]
theorem BPut_l0 (n : Nat) (hn : n < 18446744073709551616) : ∀ (j : Nat) (R : List Bool), j ≤ 64 → R.length + j ≤ 1000000000 → Ev (fun k => manometerref01_Put.l0 k R (n : Int) ((j : Int) - 1)) (R ++ nb n j)
  | 0, R, hj, hl => by
    refine Ev.step (f := _) (fun k => by simp only [manometerref01_Put.l0]; rfl) ?_
    simp only [if_neg (show ¬ ((0 : Nat) : Int) - 1 ≥ 0 by omega)]
    rw [nb_zero, List.append_nil]
    exact Ev.now _
  | j + 1, R, hj, hl => by
    refine Ev.step (f := _) (fun k => by simp only [manometerref01_Put.l0]; rfl) ?_
    have e : ((j + 1 : Nat) : Int) - 1 = (j : Int) := by omega
    have ew : IntKind.u64.wrap (j : Int) = (j : Int) := by rw [IntKind.wrap_u64]; omega
    have e2 : wrap64 ((j : Int) - 1) = (j : Int) - 1 := w64 (by omega) (by omega)
    simp only [e, if_pos (show (j : Int) ≥ 0 by omega), ew, if_pos (show (0 : Int) ≤ (j : Int) by omega), if_pos (show R.length < 140737488355328 by omega), shr_bit n j (by omega) hn, e2]
    have := BPut_l0 n hn j (R ++ [n.testBit j]) (by omega) (by rw [List.length_append, List.length_singleton]; omega)
    rw [List.append_assoc] at this
    rw [nb_succ]
    exact this
theorem BPut_ev (R : List Bool) (n j : Nat) (hn : n < 18446744073709551616) (hj : j ≤ 64) (hl : R.length + j ≤ 1000000000) : Ev (fun k => manometerref01_Put.f k R (n : Int) (j : Int)) (R ++ nb n j) := by
  unfold manometerref01_Put.f
  rw [show wrap64 ((j : Int) - 1) = (j : Int) - 1 from w64 (by omega) (by omega)]
  exact BPut_l0 n hn j R hj hl
theorem or_byteR (x : Int) (r : Nat) (h0 : 0 ≤ x) (h1 : x < 256) (hr : r < 8) : bits .or .u8 x (128 / 2 ^ r) = ((x.toNat ||| 2 ^ (7 - r) : Nat) : Int) := by
  obtain ⟨y, rfl⟩ := Int.eq_ofNat_of_zero_le h0
  have e : (128 : Int) / 2 ^ r = ((2 ^ (7 - r) : Nat) : Int) := by
    have : ∀ r : Fin 8, (128 : Int) / 2 ^ r.val = ((2 ^ (7 - r.val) : Nat) : Int) := by decide
    exact this ⟨r, hr⟩
  have e2 : 2 ^ (7 - r) < 256 := Nat.lt_of_lt_of_le (Nat.pow_lt_pow_right (by decide) (show 7 - r < 8 by omega)) (by decide)
  rw [e, (bits_nat .u8 8 (by decide) wraps_u8 y (2 ^ (7 - r)) (by omega) (by omega)).2, Int.toNat_natCast]
theorem packL_length (l : List Bool) : (packI l).length = (l.length + 7) / 8 := by
  unfold packI
  rw [Bq.ints_length, pack_length]
theorem BBytes_l0 (bs : List Bool) (hl : bs.length ≤ 100000000) : ∀ (d n : Nat) (xs : List Int), n + d = bs.length → xs.length = (bs.length + 7) / 8 → Byts xs → (∀ j, bitAt xs j = (decide (j < n) && bs.getD j false)) →
    Ev (fun k => manometerref01_Bytes.l0 k xs bs (bs.length : Int) (n : Int)) (packI bs)
  | 0, n, xs, hd, hx, hb, hbit => by
    refine Ev.step (f := _) (fun k => by simp only [manometerref01_Bytes.l0]; rfl) ?_
    simp only [if_neg (show ¬ (n : Int) < (bs.length : Int) by omega)]
    have hX : packI bs = xs := by
      apply bits_ext
      · rw [packL_length, hx]
      · exact byts_packI bs
      · exact hb
      · intro j hj
        rw [packL_length] at hj
        rw [bitAt_pack bs.length bs j (Nat.le_refl _) hj, hbit j]
        by_cases hjl : j < bs.length
        · rw [decide_eq_true (show j < n by omega), Bool.true_and]
        · rw [decide_eq_false (show ¬ j < n by omega), Bool.false_and, List.getD_eq_getElem?_getD, List.getElem?_eq_none (by omega)]
          rfl
    rw [hX]
    exact Ev.now _
  | d + 1, n, xs, hd, hx, hb, hbit => by
    refine Ev.step (f := _) (fun k => by simp only [manometerref01_Bytes.l0]; rfl) ?_
    have hrd : rdOf false bs (n : Int) = bs.getD n false := by unfold rdOf; rw [Int.toNat_natCast]
    simp only [if_pos (show (n : Int) < (bs.length : Int) by omega), if_pos (show (0 : Int) ≤ (n : Int) by omega), hrd, w1 n (by omega)]
    by_cases hc : bs.getD n false = true
    · have hq : n / 8 < xs.length := by omega
      have e1 : wrap64 (Int.tdiv (n : Int) 8) = ((n / 8 : Nat) : Int) := by
        rw [Int.tdiv_eq_ediv_of_nonneg (by omega)]
        exact wn (by omega) (by omega)
      have e2 : IntKind.u64.wrap (Int.tmod (n : Int) 8) = ((n % 8 : Nat) : Int) := by
        rw [Int.tmod_eq_emod_of_nonneg (by omega), IntKind.wrap_u64]
        omega
      have hr8 : n % 8 < 8 := Nat.mod_lt _ (by decide)
      have e3 : shr .u8 128 ((n % 8 : Nat) : Int) = 128 / 2 ^ (n % 8) := by
        unfold shr
        rw [Int.toNat_natCast, Nat.min_eq_left (by show n % 8 ≤ 8; omega)]
      have hxb := byt_get hb (n / 8) hq
      simp only [if_pos hc, e1, e2, if_pos (show (0 : Int) ≤ ((n / 8 : Nat) : Int) by omega), if_pos (show ((n / 8 : Nat) : Int) < (xs.length : Int) by omega), if_pos (show (0 : Int) ≤ ((n % 8 : Nat) : Int) by omega), e3, rdI, Int.toNat_natCast, or_byteR _ _ hxb.1 hxb.2 hr8]
      refine BBytes_l0 bs hl d (n + 1) _ (by omega) (by rw [List.length_set]; exact hx) (fun y hy => ?_) (fun j => ?_)
      · rcases List.mem_or_eq_of_mem_set hy with h | h
        · exact hb y h
        · have h1 : (xs.getD (n / 8) 0).toNat ||| 2 ^ (7 - n % 8) < 2 ^ 8 := Nat.or_lt_two_pow (by omega) (Nat.pow_lt_pow_right (by decide) (by omega))
          have h2 : (2 : Nat) ^ 8 = 256 := by decide
          omega
      · rw [bitAt_set xs n j hb (by omega), hbit j]
        by_cases hjk : j = n
        · subst hjk
          rw [hc]; simp
        · have : decide (j < n + 1) = decide (j < n) := by
            apply decide_eq_decide.2
            omega
          rw [this, decide_eq_false hjk, Bool.or_false]
    · simp only [if_neg hc]
      refine BBytes_l0 bs hl d (n + 1) xs (by omega) hx hb (fun j => ?_)
      rw [hbit j]
      by_cases hjk : j = n
      · subst hjk
        have : bs.getD j false = false := by simpa using hc
        rw [this]; simp
      · have : decide (j < n + 1) = decide (j < n) := by
          apply decide_eq_decide.2
          omega
        rw [this]
theorem BBytes_ev (bs : List Bool) (hl : bs.length ≤ 100000000) : Ev (fun k => manometerref01_Bytes.f k bs) (packI bs) := by
  unfold manometerref01_Bytes.f
  have e : wrap64 (Int.tdiv (wrap64 ((bs.length : Int) + 7)) 8) = (((bs.length + 7) / 8 : Nat) : Int) := by
    rw [show wrap64 ((bs.length : Int) + 7) = ((bs.length + 7 : Nat) : Int) from wn (by omega) (by omega), Int.tdiv_eq_ediv_of_nonneg (by omega)]
    exact wn (by omega) (by omega)
  simp only [e, if_pos (show (0 : Int) ≤ (((bs.length + 7) / 8 : Nat) : Int) by omega), Int.toNat_natCast, if_pos (show (bs.length + 7) / 8 ≤ 281474976710656 by omega)]
  refine BBytes_l0 bs hl bs.length 0 _ (by omega) (by simp) (fun x hx => ?_) (fun j => ?_)
  · have := (List.mem_replicate.1 hx).2
    omega
  · unfold bitAt
    rw [decide_eq_false (by omega), Bool.false_and, List.getD_eq_getElem?_getD, List.getElem?_replicate]
    split <;> simp
theorem be8_length (v : Int) : (be8 v).length = 8 := by simp [be8]
theorem byt_be8 (v : Int) : Byts (be8 v) := by
  intro x hx
  obtain ⟨i, _, rfl⟩ := List.mem_map.1 hx
  omega
theorem bitAt_be8 (v i : Nat) (hi : i < 64) : bitAt (be8 (v : Int)) i = v.testBit (63 - i) := by
  unfold bitAt be8
  rw [List.getD_eq_getElem?_getD, List.getElem?_map, List.getElem?_range (show i / 8 < 8 by omega)]
  show (((v : Int) / 2 ^ (56 - 8 * (i / 8)) % 256).toNat).testBit (7 - i % 8) = _
  have e : (v : Int) / 2 ^ (56 - 8 * (i / 8)) % 256 = ((v / 2 ^ (56 - 8 * (i / 8)) % 2 ^ 8 : Nat) : Int) := by simp
  rw [e, Int.toNat_natCast, Nat.testBit_mod_two_pow, Nat.testBit_div_two_pow, decide_eq_true (by omega), Bool.true_and]
  congr 1
  omega
theorem be8_pack (v : Nat) : packI (nb v 64) = be8 (v : Int) := by
  have hl : (packI (nb v 64)).length = 8 := by rw [packL_length, nb_length]
  apply bits_ext
  · rw [hl, be8_length]
  · exact byts_packI _
  · exact byt_be8 _
  · intro i hi
    rw [hl] at hi
    rw [bitAt_pack (nb v 64).length (nb v 64) i (Nat.le_refl _) (by rw [nb_length]; omega), bitAt_be8 v i (by omega), List.getD_eq_getElem?_getD, nb_get v 64 i (by omega)]
    rfl
theorem Big_ev (v : Nat) (hv : v < 18446744073709551616) : Ev (fun k => manometerref01_Big.f k (v : Int)) (be8 (v : Int)) := by
  unfold manometerref01_Big.f
  have h1 := BPut_ev [] v 64 hv (by omega) (by simp)
  rw [List.nil_append] at h1
  refine Ev.bind h1 ?_
  have h2 := BBytes_ev (nb v 64) (by rw [nb_length]; omega)
  rw [be8_pack] at h2
  exact Ev.bind h2 (Ev.now _)
theorem zigI_bd (n : Int) (h0 : -9223372036854775808 ≤ n) (h1 : n ≤ 9223372036854775807) : 0 ≤ zigI n ∧ zigI n < 18446744073709551616 := by unfold zigI; split <;> omega
theorem Zig_eq (n : Int) (h0 : -9223372036854775808 ≤ n) (h1 : n ≤ 9223372036854775807) : bits_Zig.f n = some (zigI n) ∧ manometerref01_Zig.f n = some (zigI n) := by
  constructor
  · unfold bits_Zig.f
    have e : wrap64 (n * 2) = IntKind.i64.wrap (n * 2) := by rw [IntKind.wrap_i64]; unfold wrap64; omega
    rw [e, zig_bits n h0 h1]
  · unfold manometerref01_Zig.f zigI
    split
    · rename_i h
      have e1 : wrap64 (n + 1) = n + 1 := w64 (by omega) (by omega)
      have e2 : wrap64 (-(n + 1)) = -(n + 1) := w64 (by omega) (by omega)
      rw [e1, e2]
      simp only [IntKind.wrap_u64]
      congr 1
      omega
    · simp only [IntKind.wrap_u64]
      congr 1
      omega
def vI (n : Int) : List Int := Bq.ints (uv (zigI n).toNat)
theorem vI_len (n : Int) (h0 : -9223372036854775808 ≤ n) (h1 : n ≤ 9223372036854775807) : (vI n).length ≤ 10 := by
  unfold vI
  rw [Bq.ints_length]
  have := zigI_bd n h0 h1
  exact uv_len10 (zigI n).toNat (by omega)
theorem PutVarint_ev (n : Int) (h0 : -9223372036854775808 ≤ n) (h1 : n ≤ 9223372036854775807) : Ev (fun k => bits_PutVarint.f k n) (vI n) ∧ Ev (fun k => manometerref01_PutVarint.f k n) (vI n) := by
  obtain ⟨e1, e2⟩ := Zig_eq n h0 h1
  have hz := zigI_bd n h0 h1
  obtain ⟨z, hz2⟩ := Int.eq_ofNat_of_zero_le hz.1
  obtain ⟨p1, p2⟩ := PutUvarint_ev z (by omega)
  unfold bits_PutVarint.f manometerref01_PutVarint.f vI
  rw [e1, e2, hz2]
  simp only [Option.bind_some, Int.toNat_natCast]
  exact ⟨Ev.bind p1 (Ev.now _), Ev.bind p2 (Ev.now _)⟩
end Go.Proofs.YtdckhaejhfkkbaaDoor.Pu
