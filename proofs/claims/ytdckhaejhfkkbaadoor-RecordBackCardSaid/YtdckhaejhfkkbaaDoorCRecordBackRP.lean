import Derived.Test.YtdckhaejhfkkbaaDoorCRecordBackWGuard
import Derived.Test.YtdckhaejhfkkbaaDoorCRecordBackPRTx0
import Derived.Test.YtdckhaejhfkkbaaDoorCRecordBackPRTx8
import Derived.Test.YtdckhaejhfkkbaaDoorCRecordBackPRTx16
import Derived.Test.YtdckhaejhfkkbaaDoorCRecordBackPRTx17
import Derived.Test.YtdckhaejhfkkbaaDoorCRecordBackO2
import Derived.Test.YtdckhaejhfkkbaaDoorCRecordBackPRTx2
import Derived.Test.YtdckhaejhfkkbaaDoorCRecordBackY
import Derived.Test.YtdckhaejhfkkbaaDoorCRecordBackRL
import Derived.Test.YtdckhaejhfkkbaaDoorCRecordBackPRTx6
import Derived.Test.YtdckhaejhfkkbaaDoorCRecordBackPRTx4
import Derived.Test.YtdckhaejhfkkbaaDoorCRecordBackPRTx14
import Derived.Test.YtdckhaejhfkkbaaDoorCRecordBackPRTx5
import Derived.Test.YtdckhaejhfkkbaaDoorCRecordBackPRTx9
import Derived.Test.YtdckhaejhfkkbaaDoorCRecordBackPRTx21
namespace Go.Proofs.YtdckhaejhfkkbaaDoor.Bq
end Go.Proofs.YtdckhaejhfkkbaaDoor.Bq
section
namespace Go.Proofs.YtdckhaejhfkkbaaDoor
open Bq
set_option linter.unusedVariables false
theorem nb_get (n w i : Nat) (h : i < w) : (nb n w)[i]? = some (n.testBit (w - 1 - i)) := by
  unfold nb
  rw [List.getElem?_map, List.getElem?_range h]
  rfl
theorem bnum_testBit (l : List Bool) (i : Nat) (h : i < l.length) : (bnum l).testBit (l.length - 1 - i) = l.getD i false := by
  have h1 := nb_get (bnum l) l.length i h
  rw [nb_bnum] at h1
  rw [List.getD_eq_getElem?_getD, h1]
  rfl
theorem byte8_testBit (l : List Bool) (h8 : l.length ≤ 8) (i : Nat) (h : i < 8) : (byte8 l).testBit (7 - i) = l.getD i false := by
  unfold byte8
  rw [Nat.testBit_mul_two_pow]
  by_cases hi : i < l.length
  · rw [← bnum_testBit l i hi, decide_eq_true (by omega), Bool.true_and]
    congr 1
    omega
  · rw [decide_eq_false (by omega), Bool.false_and, List.getD_eq_getElem?_getD, List.getElem?_eq_none (by omega)]
    rfl
theorem getD_drop8 (l : List Bool) (i : Nat) (h : 8 ≤ i) : (l.drop 8).getD (i - 8) false = l.getD i false := by
  rw [List.getD_eq_getElem?_getD, List.getD_eq_getElem?_getD, List.getElem?_drop]
  congr 2
  omega
theorem bitAt_pack : ∀ (m : Nat) (l : List Bool) (i : Nat), l.length ≤ m → i < 8 * ((l.length + 7) / 8) → bitAt (packI l) i = l.getD i false := by
  intro m
  induction m with
  | zero =>
    intro l i hm hi
    have : l.length = 0 := by omega
    omega
  | succ m ih =>
    intro l i hm hi
    have hl : l ≠ [] := by
      intro h
      subst h
      simp at hi
    have hpos : 0 < l.length := List.length_pos_iff.2 hl
    unfold packI
    rw [pack_cons l hl]
    by_cases h8 : i < 8
    · unfold bitAt
      have e1 : i / 8 = 0 := by omega
      have e2 : i % 8 = i := by omega
      rw [e1, e2]
      show ((byte8 (l.take 8) : Nat) : Int).toNat.testBit (7 - i) = _
      rw [Int.toNat_natCast, byte8_testBit _ (by rw [List.length_take]; omega) i h8]
      rw [List.getD_eq_getElem?_getD, List.getD_eq_getElem?_getD, List.getElem?_take]
      simp [h8]
    · have h1 := ih (l.drop 8) (i - 8) (by rw [List.length_drop]; omega) (by rw [List.length_drop]; omega)
      rw [getD_drop8 l i (by omega)] at h1
      rw [← h1]
      unfold bitAt
      have e1 : i / 8 = (i - 8) / 8 + 1 := by omega
      have e2 : (i - 8) % 8 = i % 8 := by omega
      rw [e1, e2]
      rfl
theorem bitsOf_pack (l : List Bool) : bitsOf (packI l) l.length = l := by
  apply List.ext_getElem
  · rw [bitsOf_length]
  · intro i h1 h2
    rw [bitsOf_get _ _ _ h2, bitAt_pack l.length l i (Nat.le_refl _) (by omega), List.getD_eq_getElem?_getD, List.getElem?_eq_getElem h2]
    rfl
theorem byte_ext {x y : Int} (hx0 : 0 ≤ x) (hx : x < 256) (hy0 : 0 ≤ y) (hy : y < 256) (h : ∀ i, i < 8 → x.toNat.testBit (7 - i) = y.toNat.testBit (7 - i)) : x = y := by
  have e : x.toNat = y.toNat := by
    apply Nat.eq_of_testBit_eq
    intro j
    by_cases hj : j < 8
    · have := h (7 - j) (by omega)
      have e : 7 - (7 - j) = j := by omega
      rw [e] at this
      exact this
    · have hp : (256 : Nat) ≤ 2 ^ j := by
        have : (2 : Nat) ^ 8 ≤ 2 ^ j := Nat.pow_le_pow_right (by decide) (by omega)
        exact this
      rw [Nat.testBit_lt_two_pow (by omega), Nat.testBit_lt_two_pow (by omega)]
  omega
theorem bits_ext (xs ys : List Int) (hl : xs.length = ys.length) (hx : Byts xs) (hy : Byts ys) (h : ∀ i, i < 8 * xs.length → bitAt xs i = bitAt ys i) : xs = ys := by
  apply List.ext_getElem hl
  intro j h1 h2
  have hxj := hx _ (List.getElem_mem h1)
  have hyj := hy _ (List.getElem_mem h2)
  apply byte_ext hxj.1 hxj.2 hyj.1 hyj.2
  intro i hi
  have h3 := h (8 * j + i) (by omega)
  unfold bitAt at h3
  have e1 : (8 * j + i) / 8 = j := by omega
  have e2 : (8 * j + i) % 8 = i := by omega
  rw [e1, e2, List.getD_eq_getElem?_getD, List.getD_eq_getElem?_getD, List.getElem?_eq_getElem h1, List.getElem?_eq_getElem h2] at h3
  exact h3
theorem byts_packI (l : List Bool) : Byts (packI l) := by
  intro x hx
  obtain ⟨y, hy, rfl⟩ := List.mem_map.1 hx
  have := pack_lt l y hy
  omega
theorem bitAt_set (xs : List Int) (i j : Nat) (hx : Byts xs) (hi : i < 8 * xs.length) :
    bitAt (xs.set (i / 8) ((((xs.getD (i / 8) 0).toNat ||| 2 ^ (7 - i % 8)) : Nat) : Int)) j = (bitAt xs j || decide (j = i)) := by
  have hq : i / 8 < xs.length := by omega
  unfold bitAt
  by_cases hj : j / 8 = i / 8
  · rw [hj, List.getD_eq_getElem?_getD (l := xs.set _ _), List.getElem?_set_self hq]
    show ((((xs.getD (i / 8) 0).toNat ||| 2 ^ (7 - i % 8) : Nat) : Int)).toNat.testBit (7 - j % 8) = _
    rw [Int.toNat_natCast, Nat.testBit_or, Nat.testBit_two_pow]
    congr 1
    have : (7 - i % 8 = 7 - j % 8) = (j = i) := by
      apply propext
      constructor
      · intro h; omega
      · intro h; subst h; rfl
    simp only [this]
  · rw [List.getD_eq_getElem?_getD (l := xs.set _ _), List.getElem?_set_ne (fun h => hj h.symm), decide_eq_false (fun h => hj (by rw [h])), Bool.or_false, List.getD_eq_getElem?_getD]
end Go.Proofs.YtdckhaejhfkkbaaDoor
end
section
namespace Go.Proofs.YtdckhaejhfkkbaaDoor.PRT
open Go.RowKit Go.Proofs.YtdckhaejhfkkbaaDoorW.PrintWords Go.Proofs.YtdckhaejhfkkbaaDoorW.PrintLast Go.Proofs.YtdckhaejhfkkbaaDoorW.PrintMore
attribute [local go_sem] max2_int min2_int max_two min_two max_three min_three max_four min_four
set_option linter.unusedVariables false
set_option linter.unusedSimpArgs false
def manometerref01_Big.f (k : Nat) (a0 : Int) : Option (List Int) := (manometerref01_Put.f k ([] : List Bool) a0 64).bind fun t495 => ((manometerref01_Bytes.f k t495).bind fun t498 => (some t498))
def manometerref13_Put.l0 : Nat → List Int → List (S45) → Int → Int → Int → Int → Int → Int → Option (List Int × Int)
 | 0, _, _, _, _, _, _, _, _ => none
 | k + 1, x5, x49, x50, x51, x529000, x529001, x529002, x529003 => if x51 < x50 then (if 0 ≤ x51 then (if x51 < (x49.length : Int) then ((manometerref01_PutVarint.f k (wrap64 ((wrap64 ((rd_T45 x49 x51).f0)) - (wrap64 (x529000))))).bind fun t531 => ((manometerref01_PutVarint.f k (wrap64 (IntKind.u64.wrap ((IntKind.u64.wrap ((rd_T45 x49 x51).f1.f0)) - (IntKind.u64.wrap (x529001)))))).bind fun t534 => ((manometerref01_PutVarint.f k (wrap64 (IntKind.u64.wrap (((rd_T45 x49 x51).f1.f2) - x529003)))).bind fun t537 => ((manometerref01_Big.f k ((rd_T45 x49 x51).f1.f1)).bind fun t540 => ((manometerref01_Join.f k (([x5, t531, t534, t537, t540] : List (List Int)))).bind fun t546 => (manometerref13_Put.l0 k t546 x49 x50 (wrap64 (x51 + 1)) ((rd_T45 x49 x51).f0) ((rd_T45 x49 x51).f1.f0) ((rd_T45 x49 x51).f1.f1) ((rd_T45 x49 x51).f1.f2))))))) else (none)) else (none)) else (some (x5, 0))
def manometerref13_Put.f (k : Nat) (a0_0 : Int) (a0_1 : Int) (l0_2 : List (S52)) (l0_3 : List (S45)) : Option (List Int × Int) := (manometerref13_Check.f k a0_0 a0_1 l0_2 l0_3).bind fun t502 => (if t502 = 0 then ((some (([(a0_0) % 256] : List Int) : List Int)).bind fun y503 => (if a0_0 = 1 then ((manometerref05_Put.f k l0_2).bind fun bt506 => ((manometerref01_PutUvarint.f k (IntKind.u64.wrap (a0_1))).bind fun t510 => ((manometerref01_Join.f k (([y503, t510, bt506.1] : List (List Int)))).bind fun t516 => (some (t516, 0))))) else ((manometerref01_PutUvarint.f k (IntKind.u64.wrap ((l0_3.length : Int)))).bind fun t519 => ((manometerref01_Join.f k (([y503, t519] : List (List Int)))).bind fun t525 => (manometerref13_Put.l0 k t525 l0_3 (l0_3.length : Int) 0 0 0 0 0))))) else (some (([] : List Int), t502)))
end Go.Proofs.YtdckhaejhfkkbaaDoor.PRT
end
section
namespace Go.Proofs.YtdckhaejhfkkbaaDoor.Pu
open Go Go.RowKit Go.Proofs.YtdckhaejhfkkbaaDoor Go.Proofs.YtdckhaejhfkkbaaDoor.PRT Go.Proofs.YtdckhaejhfkkbaaDoorW.PrintWords Go.Proofs.YtdckhaejhfkkbaaDoorW.PrintLast Go.Proofs.YtdckhaejhfkkbaaDoorW.PrintMore Bq
set_option linter.unusedVariables false
set_option linter.unusedSimpArgs false
theorem bitR_eq (n i : Nat) : (((n : Int) / 2 ^ i) % 2 == 1) = n.testBit i := by
  rw [Nat.testBit_eq_decide_div_mod_eq]
  have e : ((n : Int) / 2 ^ i) % 2 = ((n / 2 ^ i % 2 : Nat) : Int) := by simp
  rw [e]
  by_cases h : n / 2 ^ i % 2 = 1
  · rw [h]; rfl
  · have : n / 2 ^ i % 2 = 0 := by omega
    rw [this]; rfl
theorem shr_bit (n i : Nat) (hi : i < 64) (hn : n < 18446744073709551616) : (bits .and .u64 (shr .u64 (n : Int) (i : Int)) 1 == 1) = n.testBit i := by
  have hs : shr .u64 (n : Int) (i : Int) = ((n / 2 ^ i : Nat) : Int) := by
    unfold shr
    rw [Int.toNat_natCast, Nat.min_eq_left (by show i ≤ 64; omega)]
    simp
  have hd : n / 2 ^ i < 18446744073709551616 := Nat.lt_of_le_of_lt (Nat.div_le_self _ _) hn
  have h := bitR_eq n i
  rw [← h, hs]
  have e : ((n : Int) / 2 ^ i) = ((n / 2 ^ i : Nat) : Int) := by simp
  rw [e]
  generalize n / 2 ^ i = q at hd
  rw [and_one _ (by omega) (by omega)]
theorem BPut_l0 (n : Nat) (hn : n < 18446744073709551616) : ∀ (j : Nat) (R : List Bool), j ≤ 64 → R.length + j ≤ 1000000000 → Ev (fun k => manometerref01_Put.l0 k R (n : Int) ((j : Int) - 1)) (R ++ nb n j)
  | 0, R, hj, hl => by
    refine Ev.step (f := _) (fun k => by simp only [manometerref01_Put.l0]; rfl) ?_
    simp only [if_neg (show ¬ ((0 : Nat) : Int) - 1 ≥ 0 by omega)]
    rw [nb_zero, List.append_nil]
    exact Ev.now _
  | j + 1, R, hj, hl => by
    refine Ev.step (f := _) (fun k => by simp only [manometerref01_Put.l0]; rfl) ?_
    have e : ((j + 1 : Nat) : Int) - 1 = (j : Int) := by omega
    have ew : IntKind.u64.wrap (j : Int) = (j : Int) := by rw [IntKind.wrap_u64]; omega
    have e2 : wrap64 ((j : Int) - 1) = (j : Int) - 1 := w64 (by omega) (by omega)
    simp only [e, if_pos (show (j : Int) ≥ 0 by omega), ew, if_pos (show (0 : Int) ≤ (j : Int) by omega), if_pos (show R.length < 140737488355328 by omega), shr_bit n j (by omega) hn, e2]
    have := BPut_l0 n hn j (R ++ [n.testBit j]) (by omega) (by rw [List.length_append, List.length_singleton]; omega)
    rw [List.append_assoc] at this
    rw [nb_succ]
    exact this
theorem BPut_ev (R : List Bool) (n j : Nat) (hn : n < 18446744073709551616) (hj : j ≤ 64) (hl : R.length + j ≤ 1000000000) : Ev (fun k => manometerref01_Put.f k R (n : Int) (j : Int)) (R ++ nb n j) := by
  unfold manometerref01_Put.f
  rw [show wrap64 ((j : Int) - 1) = (j : Int) - 1 from w64 (by omega) (by omega)]
  exact BPut_l0 n hn j R hj hl
theorem or_byteR (x : Int) (r : Nat) (h0 : 0 ≤ x) (h1 : x < 256) (hr : r < 8) : bits .or .u8 x (128 / 2 ^ r) = ((x.toNat ||| 2 ^ (7 - r) : Nat) : Int) := by
  obtain ⟨y, rfl⟩ := Int.eq_ofNat_of_zero_le h0
  have e : (128 : Int) / 2 ^ r = ((2 ^ (7 - r) : Nat) : Int) := by
    have : ∀ r : Fin 8, (128 : Int) / 2 ^ r.val = ((2 ^ (7 - r.val) : Nat) : Int) := by decide
    exact this ⟨r, hr⟩
  have e2 : 2 ^ (7 - r) < 256 := Nat.lt_of_lt_of_le (Nat.pow_lt_pow_right (by decide) (show 7 - r < 8 by omega)) (by decide)
  rw [e, (bits_nat .u8 8 (by decide) wraps_u8 y (2 ^ (7 - r)) (by omega) (by omega)).2, Int.toNat_natCast]
theorem packL_length (l : List Bool) : (packI l).length = (l.length + 7) / 8 := by
  unfold packI
  rw [Bq.ints_length, pack_length]
theorem BBytes_l0 (bs : List Bool) (hl : bs.length ≤ 100000000) : ∀ (d n : Nat) (xs : List Int), n + d = bs.length → xs.length = (bs.length + 7) / 8 → Byts xs → (∀ j, bitAt xs j = (decide (j < n) && bs.getD j false)) →
    Ev (fun k => manometerref01_Bytes.l0 k xs bs (bs.length : Int) (n : Int)) (packI bs)
  | 0, n, xs, hd, hx, hb, hbit => by
    refine Ev.step (f := _) (fun k => by simp only [manometerref01_Bytes.l0]; rfl) ?_
    simp only [if_neg (show ¬ (n : Int) < (bs.length : Int) by omega)]
    have hX : packI bs = xs := by
      apply bits_ext
      · rw [packL_length, hx]
      · exact byts_packI bs
      · exact hb
      · intro j hj
        rw [packL_length] at hj
        rw [bitAt_pack bs.length bs j (Nat.le_refl _) hj, hbit j]
        by_cases hjl : j < bs.length
        · rw [decide_eq_true (show j < n by omega), Bool.true_and]
        · rw [decide_eq_false (show ¬ j < n by omega), Bool.false_and, List.getD_eq_getElem?_getD, List.getElem?_eq_none (by omega)]
          rfl
    rw [hX]
    exact Ev.now _
  | d + 1, n, xs, hd, hx, hb, hbit => by
    refine Ev.step (f := _) (fun k => by simp only [manometerref01_Bytes.l0]; rfl) ?_
    have hrd : rdOf false bs (n : Int) = bs.getD n false := by unfold rdOf; rw [Int.toNat_natCast]
    simp only [if_pos (show (n : Int) < (bs.length : Int) by omega), if_pos (show (0 : Int) ≤ (n : Int) by omega), hrd, w1 n (by omega)]
    by_cases hc : bs.getD n false = true
    · have hq : n / 8 < xs.length := by omega
      have e1 : wrap64 (Int.tdiv (n : Int) 8) = ((n / 8 : Nat) : Int) := by
        rw [Int.tdiv_eq_ediv_of_nonneg (by omega)]
        exact wn (by omega) (by omega)
      have e2 : IntKind.u64.wrap (Int.tmod (n : Int) 8) = ((n % 8 : Nat) : Int) := by
        rw [Int.tmod_eq_emod_of_nonneg (by omega), IntKind.wrap_u64]
        omega
      have hr8 : n % 8 < 8 := Nat.mod_lt _ (by decide)
      have e3 : shr .u8 128 ((n % 8 : Nat) : Int) = 128 / 2 ^ (n % 8) := by
        unfold shr
        rw [Int.toNat_natCast, Nat.min_eq_left (by show n % 8 ≤ 8; omega)]
      have hxb := byt_get hb (n / 8) hq
      simp only [if_pos hc, e1, e2, if_pos (show (0 : Int) ≤ ((n / 8 : Nat) : Int) by omega), if_pos (show ((n / 8 : Nat) : Int) < (xs.length : Int) by omega), if_pos (show (0 : Int) ≤ ((n % 8 : Nat) : Int) by omega), e3, rdI, Int.toNat_natCast, or_byteR _ _ hxb.1 hxb.2 hr8]
      refine BBytes_l0 bs hl d (n + 1) _ (by omega) (by rw [List.length_set]; exact hx) (fun y hy => ?_) (fun j => ?_)
      · rcases List.mem_or_eq_of_mem_set hy with h | h
        · exact hb y h
        · have h1 : (xs.getD (n / 8) 0).toNat ||| 2 ^ (7 - n % 8) < 2 ^ 8 := Nat.or_lt_two_pow (by omega) (Nat.pow_lt_pow_right (by decide) (by omega))
          have h2 : (2 : Nat) ^ 8 = 256 := by decide
          omega
      · rw [bitAt_set xs n j hb (by omega), hbit j]
        by_cases hjk : j = n
        · subst hjk
          rw [hc]; simp
        · have : decide (j < n + 1) = decide (j < n) := by
            apply decide_eq_decide.2
            omega
          rw [this, decide_eq_false hjk, Bool.or_false]
    · simp only [if_neg hc]
      refine BBytes_l0 bs hl d (n + 1) xs (by omega) hx hb (fun j => ?_)
      rw [hbit j]
      by_cases hjk : j = n
      · subst hjk
        have : bs.getD j false = false := by simpa using hc
        rw [this]; simp
      · have : decide (j < n + 1) = decide (j < n) := by
          apply decide_eq_decide.2
          omega
        rw [this]
theorem BBytes_ev (bs : List Bool) (hl : bs.length ≤ 100000000) : Ev (fun k => manometerref01_Bytes.f k bs) (packI bs) := by
  unfold manometerref01_Bytes.f
  have e : wrap64 (Int.tdiv (wrap64 ((bs.length : Int) + 7)) 8) = (((bs.length + 7) / 8 : Nat) : Int) := by
    rw [show wrap64 ((bs.length : Int) + 7) = ((bs.length + 7 : Nat) : Int) from wn (by omega) (by omega), Int.tdiv_eq_ediv_of_nonneg (by omega)]
    exact wn (by omega) (by omega)
  simp only [e, if_pos (show (0 : Int) ≤ (((bs.length + 7) / 8 : Nat) : Int) by omega), Int.toNat_natCast, if_pos (show (bs.length + 7) / 8 ≤ 281474976710656 by omega)]
  refine BBytes_l0 bs hl bs.length 0 _ (by omega) (by simp) (fun x hx => ?_) (fun j => ?_)
  · have := (List.mem_replicate.1 hx).2
    omega
  · unfold bitAt
    rw [decide_eq_false (by omega), Bool.false_and, List.getD_eq_getElem?_getD, List.getElem?_replicate]
    split <;> simp
theorem be8_length (v : Int) : (be8 v).length = 8 := by simp [be8]
theorem byt_be8 (v : Int) : Byts (be8 v) := by
  intro x hx
  obtain ⟨i, _, rfl⟩ := List.mem_map.1 hx
  omega
theorem bitAt_be8 (v i : Nat) (hi : i < 64) : bitAt (be8 (v : Int)) i = v.testBit (63 - i) := by
  unfold bitAt be8
  rw [List.getD_eq_getElem?_getD, List.getElem?_map, List.getElem?_range (show i / 8 < 8 by omega)]
  show (((v : Int) / 2 ^ (56 - 8 * (i / 8)) % 256).toNat).testBit (7 - i % 8) = _
  have e : (v : Int) / 2 ^ (56 - 8 * (i / 8)) % 256 = ((v / 2 ^ (56 - 8 * (i / 8)) % 2 ^ 8 : Nat) : Int) := by simp
  rw [e, Int.toNat_natCast, Nat.testBit_mod_two_pow, Nat.testBit_div_two_pow, decide_eq_true (by omega), Bool.true_and]
  congr 1
  omega
theorem be8_pack (v : Nat) : packI (nb v 64) = be8 (v : Int) := by
  have hl : (packI (nb v 64)).length = 8 := by rw [packL_length, nb_length]
  apply bits_ext
  · rw [hl, be8_length]
  · exact byts_packI _
  · exact byt_be8 _
  · intro i hi
    rw [hl] at hi
    rw [bitAt_pack (nb v 64).length (nb v 64) i (Nat.le_refl _) (by rw [nb_length]; omega), bitAt_be8 v i (by omega), List.getD_eq_getElem?_getD, nb_get v 64 i (by omega)]
    rfl
theorem Big_ev (v : Nat) (hv : v < 18446744073709551616) : Ev (fun k => manometerref01_Big.f k (v : Int)) (be8 (v : Int)) := by
  unfold manometerref01_Big.f
  have h1 := BPut_ev [] v 64 hv (by omega) (by simp)
  rw [List.nil_append] at h1
  refine Ev.bind h1 ?_
  have h2 := BBytes_ev (nb v 64) (by rw [nb_length]; omega)
  rw [be8_pack] at h2
  exact Ev.bind h2 (Ev.now _)
theorem zigI_bd (n : Int) (h0 : -9223372036854775808 ≤ n) (h1 : n ≤ 9223372036854775807) : 0 ≤ zigI n ∧ zigI n < 18446744073709551616 := by unfold zigI; split <;> omega
theorem Zig_eq (n : Int) (h0 : -9223372036854775808 ≤ n) (h1 : n ≤ 9223372036854775807) : bits_Zig.f n = some (zigI n) ∧ manometerref01_Zig.f n = some (zigI n) := by
  constructor
  · unfold bits_Zig.f
    have e : wrap64 (n * 2) = IntKind.i64.wrap (n * 2) := by rw [IntKind.wrap_i64]; unfold wrap64; omega
    rw [e, zig_bits n h0 h1]
  · unfold manometerref01_Zig.f zigI
    split
    · rename_i h
      have e1 : wrap64 (n + 1) = n + 1 := w64 (by omega) (by omega)
      have e2 : wrap64 (-(n + 1)) = -(n + 1) := w64 (by omega) (by omega)
      rw [e1, e2]
      simp only [IntKind.wrap_u64]
      congr 1
      omega
    · simp only [IntKind.wrap_u64]
      congr 1
      omega
def vI (n : Int) : List Int := Bq.ints (uv (zigI n).toNat)
theorem vI_len (n : Int) (h0 : -9223372036854775808 ≤ n) (h1 : n ≤ 9223372036854775807) : (vI n).length ≤ 10 := by
  unfold vI
  rw [Bq.ints_length]
  have := zigI_bd n h0 h1
  exact uv_len10 (zigI n).toNat (by omega)
theorem PutVarint_ev (n : Int) (h0 : -9223372036854775808 ≤ n) (h1 : n ≤ 9223372036854775807) : Ev (fun k => bits_PutVarint.f k n) (vI n) ∧ Ev (fun k => manometerref01_PutVarint.f k n) (vI n) := by
  obtain ⟨e1, e2⟩ := Zig_eq n h0 h1
  have hz := zigI_bd n h0 h1
  obtain ⟨z, hz2⟩ := Int.eq_ofNat_of_zero_le hz.1
  obtain ⟨p1, p2⟩ := PutUvarint_ev z (by omega)
  unfold bits_PutVarint.f manometerref01_PutVarint.f vI
  rw [e1, e2, hz2]
  simp only [Option.bind_some, Int.toNat_natCast]
  exact ⟨Ev.bind p1 (Ev.now _), Ev.bind p2 (Ev.now _)⟩
end Go.Proofs.YtdckhaejhfkkbaaDoor.Pu
end
section
namespace Go.Proofs.YtdckhaejhfkkbaaDoor.Pu
open Go Go.RowKit Go.Proofs.YtdckhaejhfkkbaaDoor Go.Proofs.YtdckhaejhfkkbaaDoor.PRT Go.Proofs.YtdckhaejhfkkbaaDoorW.PrintWords Go.Proofs.YtdckhaejhfkkbaaDoorW.PrintLast Go.Proofs.YtdckhaejhfkkbaaDoorW.PrintMore Bq
set_option linter.unusedVariables false
set_option linter.unusedSimpArgs false
def varG (xs : List Int) : Int × Int × Int := (zagI (uget xs).1, (uget xs).2.1, (uget xs).2.2)
theorem varG_cases (xs : List Int) (hb : Byts xs) : (∃ (v : Int) (n : Nat), n ≤ xs.length ∧ varG xs = (v, (n : Int), 0)) ∨ (∃ e : Int, ¬ e = 0 ∧ varG xs = (0, 0, e)) := by
  rcases uget_cases xs hb with ⟨n, h, hl, _, _⟩ | ⟨e, he, h⟩
  · exact .inl ⟨zagI n, (uv n).length, hl, by unfold varG; rw [h]⟩
  · exact .inr ⟨e, he, by unfold varG; rw [h]; rfl⟩
theorem Zag_eq (n : Nat) (h : n < 18446744073709551616) : bits_Zag.f (n : Int) = some (zagI n) ∧ manometerref01_Zag.f (n : Int) = some (zagI n) := by
  constructor
  · unfold bits_Zag.f
    rw [and_one _ (by omega) (by omega), w64 (x := (n : Int) / 2) (by omega) (by omega), w64 (x := (n : Int) % 2) (by omega) (by omega), w64 (x := -((n : Int) % 2)) (by omega) (by omega), zag_bits _ (by omega) (by omega)]
  · unfold manometerref01_Zag.f zagI
    rw [Int.tmod_eq_emod_of_nonneg (by omega), Int.tdiv_eq_ediv_of_nonneg (by omega)]
    have e : IntKind.u64.wrap ((n : Int) / 2) = (n : Int) / 2 := by rw [IntKind.wrap_u64]; omega
    rw [e, w64 (x := (n : Int) / 2) (by omega) (by omega), w64 (x := -((n : Int) / 2)) (by omega) (by omega), w64 (x := -((n : Int) / 2) - 1) (by omega) (by omega)]
    by_cases h1 : (n : Int) % 2 = 1
    · rw [if_pos h1, if_pos h1]
      congr 1
      omega
    · rw [if_neg h1, if_neg h1]
theorem Varint_ev (b : List Int) (hb : Byts b) (hs : b.length ≤ 1000000000000) : Ev (fun k => bits_Varint.f k b) (varG b) ∧ Ev (fun k => manometerref01_Varint.f k b) (varG b) := by
  obtain ⟨u1, u2⟩ := Uvarint_ev b hb hs
  unfold bits_Varint.f manometerref01_Varint.f varG
  rcases uget_cases b hb with ⟨n, h, hl, _, hn⟩ | ⟨e, he, h⟩
  · obtain ⟨z1, z2⟩ := Zag_eq n hn
    rw [h] at u1 u2 ⊢
    constructor
    · refine Ev.bind u1 ?_
      simp only [z1, Option.bind_some]
      exact Ev.now _
    · refine Ev.bind u2 ?_
      simp only [if_pos trivial, z2, Option.bind_some]
      exact Ev.now _
  · obtain ⟨z1, z2⟩ := Zag_eq 0 (by decide)
    have z1' : bits_Zag.f 0 = some (zagI 0) := z1
    rw [h] at u1 u2 ⊢
    constructor
    · refine Ev.bind u1 ?_
      simp only [z1', Option.bind_some]
      exact Ev.now _
    · refine Ev.bind u2 ?_
      simp only [if_neg he]
      exact Ev.now _
theorem bitsOf_snoc8 (l : List Int) (x : Int) : bitsOf (l ++ [x]) (8 * (l.length + 1)) = bitsOf l (8 * l.length) ++ nb x.toNat 8 := by
  unfold bitsOf nb
  rw [show 8 * (l.length + 1) = 8 * l.length + 8 by omega, List.range_add, List.map_append, List.map_map]
  congr 1
  · apply List.map_congr_left
    intro i hi
    have hi := List.mem_range.1 hi
    unfold bitAt
    rw [List.getD_eq_getElem?_getD, List.getD_eq_getElem?_getD, List.getElem?_append_left (by omega)]
  · apply List.map_congr_left
    intro i hi
    have hi := List.mem_range.1 hi
    show bitAt (l ++ [x]) (8 * l.length + i) = _
    unfold bitAt
    rw [show (8 * l.length + i) / 8 = l.length by omega, show (8 * l.length + i) % 8 = i by omega, List.getD_eq_getElem?_getD, List.getElem?_append_right (Nat.le_refl _), Nat.sub_self]
    rfl
theorem v8_num (N : Nat) (x : Int) (hN : N < 72057594037927936) (h0 : 0 ≤ x) (h1 : x < 256) : v8 (N : Int) x = ((N * 256 + x.toNat : Nat) : Int) := by
  obtain ⟨y, rfl⟩ := Int.eq_ofNat_of_zero_le h0
  unfold v8
  have e0 : IntKind.u64.wrap ((N : Int) * 256) = ((2 ^ 8 * N : Nat) : Int) := by rw [IntKind.wrap_u64]; omega
  have e1 : IntKind.u64.wrap (y : Int) = (y : Int) := by rw [IntKind.wrap_u64]; omega
  rw [e0, e1, (bits_nat .u64 64 (by decide) (fun m a b => by rw [wrap_u64']; omega) (2 ^ 8 * N) y (by omega) (by omega)).2, ← Nat.two_pow_add_eq_or_of_lt (by omega), Int.toNat_natCast]
  congr 1
  omega
theorem fold_bnum : ∀ (xs : List Int), Byts xs → xs.length ≤ 8 → xs.foldl v8 0 = ((bnum (bitsOf xs (8 * xs.length)) : Nat) : Int) := by
  intro xs
  induction xs using snoc_ind with
  | h0 => intro _ _; rfl
  | h1 l x ih =>
    intro hb hl
    rw [List.length_append, List.length_singleton] at hl
    have hx := hb x (by simp)
    have ih := ih (fun y hy => hb y (by simp [hy])) (by omega)
    rw [List.foldl_append, ih, List.length_append, List.length_singleton, bitsOf_snoc8, bnum_append, nb_length, bnum_nb]
    have hlt := bnum_lt (bitsOf l (8 * l.length))
    rw [bitsOf_length] at hlt
    have hp : (2 : Nat) ^ (8 * l.length) ≤ 2 ^ 56 := Nat.pow_le_pow_right (by decide) (by omega)
    have h56 : (2 : Nat) ^ 56 = 72057594037927936 := by decide
    show v8 _ x = _
    rw [v8_num _ x (by omega) hx.1 hx.2]
    congr 1
    have : x.toNat % 2 ^ 8 = x.toNat := Nat.mod_eq_of_lt (by omega)
    rw [this]
end Go.Proofs.YtdckhaejhfkkbaaDoor.Pu
end
section
namespace Go.Proofs.YtdckhaejhfkkbaaDoor.PRT
open Go.RowKit Go.Proofs.YtdckhaejhfkkbaaDoorW.PrintWords Go.Proofs.YtdckhaejhfkkbaaDoorW.PrintLast Go.Proofs.YtdckhaejhfkkbaaDoorW.PrintMore
attribute [local go_sem] max2_int min2_int max_two min_two max_three min_three max_four min_four
set_option linter.unusedVariables false
set_option linter.unusedSimpArgs false
attribute [local go_sem high] eqA45
mutual
def manometerref13_Same.j0 : Nat → Bool → Int → Int → List (S52) → List (S45) → Int → Int → List (S52) → List (S45) → Option (Bool)
 | 0, _, _, _, _, _, _, _, _, _ => none
 | k + 1, x34, x398000, x398001, x398002, x398003, x399000, x399001, x399002, x399003 => if x34 = true then (some false) else (manometerref13_Same.l0 k (x398003.length : Int) 0 x398000 x398001 x398002 x398003 x399000 x399001 x399002 x399003)
def manometerref13_Same.l0 : Nat → Int → Int → Int → Int → List (S52) → List (S45) → Int → Int → List (S52) → List (S45) → Option (Bool)
 | 0, _, _, _, _, _, _, _, _, _, _ => none
 | k + 1, x37, x38, x398000, x398001, x398002, x398003, x399000, x399001, x399002, x399003 => if x38 < x37 then (if 0 ≤ x38 then (if x38 < (x398003.length : Int) then (if x38 < (x399003.length : Int) then (if (!(((rd_T45 x398003 x38).f0) == ((rd_T45 x399003 x38).f0)) || ((!(((rd_T45 x398003 x38).f1.f0) == ((rd_T45 x399003 x38).f1.f0)) || (!(((rd_T45 x398003 x38).f1.f1) == ((rd_T45 x399003 x38).f1.f1)) || (!(((rd_T45 x398003 x38).f1.f2) == ((rd_T45 x399003 x38).f1.f2))))))) = true then (some false) else (manometerref13_Same.l0 k x37 (wrap64 (x38 + 1)) x398000 x398001 x398002 x398003 x399000 x399001 x399002 x399003)) else (none)) else (none)) else (none)) else (some true)
end
def manometerref13_Same.f (k : Nat) (a0_0 : Int) (a0_1 : Int) (l0_2 : List (S52)) (l0_3 : List (S45)) (a1_0 : Int) (a1_1 : Int) (l1_2 : List (S52)) (l1_3 : List (S45)) : Option (Bool) := if a0_0 = a1_0 then (if a0_1 = a1_1 then ((manometerref05_Same.f k l0_2 l1_2).bind fun t399 => (if t399 = true then (manometerref13_Same.j0 k ((l0_3.length : Int) != (l1_3.length : Int)) a0_0 a0_1 l0_2 l0_3 a1_0 a1_1 l1_2 l1_3) else (manometerref13_Same.j0 k true a0_0 a0_1 l0_2 l0_3 a1_0 a1_1 l1_2 l1_3))) else (manometerref13_Same.j0 k true a0_0 a0_1 l0_2 l0_3 a1_0 a1_1 l1_2 l1_3)) else (manometerref13_Same.j0 k true a0_0 a0_1 l0_2 l0_3 a1_0 a1_1 l1_2 l1_3)
end Go.Proofs.YtdckhaejhfkkbaaDoor.PRT
end
section
namespace Go.Proofs.YtdckhaejhfkkbaaDoor.PRT
open Go.RowKit Go.Proofs.YtdckhaejhfkkbaaDoorW.PrintWords Go.Proofs.YtdckhaejhfkkbaaDoorW.PrintLast Go.Proofs.YtdckhaejhfkkbaaDoorW.PrintMore
attribute [local go_sem] max2_int min2_int max_two min_two max_three min_three max_four min_four
set_option linter.unusedVariables false
set_option linter.unusedSimpArgs false
end Go.Proofs.YtdckhaejhfkkbaaDoor.PRT
end
section
namespace Go.Proofs.YtdckhaejhfkkbaaDoor.Pu
open Go Go.RowKit Go.Proofs.YtdckhaejhfkkbaaDoor Go.Proofs.YtdckhaejhfkkbaaDoor.PRT Go.Proofs.YtdckhaejhfkkbaaDoorW.PrintWords Go.Proofs.YtdckhaejhfkkbaaDoorW.PrintLast Go.Proofs.YtdckhaejhfkkbaaDoorW.PrintMore
set_option linter.unusedVariables false
set_option linter.unusedSimpArgs false
abbrev Ent := S45
theorem rdE (l : List Ent) (n : Nat) : rd_T45 l (n : Int) = l.getD n z45 := by unfold rd_T45; rw [Int.toNat_natCast]
theorem dropE (l : List Ent) (n : Nat) (h : n < l.length) : l.drop n = l.getD n z45 :: l.drop (n + 1) := by
  rw [List.drop_eq_getElem_cons h, List.getD_eq_getElem?_getD, List.getElem?_eq_getElem h]
  rfl
def prE (x : Ent) : Int × Int × Int × Int := (x.f0, x.f1.f0, x.f1.f1, x.f1.f2)
theorem neE (x y : Ent) : ((!(x.f0 == y.f0) || (!(x.f1.f0 == y.f1.f0) || (!(x.f1.f1 == y.f1.f1) || (!(x.f1.f2 == y.f1.f2))))) = true) ↔ ¬ prE x = prE y := by
  unfold prE
  rw [Prod.mk.injEq, Prod.mk.injEq, Prod.mk.injEq]
  simp only [Bool.or_eq_true, Bool.not_eq_true', beq_eq_false_iff_ne, ne_eq]
  constructor
  · rintro (h | h | h | h) ⟨h1, h2, h3, h4⟩
    · exact h h1
    · exact h h2
    · exact h h3
    · exact h h4
  · intro h
    by_cases h1 : x.f0 = y.f0
    · by_cases h2 : x.f1.f0 = y.f1.f0
      · by_cases h3 : x.f1.f1 = y.f1.f1
        · by_cases h4 : x.f1.f2 = y.f1.f2
          · exact absurd ⟨h1, h2, h3, h4⟩ h
          · exact .inr (.inr (.inr h4))
        · exact .inr (.inr (.inl h3))
      · exact .inr (.inl h2)
    · exact .inl h1
theorem if_neg_fun {α : Type} {c : Prop} [Decidable c] {f g : Nat → Option α} (h : ¬ c) : (fun k => if c then f k else g k) = g := by funext k; rw [if_neg h]
theorem if_pos_fun {α : Type} {c : Prop} [Decidable c] {f g : Nat → Option α} (h : c) : (fun k => if c then f k else g k) = f := by funext k; rw [if_pos h]
theorem record_Same_l0 (a0 a1 b0 b1 : Int) (l2 m2 : List Lab) (l m : List Ent) (hs : l.length ≤ 1000000000000) (hlm : l.length = m.length) : ∀ (d n : Nat), n + d = l.length → Ev (fun k => record_Same.l0 k (l.length : Int) (n : Int) a0 a1 l2 l b0 b1 m2 m) (decide ((l.drop n).map prE = (m.drop n).map prE))
  | d, n, hd => by
    refine Ev.step (f := _) (fun k => by simp only [record_Same.l0]; rfl) ?_
    by_cases hlt : n < l.length
    · obtain ⟨d, rfl⟩ : ∃ e, d = e + 1 := ⟨d - 1, by omega⟩
      have e1 : (n : Int) < (l.length : Int) := by omega
      have e2 : (0 : Int) ≤ (n : Int) := by omega
      have e3 : (n : Int) < (m.length : Int) := by omega
      rw [dropE l n hlt, dropE m n (by omega), List.map_cons, List.map_cons]
      simp only [if_pos e1, if_pos e2, if_pos e3, rdE, w1 n (by omega)]
      have hne := neE (l.getD n z45) (m.getD n z45)
      by_cases h : prE (l.getD n z45) = prE (m.getD n z45)
      · rw [if_neg_fun (fun hh => hne.1 hh h)]
        rw [show decide (prE (l.getD n z45) :: (l.drop (n + 1)).map prE = prE (m.getD n z45) :: (m.drop (n + 1)).map prE) = decide ((l.drop (n + 1)).map prE = (m.drop (n + 1)).map prE) by rw [h]; simp]
        exact record_Same_l0 a0 a1 b0 b1 l2 m2 l m hs hlm d (n + 1) (by omega)
      · rw [if_pos_fun (hne.2 h)]
        rw [decide_eq_false (fun hh => h (List.cons.inj hh).1)]
        exact Ev.now _
    · simp only [if_neg (show ¬ (n : Int) < (l.length : Int) by omega)]
      rw [List.drop_of_length_le (by omega), List.drop_of_length_le (by omega)]
      exact Ev.now _
theorem record_Same_j0f (a0 a1 b0 b1 : Int) (l2 m2 : List Lab) (l m : List Ent) : Ev (fun k => record_Same.j0 k true a0 a1 l2 l b0 b1 m2 m) false := by
  refine Ev.step (f := _) (fun k => by simp only [record_Same.j0]; rfl) ?_
  simp only [if_true]
  exact Ev.now _
theorem record_Same_j0t (a0 a1 b0 b1 : Int) (l2 m2 : List Lab) (l m : List Ent) (hs : l.length ≤ 1000000000000) (hlm : l.length = m.length) : Ev (fun k => record_Same.j0 k false a0 a1 l2 l b0 b1 m2 m) (decide (l.map prE = m.map prE)) := by
  refine Ev.step (f := _) (fun k => by simp only [record_Same.j0]; rfl) ?_
  simp only [Bool.false_eq_true, if_false]
  exact record_Same_l0 a0 a1 b0 b1 l2 m2 l m hs hlm l.length 0 (by omega)
theorem manometerref13_Same_l0 (a0 a1 b0 b1 : Int) (l2 m2 : List Lab) (l m : List Ent) (hs : l.length ≤ 1000000000000) (hlm : l.length = m.length) : ∀ (d n : Nat), n + d = l.length → Ev (fun k => manometerref13_Same.l0 k (l.length : Int) (n : Int) a0 a1 l2 l b0 b1 m2 m) (decide ((l.drop n).map prE = (m.drop n).map prE))
  | d, n, hd => by
    refine Ev.step (f := _) (fun k => by simp only [manometerref13_Same.l0]; rfl) ?_
    by_cases hlt : n < l.length
    · obtain ⟨d, rfl⟩ : ∃ e, d = e + 1 := ⟨d - 1, by omega⟩
      have e1 : (n : Int) < (l.length : Int) := by omega
      have e2 : (0 : Int) ≤ (n : Int) := by omega
      have e3 : (n : Int) < (m.length : Int) := by omega
      rw [dropE l n hlt, dropE m n (by omega), List.map_cons, List.map_cons]
      simp only [if_pos e1, if_pos e2, if_pos e3, rdE, w1 n (by omega)]
      have hne := neE (l.getD n z45) (m.getD n z45)
      by_cases h : prE (l.getD n z45) = prE (m.getD n z45)
      · rw [if_neg_fun (fun hh => hne.1 hh h)]
        rw [show decide (prE (l.getD n z45) :: (l.drop (n + 1)).map prE = prE (m.getD n z45) :: (m.drop (n + 1)).map prE) = decide ((l.drop (n + 1)).map prE = (m.drop (n + 1)).map prE) by rw [h]; simp]
        exact manometerref13_Same_l0 a0 a1 b0 b1 l2 m2 l m hs hlm d (n + 1) (by omega)
      · rw [if_pos_fun (hne.2 h)]
        rw [decide_eq_false (fun hh => h (List.cons.inj hh).1)]
        exact Ev.now _
    · simp only [if_neg (show ¬ (n : Int) < (l.length : Int) by omega)]
      rw [List.drop_of_length_le (by omega), List.drop_of_length_le (by omega)]
      exact Ev.now _
theorem manometerref13_Same_j0f (a0 a1 b0 b1 : Int) (l2 m2 : List Lab) (l m : List Ent) : Ev (fun k => manometerref13_Same.j0 k true a0 a1 l2 l b0 b1 m2 m) false := by
  refine Ev.step (f := _) (fun k => by simp only [manometerref13_Same.j0]; rfl) ?_
  simp only [if_true]
  exact Ev.now _
theorem manometerref13_Same_j0t (a0 a1 b0 b1 : Int) (l2 m2 : List Lab) (l m : List Ent) (hs : l.length ≤ 1000000000000) (hlm : l.length = m.length) : Ev (fun k => manometerref13_Same.j0 k false a0 a1 l2 l b0 b1 m2 m) (decide (l.map prE = m.map prE)) := by
  refine Ev.step (f := _) (fun k => by simp only [manometerref13_Same.j0]; rfl) ?_
  simp only [Bool.false_eq_true, if_false]
  exact manometerref13_Same_l0 a0 a1 b0 b1 l2 m2 l m hs hlm l.length 0 (by omega)
def sameR (a0 a1 : Int) (l2 : List Lab) (l : List Ent) (b0 b1 : Int) (m2 : List Lab) (m : List Ent) : Bool := decide (a0 = b0) && (decide (a1 = b1) && (sameB l2 m2 && decide (l.map prE = m.map prE)))
theorem RSame_ev (a0 a1 b0 b1 : Int) (l2 m2 : List Lab) (l m : List Ent) (hs : l.length ≤ 1000000000000) (h2 : l2.length ≤ 1000000000000) : Ev (fun k => record_Same.f k a0 a1 l2 l b0 b1 m2 m) (sameR a0 a1 l2 l b0 b1 m2 m) ∧ Ev (fun k => manometerref13_Same.f k a0 a1 l2 l b0 b1 m2 m) (sameR a0 a1 l2 l b0 b1 m2 m) := by
  unfold record_Same.f manometerref13_Same.f sameR
  by_cases c0 : a0 = b0
  · by_cases c1 : a1 = b1
    · obtain ⟨s1, s2⟩ := Same_ev l2 m2 h2
      simp only [if_pos c0, if_pos c1, decide_eq_true c0, decide_eq_true c1, Bool.true_and]
      by_cases hl : l.length = m.length
      · have hb : ((l.length : Int) != (m.length : Int)) = false := by simp [hl]
        constructor
        · simp only [if_pos (show (l.length : Int) = (m.length : Int) by omega)]
          refine Ev.bind s1 ?_
          cases sameB l2 m2 with
          | false => exact record_Same_j0f _ _ _ _ _ _ _ _
          | true => exact record_Same_j0t _ _ _ _ _ _ _ _ hs hl
        · refine Ev.bind s2 ?_
          cases sameB l2 m2 with
          | false =>
            simp only [Bool.false_eq_true, if_false, Bool.false_and]
            exact manometerref13_Same_j0f _ _ _ _ _ _ _ _
          | true =>
            simp only [if_true, Bool.true_and, hb]
            exact manometerref13_Same_j0t _ _ _ _ _ _ _ _ hs hl
      · have hb : ((l.length : Int) != (m.length : Int)) = true := by simp; omega
        have hf : decide (l.map prE = m.map prE) = false := decide_eq_false (fun h => hl (by have := congrArg List.length h; rwa [List.length_map, List.length_map] at this))
        rw [hf, Bool.and_false]
        constructor
        · simp only [if_neg (show ¬ (l.length : Int) = (m.length : Int) by omega)]
          exact record_Same_j0f _ _ _ _ _ _ _ _
        · refine Ev.bind s2 ?_
          cases sameB l2 m2 with
          | false =>
            simp only [Bool.false_eq_true, if_false]
            exact manometerref13_Same_j0f _ _ _ _ _ _ _ _
          | true =>
            simp only [if_true, hb]
            exact manometerref13_Same_j0f _ _ _ _ _ _ _ _
    · simp only [if_pos c0, if_neg c1, decide_eq_false c1, Bool.false_and, Bool.and_false]
      exact ⟨record_Same_j0f _ _ _ _ _ _ _ _, manometerref13_Same_j0f _ _ _ _ _ _ _ _⟩
  · simp only [if_neg c0, decide_eq_false c0, Bool.false_and]
    exact ⟨record_Same_j0f _ _ _ _ _ _ _ _, manometerref13_Same_j0f _ _ _ _ _ _ _ _⟩
theorem sameR_refl (a0 a1 : Int) (l2 : List Lab) (l : List Ent) : sameR a0 a1 l2 l a0 a1 l2 l = true := by
  unfold sameR sameB
  simp
theorem few_l0 (a0 a1 : Int) (l2 Y : List Lab) (l : List Ent) (hY : Y.length ≤ 1000) : ∀ (d n : Nat), n + d = Y.length → ∃ r, Ev (fun k => manometerlaw13_few.l0 k Y (Y.length : Int) (n : Int) a0 a1 l2 l) r ∧ (r = true → (l2.length ≤ 40 ∧ l.length ≤ 400) ∧ ∀ j, n ≤ j → j < Y.length → (Y.getD j z52).f0.size ≤ 300 ∧ (Y.getD j z52).f1.size ≤ 300)
  | d, n, hd => by
    by_cases hlt : n < Y.length
    · obtain ⟨d, rfl⟩ : ∃ e, d = e + 1 := ⟨d - 1, by omega⟩
      have e1 : (n : Int) < (Y.length : Int) := by omega
      have e2 : (0 : Int) ≤ (n : Int) := by omega
      by_cases h0 : (Y.getD n z52).f0.size ≤ 300
      · by_cases h1 : (Y.getD n z52).f1.size ≤ 300
        · obtain ⟨r, hr, hp⟩ := few_l0 a0 a1 l2 Y l hY d (n + 1) (by omega)
          refine ⟨r, Ev.step (f := _) (fun k => by simp only [manometerlaw13_few.l0]; rfl) ?_, fun hh => ⟨(hp hh).1, fun j hj hjl => ?_⟩⟩
          · simp only [if_pos e1, if_pos e2, rdn, if_neg (show ¬ ((Y.getD n z52).f0.size : Int) > 300 by omega), if_neg (show ¬ ((Y.getD n z52).f1.size : Int) > 300 by omega), w1 n (by omega)]
            exact hr
          · by_cases hjn : j = n
            · subst hjn
              exact ⟨h0, h1⟩
            · exact (hp hh).2 j (by omega) hjl
        · refine ⟨false, Ev.step (f := _) (fun k => by simp only [manometerlaw13_few.l0]; rfl) ?_, (fun h => by cases h)⟩
          simp only [if_pos e1, if_pos e2, rdn, if_neg (show ¬ ((Y.getD n z52).f0.size : Int) > 300 by omega), if_pos (show ((Y.getD n z52).f1.size : Int) > 300 by omega)]
          exact Ev.now _
      · refine ⟨false, Ev.step (f := _) (fun k => by simp only [manometerlaw13_few.l0]; rfl) ?_, (fun h => by cases h)⟩
        simp only [if_pos e1, if_pos e2, rdn, if_pos (show ((Y.getD n z52).f0.size : Int) > 300 by omega)]
        exact Ev.now _
    · by_cases h40 : l2.length ≤ 40
      · refine ⟨decide ((l.length : Int) ≤ 400), Ev.step (f := _) (fun k => by simp only [manometerlaw13_few.l0]; rfl) ?_, fun hh => ⟨⟨h40, by have := of_decide_eq_true hh; omega⟩, fun j hj hjl => by omega⟩⟩
        simp only [if_neg (show ¬ (n : Int) < (Y.length : Int) by omega), if_pos (show (l2.length : Int) ≤ 40 by omega)]
        exact Ev.now _
      · refine ⟨false, Ev.step (f := _) (fun k => by simp only [manometerlaw13_few.l0]; rfl) ?_, (fun h => by cases h)⟩
        simp only [if_neg (show ¬ (n : Int) < (Y.length : Int) by omega), if_neg (show ¬ (l2.length : Int) ≤ 40 by omega)]
        exact Ev.now _
theorem few_ev (a0 a1 : Int) (l2 : List Lab) (l : List Ent) : ∃ r, Ev (fun k => manometerlaw13_few.f k a0 a1 l2 l) r ∧ (r = true → (l2.length ≤ 40 ∧ l.length ≤ 400) ∧ ∀ x ∈ l2, x.f0.size ≤ 300 ∧ x.f1.size ≤ 300) := by
  have hm : mn (l2.length : Int) 40 = ((min l2.length 40 : Nat) : Int) := by unfold mn; omega
  obtain ⟨r, hr, hp⟩ := few_l0 a0 a1 l2 (l2.take (min l2.length 40)) l (by rw [List.length_take]; omega) (l2.take (min l2.length 40)).length 0 (by omega)
  refine ⟨r, ?_, fun hh => ⟨(hp hh).1, fun x hx => ?_⟩⟩
  · unfold manometerlaw13_few.f
    rw [hm]
    simp only [if_pos (show (0 : Int) ≤ ((min l2.length 40 : Nat) : Int) by omega), if_pos (show ((min l2.length 40 : Nat) : Int) ≤ (l2.length : Int) by omega), Option.bind_some, Int.toNat_natCast]
    exact hr
  · obtain ⟨⟨h40, _⟩, h2⟩ := hp hh
    rw [List.take_of_length_le (by omega)] at h2
    obtain ⟨j, hjl, rfl⟩ := List.mem_iff_getElem.1 hx
    have := h2 j (Nat.zero_le _) hjl
    rwa [List.getD_eq_getElem?_getD, List.getElem?_eq_getElem hjl] at this
theorem live_60 : manometerlaw13_live.f 60 = some true := by kernel_rfl
theorem live_ev : Ev (fun k => manometerlaw13_live.f k) true := Ev.of manometerlaw13_live.mono live_60
end Go.Proofs.YtdckhaejhfkkbaaDoor.Pu
end
section
namespace Go.Proofs.YtdckhaejhfkkbaaDoor.PRT
open Go.RowKit Go.Proofs.YtdckhaejhfkkbaaDoorW.PrintWords Go.Proofs.YtdckhaejhfkkbaaDoorW.PrintLast Go.Proofs.YtdckhaejhfkkbaaDoorW.PrintMore
attribute [local go_sem] max2_int min2_int max_two min_two max_three min_three max_four min_four
set_option linter.unusedVariables false
set_option linter.unusedSimpArgs false
end Go.Proofs.YtdckhaejhfkkbaaDoor.PRT
end
section
namespace Go.Proofs.YtdckhaejhfkkbaaDoor.Pu
open Go Go.RowKit Go.Proofs.YtdckhaejhfkkbaaDoor Go.Proofs.YtdckhaejhfkkbaaDoor.PRT Go.Proofs.YtdckhaejhfkkbaaDoorW.PrintWords Go.Proofs.YtdckhaejhfkkbaaDoorW.PrintLast Go.Proofs.YtdckhaejhfkkbaaDoorW.PrintMore Bq
set_option linter.unusedVariables false
set_option linter.unusedSimpArgs false
def entsB (l : List Ent) : Int := if ∃ x ∈ l, x.f0 = 0 ∨ x.f1.f2 = 0 then 1 else 0
theorem entsB_bad {x : Ent} {l : List Ent} (h : x.f0 = 0 ∨ x.f1.f2 = 0) : entsB (x :: l) = 1 := by
  unfold entsB
  rw [if_pos ⟨x, List.mem_cons_self, h⟩]
theorem entsB_ok {x : Ent} {l : List Ent} (h0 : ¬ x.f0 = 0) (h1 : ¬ x.f1.f2 = 0) : entsB (x :: l) = entsB l := by
  unfold entsB
  by_cases h : ∃ y ∈ l, y.f0 = 0 ∨ y.f1.f2 = 0
  · rw [if_pos h, if_pos]
    obtain ⟨y, hy, h2⟩ := h
    exact ⟨y, List.mem_cons_of_mem _ hy, h2⟩
  · rw [if_neg h, if_neg]
    rintro ⟨y, hy, h2⟩
    rcases List.mem_cons.1 hy with rfl | hy
    · exact h2.elim h0 h1
    · exact h ⟨y, hy, h2⟩
def checkB (a0 a1 : Int) (l2 : List Lab) (l : List Ent) : Int :=
  if a0 = 1 then (if a1 = 0 then 1 else if 0 < l.length then 1 else rightB l2)
  else if a0 = 2 then (if a1 = 0 then (if 0 < l2.length then 1 else if l.length = 0 then 1 else if 256 < l.length then 3 else entsB l) else 1) else 130
theorem record_Check_l0 (l : List Ent) (hl : l.length ≤ 1000000000) : ∀ (d n : Nat), n + d = l.length → Ev (fun k => record_Check.l0 k l (l.length : Int) (n : Int)) (entsB (l.drop n))
  | 0, n, hd => by
    refine Ev.step (f := _) (fun k => by simp only [record_Check.l0]; rfl) ?_
    simp only [if_neg (show ¬ (n : Int) < (l.length : Int) by omega)]
    rw [List.drop_of_length_le (by omega)]
    exact Ev.now _
  | d + 1, n, hd => by
    refine Ev.step (f := _) (fun k => by simp only [record_Check.l0]; rfl) ?_
    rw [dropE l n (by omega)]
    simp only [if_pos (show (n : Int) < (l.length : Int) by omega), if_pos (show (0 : Int) ≤ (n : Int) by omega), rdE, w1 n (by omega)]
    by_cases h0 : (l.getD n z45).f0 = 0
    · simp only [if_pos h0]
      rw [entsB_bad (.inl h0)]
      exact Ev.now _
    · by_cases h1 : (l.getD n z45).f1.f2 = 0
      · simp only [if_neg h0, if_pos h1]
        rw [entsB_bad (.inr h1)]
        exact Ev.now _
      · simp only [if_neg h0, if_neg h1]
        rw [entsB_ok h0 h1]
        exact record_Check_l0 l hl d (n + 1) (by omega)
theorem record_Check_j0t (a0 a1 : Int) (l2 : List Lab) (l : List Ent) : Ev (fun k => record_Check.j0 k true a0 a1 l2 l) 1 := by
  refine Ev.step (f := _) (fun k => by simp only [record_Check.j0]; rfl) ?_
  simp only [if_true]
  exact Ev.now _
theorem record_Check_j0f (a0 a1 : Int) (l2 : List Lab) (l : List Ent) (hl : l.length ≤ 1000000000) : Ev (fun k => record_Check.j0 k false a0 a1 l2 l) (if 256 < l.length then 3 else entsB l) := by
  refine Ev.step (f := _) (fun k => by simp only [record_Check.j0]; rfl) ?_
  simp only [Bool.false_eq_true, if_false]
  by_cases h : 256 < l.length
  · simp only [if_pos h, if_pos (show (l.length : Int) > 256 by omega)]
    exact Ev.now _
  · simp only [if_neg h, if_neg (show ¬ (l.length : Int) > 256 by omega)]
    exact record_Check_l0 l hl l.length 0 (by omega)
theorem record_Check_ev (a0 a1 : Int) (l2 : List Lab) (l : List Ent) (hs : Sm l2) (hl : l.length ≤ 1000000000) : Ev (fun k => record_Check.f k a0 a1 l2 l) (checkB a0 a1 l2 l) := by
  unfold record_Check.f checkB
  by_cases c1 : a0 = 1
  · simp only [if_pos c1]
    by_cases z1 : a1 = 0
    · simp only [if_pos z1]
      exact Ev.now _
    · by_cases z2 : 0 < l.length
      · simp only [if_neg z1, if_pos z2, if_pos (show (l.length : Int) > 0 by omega)]
        exact Ev.now _
      · simp only [if_neg z1, if_neg z2, if_neg (show ¬ (l.length : Int) > 0 by omega)]
        exact Ev.bind (Right_ev l2 hs).1 (Ev.now _)
  · by_cases c2 : a0 = 2
    · simp only [if_neg c1, if_pos c2]
      by_cases z1 : a1 = 0
      · by_cases z2 : 0 < l2.length
        · simp only [if_pos z1, if_pos z2, if_pos (show (l2.length : Int) > 0 by omega)]
          exact record_Check_j0t _ _ _ _
        · by_cases z3 : l.length = 0
          · simp only [if_pos z1, if_neg z2, if_pos z3, if_neg (show ¬ (l2.length : Int) > 0 by omega), show ((l.length : Int) == 0) = true by simp [z3]]
            exact record_Check_j0t _ _ _ _
          · simp only [if_pos z1, if_neg z2, if_neg z3, if_neg (show ¬ (l2.length : Int) > 0 by omega), show ((l.length : Int) == 0) = false from beq_eq_false_iff_ne.2 (by omega)]
            exact record_Check_j0f _ _ _ _ hl
      · simp only [if_neg z1]
        exact record_Check_j0t _ _ _ _
    · simp only [if_neg c1, if_neg c2]
      exact Ev.now _
theorem manometerref13_Check_l0 (l : List Ent) (hl : l.length ≤ 1000000000) : ∀ (d n : Nat), n + d = l.length → Ev (fun k => manometerref13_Check.l0 k l (l.length : Int) (n : Int)) (entsB (l.drop n))
  | 0, n, hd => by
    refine Ev.step (f := _) (fun k => by simp only [manometerref13_Check.l0]; rfl) ?_
    simp only [if_neg (show ¬ (n : Int) < (l.length : Int) by omega)]
    rw [List.drop_of_length_le (by omega)]
    exact Ev.now _
  | d + 1, n, hd => by
    refine Ev.step (f := _) (fun k => by simp only [manometerref13_Check.l0]; rfl) ?_
    rw [dropE l n (by omega)]
    simp only [if_pos (show (n : Int) < (l.length : Int) by omega), if_pos (show (0 : Int) ≤ (n : Int) by omega), rdE, w1 n (by omega)]
    by_cases h0 : (l.getD n z45).f0 = 0
    · simp only [if_pos h0]
      rw [entsB_bad (.inl h0)]
      exact Ev.now _
    · by_cases h1 : (l.getD n z45).f1.f2 = 0
      · simp only [if_neg h0, if_pos h1]
        rw [entsB_bad (.inr h1)]
        exact Ev.now _
      · simp only [if_neg h0, if_neg h1]
        rw [entsB_ok h0 h1]
        exact manometerref13_Check_l0 l hl d (n + 1) (by omega)
theorem manometerref13_Check_j0t (a0 a1 : Int) (l2 : List Lab) (l : List Ent) : Ev (fun k => manometerref13_Check.j0 k true a0 a1 l2 l) 1 := by
  refine Ev.step (f := _) (fun k => by simp only [manometerref13_Check.j0]; rfl) ?_
  simp only [if_true]
  exact Ev.now _
theorem manometerref13_Check_j0f (a0 a1 : Int) (l2 : List Lab) (l : List Ent) (hl : l.length ≤ 1000000000) : Ev (fun k => manometerref13_Check.j0 k false a0 a1 l2 l) (if 256 < l.length then 3 else entsB l) := by
  refine Ev.step (f := _) (fun k => by simp only [manometerref13_Check.j0]; rfl) ?_
  simp only [Bool.false_eq_true, if_false]
  by_cases h : 256 < l.length
  · simp only [if_pos h, if_pos (show (l.length : Int) > 256 by omega)]
    exact Ev.now _
  · simp only [if_neg h, if_neg (show ¬ (l.length : Int) > 256 by omega)]
    exact manometerref13_Check_l0 l hl l.length 0 (by omega)
theorem manometerref13_Check_ev (a0 a1 : Int) (l2 : List Lab) (l : List Ent) (hs : Sm l2) (hl : l.length ≤ 1000000000) : Ev (fun k => manometerref13_Check.f k a0 a1 l2 l) (checkB a0 a1 l2 l) := by
  unfold manometerref13_Check.f checkB
  by_cases c1 : a0 = 1
  · simp only [if_pos c1]
    by_cases z1 : a1 = 0
    · simp only [if_pos z1]
      exact Ev.now _
    · by_cases z2 : 0 < l.length
      · simp only [if_neg z1, if_pos z2, if_pos (show (l.length : Int) > 0 by omega)]
        exact Ev.now _
      · simp only [if_neg z1, if_neg z2, if_neg (show ¬ (l.length : Int) > 0 by omega)]
        exact Ev.bind (Right_ev l2 hs).2 (Ev.now _)
  · by_cases c2 : a0 = 2
    · simp only [if_neg c1, if_pos c2]
      by_cases z1 : a1 = 0
      · by_cases z2 : 0 < l2.length
        · simp only [if_pos z1, if_pos z2, if_pos (show (l2.length : Int) > 0 by omega)]
          exact manometerref13_Check_j0t _ _ _ _
        · by_cases z3 : l.length = 0
          · simp only [if_pos z1, if_neg z2, if_pos z3, if_neg (show ¬ (l2.length : Int) > 0 by omega), show ((l.length : Int) == 0) = true by simp [z3]]
            exact manometerref13_Check_j0t _ _ _ _
          · simp only [if_pos z1, if_neg z2, if_neg z3, if_neg (show ¬ (l2.length : Int) > 0 by omega), show ((l.length : Int) == 0) = false from beq_eq_false_iff_ne.2 (by omega)]
            exact manometerref13_Check_j0f _ _ _ _ hl
      · simp only [if_neg z1]
        exact manometerref13_Check_j0t _ _ _ _
    · simp only [if_neg c1, if_neg c2]
      exact Ev.now _
def ptL (r t s : Int) (x : Ent) : List Int := vI (wrap64 (wrap64 x.f0 - wrap64 r)) ++ vI (wrap64 (x.f1.f0 - t)) ++ vI (wrap64 (IntKind.u64.wrap (x.f1.f2 - s))) ++ be8 x.f1.f1
def ptsL : List Ent → Int → Int → Int → List Int
  | [], _, _, _ => []
  | x :: l, r, t, s => ptL r t s x ++ ptsL l x.f0 x.f1.f0 x.f1.f2
theorem w64_bd (x : Int) : -9223372036854775808 ≤ wrap64 x ∧ wrap64 x ≤ 9223372036854775807 := by unfold wrap64; omega
theorem vI_wlen (x : Int) : (vI (wrap64 x)).length ≤ 10 := vI_len _ (w64_bd x).1 (w64_bd x).2
theorem ptL_len (r t s : Int) (x : Ent) : (ptL r t s x).length ≤ 38 := by
  unfold ptL
  rw [List.length_append, List.length_append, List.length_append, be8_length]
  have := vI_wlen (wrap64 x.f0 - wrap64 r)
  have := vI_wlen (x.f1.f0 - t)
  have := vI_wlen (IntKind.u64.wrap (x.f1.f2 - s))
  omega
theorem ptsL_len : ∀ (l : List Ent) (r t s : Int), (ptsL l r t s).length ≤ 38 * l.length
  | [], _, _, _ => by simp [ptsL]
  | x :: l, r, t, s => by
    unfold ptsL
    rw [List.length_append, List.length_cons]
    have := ptL_len r t s x
    have := ptsL_len l x.f0 x.f1.f0 x.f1.f2
    omega
theorem PV_ev (x : Int) : Ev (fun k => bits_PutVarint.f k (wrap64 x)) (vI (wrap64 x)) ∧ Ev (fun k => manometerref01_PutVarint.f k (wrap64 x)) (vI (wrap64 x)) := PutVarint_ev _ (w64_bd x).1 (w64_bd x).2
theorem recPts_ev : ∀ (l : List Ent) (r t s : Int) (out : List Int), out.length + 38 * l.length ≤ 1000000 → Ev (fun k => recPts k l r t s out) (out ++ ptsL l r t s)
  | [], r, t, s, out, h => by
    unfold recPts ptsL
    rw [List.append_nil]
    exact Ev.now _
  | x :: l, r, t, s, out, h => by
    rw [List.length_cons] at h
    have n1 := vI_wlen (wrap64 x.f0 - wrap64 r)
    have n2 := vI_wlen (x.f1.f0 - t)
    have n3 := vI_wlen (IntKind.u64.wrap (x.f1.f2 - s))
    have h1 := (PV_ev (wrap64 x.f0 - wrap64 r)).1
    have h2 := (PV_ev (x.f1.f0 - t)).1
    have h3 := (PV_ev (IntKind.u64.wrap (x.f1.f2 - s))).1
    have ih := recPts_ev l x.f0 x.f1.f0 x.f1.f2 (out ++ vI (wrap64 (wrap64 x.f0 - wrap64 r)) ++ vI (wrap64 (x.f1.f0 - t)) ++ vI (wrap64 (IntKind.u64.wrap (x.f1.f2 - s))) ++ be8 x.f1.f1) (by
      rw [List.length_append, List.length_append, List.length_append, List.length_append, be8_length]
      omega)
    unfold recPts ptsL ptL
    refine Ev.bind h1 (Ev.bind h2 (Ev.bind h3 ?_))
    rw [if_pos_fun (by omega)]
    simp only [List.append_assoc] at ih ⊢
    exact ih
def Okp (l : List Ent) : Prop := ∀ x ∈ l, 0 ≤ x.f1.f1 ∧ x.f1.f1 < 18446744073709551616
theorem ref_t (a t : Int) : wrap64 (IntKind.u64.wrap (IntKind.u64.wrap a - IntKind.u64.wrap t)) = wrap64 (a - t) := by
  simp only [IntKind.wrap_u64]
  unfold wrap64
  omega
theorem RPut_l0 (l : List Ent) (ho : Okp l) : ∀ (d n : Nat) (r t v s : Int) (out : List Int), n + d = l.length → out.length + 38 * d ≤ 1000000 → l.length ≤ 1000000 → Ev (fun k => manometerref13_Put.l0 k out l (l.length : Int) (n : Int) r t v s) (out ++ ptsL (l.drop n) r t s, 0)
  | 0, n, r, t, v, s, out, hd, h, hl => by
    refine Ev.step (f := _) (fun k => by simp only [manometerref13_Put.l0]; rfl) ?_
    simp only [if_neg (show ¬ (n : Int) < (l.length : Int) by omega)]
    rw [List.drop_of_length_le (by omega)]
    unfold ptsL
    rw [List.append_nil]
    exact Ev.now _
  | d + 1, n, r, t, v, s, out, hd, h, hl => by
    refine Ev.step (f := _) (fun k => by simp only [manometerref13_Put.l0]; rfl) ?_
    simp only [if_pos (show (n : Int) < (l.length : Int) by omega), if_pos (show (0 : Int) ≤ (n : Int) by omega), rdE, w1 n (by omega), ref_t]
    have hmem : l.getD n z45 ∈ l := by
      rw [List.getD_eq_getElem?_getD, List.getElem?_eq_getElem (show n < l.length by omega)]
      exact List.getElem_mem _
    have hv := ho _ hmem
    rw [dropE l n (by omega)]
    have hrec := RPut_l0 l ho d (n + 1)
    generalize l.getD n z45 = x at *
    obtain ⟨vn, hvn⟩ := Int.eq_ofNat_of_zero_le hv.1
    have n1 := vI_wlen (wrap64 x.f0 - wrap64 r)
    have n2 := vI_wlen (x.f1.f0 - t)
    have n3 := vI_wlen (IntKind.u64.wrap (x.f1.f2 - s))
    have h1 := (PV_ev (wrap64 x.f0 - wrap64 r)).2
    have h2 := (PV_ev (x.f1.f0 - t)).2
    have h3 := (PV_ev (IntKind.u64.wrap (x.f1.f2 - s))).2
    have h4 : Ev (fun k => manometerref01_Big.f k x.f1.f1) (be8 x.f1.f1) := by
      rw [hvn]
      exact Big_ev vn (by omega)
    have n4 := be8_length x.f1.f1
    refine Ev.bind h1 (Ev.bind h2 (Ev.bind h3 (Ev.bind h4 ?_)))
    have hj := Join_ev [out, vI (wrap64 (wrap64 x.f0 - wrap64 r)), vI (wrap64 (x.f1.f0 - t)), vI (wrap64 (IntKind.u64.wrap (x.f1.f2 - s))), be8 x.f1.f1] (by simp) (by
      simp only [List.flatten_cons, List.flatten_nil, List.length_append, List.length_nil]
      omega)
    refine Ev.bind hj ?_
    have ih := hrec x.f0 x.f1.f0 x.f1.f1 x.f1.f2 [out, vI (wrap64 (wrap64 x.f0 - wrap64 r)), vI (wrap64 (x.f1.f0 - t)), vI (wrap64 (IntKind.u64.wrap (x.f1.f2 - s))), be8 x.f1.f1].flatten (by omega) (by
      simp only [List.flatten_cons, List.flatten_nil, List.length_append, List.length_nil]
      omega) hl
    have e : [out, vI (wrap64 (wrap64 x.f0 - wrap64 r)), vI (wrap64 (x.f1.f0 - t)), vI (wrap64 (IntKind.u64.wrap (x.f1.f2 - s))), be8 x.f1.f1].flatten ++ ptsL (l.drop (n + 1)) x.f0 x.f1.f0 x.f1.f2 = out ++ ptsL (x :: l.drop (n + 1)) r t s := by
      conv => rhs; unfold ptsL ptL
      simp
    rw [e] at ih
    exact ih
def putR (a0 a1 : Int) (l2 : List Lab) (l : List Ent) : List Int × Int :=
  if checkB a0 a1 l2 l = 0 then ((if a0 = 1 then a0 % 256 :: (Bq.ints (uv a1.toNat) ++ (putB l2).1) else a0 % 256 :: (Bq.ints (uv l.length) ++ ptsL l 0 0 0)), 0) else ([], checkB a0 a1 l2 l)
theorem flat_len : ∀ (l : List Lab), (∀ x ∈ l, x.f0.size ≤ 100000 ∧ x.f1.size ≤ 100000) → (l.flatMap labL).length ≤ 200020 * l.length
  | [], _ => by simp
  | x :: l, h => by
    rw [List.flatMap_cons, List.length_append, List.length_cons]
    have h0 := h x List.mem_cons_self
    have := labL_len x h0.1 h0.2
    have := flat_len l (fun y hy => h y (List.mem_cons_of_mem _ hy))
    omega
theorem putB_len (l : List Lab) (h : l.length ≤ 40) (hs : ∀ x ∈ l, x.f0.size ≤ 100000 ∧ x.f1.size ≤ 100000) : (putB l).1.length ≤ 9000000 := by
  unfold putB
  split
  · show (putL l).length ≤ _
    unfold putL
    rw [List.length_append, Bq.ints_length]
    have := uv_len10 l.length (by omega)
    have := flat_len l hs
    omega
  · simp
theorem check_le {a0 a1 : Int} {l2 : List Lab} {l : List Ent} (h : checkB a0 a1 l2 l = 0) (h1 : ¬ a0 = 1) : l.length ≤ 256 := by
  unfold checkB at h
  rw [if_neg h1] at h
  split at h
  · split at h
    · split at h
      · omega
      · split at h
        · omega
        · split at h
          · omega
          · omega
    · omega
  · omega
theorem RPut_ev (a0 a1 : Int) (l2 : List Lab) (l : List Ent) (h40 : l2.length ≤ 40) (hs : ∀ x ∈ l2, x.f0.size ≤ 100000 ∧ x.f1.size ≤ 100000) (hl : l.length ≤ 1000000000) (ho : Okp l) (u0 : 0 ≤ a1) (u1 : a1 < 4294967296) : Ev (fun k => record_Put.f k a0 a1 l2 l) (putR a0 a1 l2 l) ∧ Ev (fun k => manometerref13_Put.f k a0 a1 l2 l) (putR a0 a1 l2 l) := by
  have hS : Sm l2 := ⟨by omega, hs⟩
  have k1 := record_Check_ev a0 a1 l2 l hS hl
  have k2 := manometerref13_Check_ev a0 a1 l2 l hS hl
  have e : (fun k => record_Put.f k a0 a1 l2 l) = fun k => recPut k a0 a1 l2 l := rfl
  rw [e]
  unfold recPut manometerref13_Put.f putR
  obtain ⟨n, rfl⟩ := Int.eq_ofNat_of_zero_le u0
  have hw : IntKind.u64.wrap (n : Int) = (n : Int) := wraps_u64n _ (by omega) (by omega)
  obtain ⟨p1, p2⟩ := PutUvarint_ev n (by omega)
  have q1 := uv_len10 n (by omega)
  have q2 := Bq.ints_length (uv n)
  have q3 := putB_len l2 h40 hs
  obtain ⟨b1, b2⟩ := Put_ev l2 hS
  by_cases hc : checkB a0 (n : Int) l2 l = 0
  · rw [if_pos hc]
    by_cases h1 : a0 = 1
    · rw [if_pos h1, hw, Int.toNat_natCast]
      constructor
      · refine Ev.bind k1 ?_
        simp only [if_pos hc, if_pos h1]
        refine Ev.bind p1 (Ev.bind b1 ?_)
        rw [if_pos_fun (by omega)]
        exact Ev.now _
      · refine Ev.bind k2 ?_
        simp only [if_pos hc, if_pos h1, Option.bind_some]
        refine Ev.bind b2 (Ev.bind p2 ?_)
        have hj := Join_ev [[a0 % 256], Bq.ints (uv n), (putB l2).1] (by simp) (by
          simp only [List.flatten_cons, List.flatten_nil, List.length_append, List.length_nil, List.length_cons]
          omega)
        have ej : [[a0 % 256], Bq.ints (uv n), (putB l2).1].flatten = a0 % 256 :: (Bq.ints (uv n) ++ (putB l2).1) := by simp
        rw [ej] at hj
        exact Ev.bind hj (Ev.now _)
    · rw [if_neg h1]
      have hle := check_le hc h1
      obtain ⟨m1, m2⟩ := PutUvarint_ev l.length (by omega)
      have g1 := uv_len10 l.length (by omega)
      have g2 := Bq.ints_length (uv l.length)
      have hwl : IntKind.u64.wrap (l.length : Int) = (l.length : Int) := wraps_u64n _ (by omega) (by omega)
      constructor
      · refine Ev.bind k1 ?_
        simp only [if_pos hc, if_neg h1]
        rw [if_pos_fun (by omega)]
        refine Ev.bind m1 ?_
        rw [if_pos_fun (by omega)]
        have := recPts_ev l 0 0 0 (a0 % 256 :: Bq.ints (uv l.length)) (by rw [List.length_cons]; omega)
        rw [List.cons_append] at this
        exact Ev.bind this (Ev.now _)
      · refine Ev.bind k2 ?_
        simp only [if_pos hc, if_neg h1, Option.bind_some, hwl]
        refine Ev.bind m2 ?_
        have hj := Join_ev [[a0 % 256], Bq.ints (uv l.length)] (by simp) (by
          simp only [List.flatten_cons, List.flatten_nil, List.length_append, List.length_nil, List.length_cons]
          omega)
        have ej : [[a0 % 256], Bq.ints (uv l.length)].flatten = a0 % 256 :: Bq.ints (uv l.length) := by simp
        rw [ej] at hj
        refine Ev.bind hj ?_
        have := RPut_l0 l ho l.length 0 0 0 0 0 (a0 % 256 :: Bq.ints (uv l.length)) (by omega) (by rw [List.length_cons]; omega) (by omega)
        rw [List.drop_zero, List.cons_append] at this
        exact this
  · rw [if_neg hc]
    constructor
    · refine Ev.bind k1 ?_
      simp only [if_neg hc]
      exact Ev.now _
    · refine Ev.bind k2 ?_
      simp only [if_neg hc]
      exact Ev.now _
theorem putR_len (a0 a1 : Int) (l2 : List Lab) (l : List Ent) (h40 : l2.length ≤ 40) (hs : ∀ x ∈ l2, x.f0.size ≤ 100000 ∧ x.f1.size ≤ 100000) (u0 : 0 ≤ a1) (u1 : a1 < 4294967296) : (putR a0 a1 l2 l).1.length ≤ 10000000 := by
  unfold putR
  split
  · rename_i hc
    have q1 := uv_len10 a1.toNat (by omega)
    have q3 := putB_len l2 h40 hs
    by_cases h1 : a0 = 1
    · simp only [if_pos h1, List.length_cons, List.length_append, Bq.ints_length]
      omega
    · have hle := check_le hc h1
      have g1 := uv_len10 l.length (by omega)
      have := ptsL_len l 0 0 0
      simp only [if_neg h1, List.length_cons, List.length_append, Bq.ints_length]
      omega
  · simp
end Go.Proofs.YtdckhaejhfkkbaaDoor.Pu
end
