import Derived.Test.YtkkomfomjpcbfaaDoorCTokenMintsE2
import Derived.Test.YtkkomfomjpcbfaaDoorCTokenMintsPTSx9
import Derived.Laws.RangeAny
import Derived.Lib.OthersKept
import Derived.Test.YtkkomfomjpcbfaaDoorCTokenMintsE1
import Derived.Test.YtkkomfomjpcbfaaDoorCTokenMintsWGuard
import Derived.Test.YtkkomfomjpcbfaaDoorCTokenMintsTM
import Derived.Test.YtkkomfomjpcbfaaDoorCTokenMintsTT
import Derived.Test.YtkkomfomjpcbfaaDoorCTokenMintsPU0
import Derived.Test.YtkkomfomjpcbfaaDoorCTokenMintsH2r
import Derived.Test.YtkkomfomjpcbfaaDoorCTokenMintsPTSx2
import Derived.Test.YtkkomfomjpcbfaaDoorCTokenMintsPTSx1
import Derived.Test.YtkkomfomjpcbfaaDoorCTokenMintsPTSx8
namespace Go.Proofs.YtkkomfomjpcbfaaDoor.Bq
end Go.Proofs.YtkkomfomjpcbfaaDoor.Bq
section
namespace Go.Proofs.YtkkomfomjpcbfaaDoor.PTS
open Go.RowKit Go.Proofs.YtkkomfomjpcbfaaDoorW.PrintWords Go.Proofs.YtkkomfomjpcbfaaDoorW.PrintLast Go.Proofs.YtkkomfomjpcbfaaDoorW.PrintMore
attribute [local go_sem] max2_int min2_int max_two min_two max_three min_three max_four min_four
set_option linter.unusedVariables false
set_option linter.unusedSimpArgs false
end Go.Proofs.YtkkomfomjpcbfaaDoor.PTS
end
section
namespace Go.Proofs.YtkkomfomjpcbfaaDoor.PTS
open Go.RowKit Go.Proofs.YtkkomfomjpcbfaaDoorW.PrintWords Go.Proofs.YtkkomfomjpcbfaaDoorW.PrintLast Go.Proofs.YtkkomfomjpcbfaaDoorW.PrintMore
attribute [local go_sem] max2_int min2_int max_two min_two max_three min_three max_four min_four
set_option linter.unusedVariables false
set_option linter.unusedSimpArgs false
end Go.Proofs.YtkkomfomjpcbfaaDoor.PTS
end
section
namespace Go.Proofs.YtkkomfomjpcbfaaDoor.Pu
open Go Go.RowKit Go.Lib Go.Proofs.YtkkomfomjpcbfaaDoor Go.Proofs.YtkkomfomjpcbfaaDoor.PTS Go.Proofs.YtkkomfomjpcbfaaDoorW.PrintWords Go.Proofs.YtkkomfomjpcbfaaDoorW.PrintLast Go.Proofs.YtkkomfomjpcbfaaDoorW.PrintMore Bq
set_option linter.unusedVariables false
set_option linter.unusedSimpArgs false
theorem w7 (n : Nat) (h : n < 10) : IntKind.u64.wrap (wrap64 (7 * (n : Int))) = ((7 * n : Nat) : Int) := by
  rw [wn (n := 7 * n) (by omega) (by omega), wraps_u64n _ (by omega) (by omega)]
theorem PutU_l0 (n : Nat) : ∀ acc : List Int, acc.length + (uv n).length ≤ 1000000000000 → Ev (fun k => bits_PutUvarint.l0 k (n : Int) acc) (acc ++ Bq.ints (uv n)) := by
  induction n using Nat.strongRecOn with
  | _ n ih =>
    intro acc hl
    refine Ev.step (f := _) (fun k => by simp only [bits_PutUvarint.l0]; rfl) ?_
    have hp := uv_pos n
    simp only [if_pos (show acc.length < 140737488355328 by omega)]
    by_cases h : n < 128
    · simp only [if_neg (show ¬ (n : Int) > 127 by omega)]
      rw [uv_small n h, show (n : Int) % 256 = (n : Int) by omega]
      exact Ev.now _
    · simp only [if_pos (show (n : Int) > 127 by omega)]
      have e : (n : Int) % 256 = ((n % 256 : Nat) : Int) := by omega
      rw [uv_big n (by omega), List.length_cons] at hl
      rw [e, or128n _ (by omega), show n % 256 % 128 = n % 128 by omega, show (n : Int) / 128 = ((n / 128 : Nat) : Int) by omega]
      have := ih (n / 128) (by omega) (acc ++ [((n % 128 + 128 : Nat) : Int)]) (by rw [List.length_append, List.length_singleton]; omega)
      rw [List.append_assoc] at this
      rw [uv_big n (by omega)]
      exact this
theorem RPutU_l0 (n : Nat) : ∀ acc : List Int, n < 18446744073709551616 → acc.length + (uv n).length ≤ 1000000000000 → Ev (fun k => manometerref01_PutUvarint.l0 k (n : Int) acc) (acc ++ Bq.ints (uv n)) := by
  induction n using Nat.strongRecOn with
  | _ n ih =>
    intro acc hn hl
    refine Ev.step (f := _) (fun k => by simp only [manometerref01_PutUvarint.l0]; rfl) ?_
    have hp := uv_pos n
    simp only [if_pos (show acc.length < 140737488355328 by omega)]
    by_cases h : n < 128
    · simp only [if_neg (show ¬ (n : Int) ≥ 128 by omega)]
      rw [uv_small n h, show (n : Int) % 256 = (n : Int) by omega]
      exact Ev.now _
    · simp only [if_pos (show (n : Int) ≥ 128 by omega)]
      rw [uv_big n (by omega), List.length_cons] at hl
      rw [Int.tmod_eq_emod_of_nonneg (by omega), Int.tdiv_eq_ediv_of_nonneg (by omega), show ((n : Int) % 128 + 128) % 256 = ((n % 128 + 128 : Nat) : Int) by omega, show (n : Int) / 128 = ((n / 128 : Nat) : Int) by omega, wraps_u64n _ (by omega) (by omega)]
      have := ih (n / 128) (by omega) (acc ++ [((n % 128 + 128 : Nat) : Int)]) (by omega) (by rw [List.length_append, List.length_singleton]; omega)
      rw [List.append_assoc] at this
      rw [uv_big n (by omega)]
      exact this
theorem PutUvarint_ev (n : Nat) (hn : n < 18446744073709551616) : Ev (fun k => bits_PutUvarint.f k (n : Int)) (Bq.ints (uv n)) ∧ Ev (fun k => manometerref01_PutUvarint.f k (n : Int)) (Bq.ints (uv n)) := by
  have h := uv_len10 n hn
  have h1 := PutU_l0 n [] (by simp; omega)
  have h2 := RPutU_l0 n [] hn (by simp; omega)
  exact ⟨h1, h2⟩
theorem rdL (l : List (List Int)) (n : Nat) : rd_L3 l (n : Int) = l.getD n [] := by unfold rd_L3; rw [Int.toNat_natCast]
theorem Join_l0 (ps : List (List Int)) (hp : ps.length ≤ 1000000) : ∀ (d n : Nat) (acc : List Int), n + d = ps.length → acc.length + (ps.drop n).flatten.length ≤ 100000000000 → Ev (fun k => manometerref01_Join.l0 k acc ps (ps.length : Int) (n : Int)) (acc ++ (ps.drop n).flatten)
  | d, n, acc, hd, hl => by
    refine Ev.step (f := _) (fun k => by simp only [manometerref01_Join.l0]; rfl) ?_
    by_cases hlt : n < ps.length
    · obtain ⟨d, rfl⟩ : ∃ e, d = e + 1 := ⟨d - 1, by omega⟩
      have e1 : (n : Int) < (ps.length : Int) := by omega
      have e2 : (0 : Int) ≤ (n : Int) := by omega
      have e3 : ps.drop n = ps.getD n [] :: ps.drop (n + 1) := by
        rw [List.drop_eq_getElem_cons hlt, List.getD_eq_getElem?_getD, List.getElem?_eq_getElem hlt]
        rfl
      rw [e3, List.flatten_cons, List.length_append] at hl
      have e4 : acc.length + (ps.getD n []).length < 140737488355328 := by omega
      simp only [if_pos e1, if_pos e2, rdL, if_pos e4, w1 n (by omega)]
      rw [e3, List.flatten_cons, ← List.append_assoc]
      exact Join_l0 ps hp d (n + 1) _ (by omega) (by rw [List.length_append]; omega)
    · simp only [if_neg (show ¬ (n : Int) < (ps.length : Int) by omega)]
      rw [List.drop_of_length_le (by omega)]
      simp only [List.flatten_nil, List.append_nil]
      exact Ev.now _
theorem Join_ev (ps : List (List Int)) (hp : ps.length ≤ 1000000) (hl : ps.flatten.length ≤ 100000000000) : Ev (fun k => manometerref01_Join.f k ps) ps.flatten := by
  have := Join_l0 ps hp ps.length 0 [] (by omega) (by simpa using hl)
  simpa [manometerref01_Join.f] using this
theorem zigI_bd (n : Int) (h0 : -9223372036854775808 ≤ n) (h1 : n ≤ 9223372036854775807) : 0 ≤ zigI n ∧ zigI n < 18446744073709551616 := by unfold zigI; split <;> omega
theorem Zig_eq (n : Int) (h0 : -9223372036854775808 ≤ n) (h1 : n ≤ 9223372036854775807) : bits_Zig.f n = some (zigI n) ∧ manometerref01_Zig.f n = some (zigI n) := by
  constructor
  · unfold bits_Zig.f
    have e : wrap64 (n * 2) = IntKind.i64.wrap (n * 2) := by rw [IntKind.wrap_i64]; unfold wrap64; omega
    rw [e, zig_bits n h0 h1]
  · unfold manometerref01_Zig.f zigI
    split
    · rename_i h
      have e1 : wrap64 (n + 1) = n + 1 := w64 (by omega) (by omega)
      have e2 : wrap64 (-(n + 1)) = -(n + 1) := w64 (by omega) (by omega)
      rw [e1, e2]
      simp only [IntKind.wrap_u64]
      congr 1
      omega
    · simp only [IntKind.wrap_u64]
      congr 1
      omega
def vI (n : Int) : List Int := Bq.ints (uv (zigI n).toNat)
theorem vI_len (n : Int) (h0 : -9223372036854775808 ≤ n) (h1 : n ≤ 9223372036854775807) : (vI n).length ≤ 10 := by
  unfold vI
  rw [Bq.ints_length]
  have := zigI_bd n h0 h1
  exact uv_len10 (zigI n).toNat (by omega)
theorem PutVarint_ev (n : Int) (h0 : -9223372036854775808 ≤ n) (h1 : n ≤ 9223372036854775807) : Ev (fun k => bits_PutVarint.f k n) (vI n) ∧ Ev (fun k => manometerref01_PutVarint.f k n) (vI n) := by
  obtain ⟨e1, e2⟩ := Zig_eq n h0 h1
  have hz := zigI_bd n h0 h1
  obtain ⟨z, hz2⟩ := Int.eq_ofNat_of_zero_le hz.1
  obtain ⟨p1, p2⟩ := PutUvarint_ev z (by omega)
  unfold bits_PutVarint.f manometerref01_PutVarint.f vI
  rw [e1, e2, hz2]
  simp only [Option.bind_some, Int.toNat_natCast]
  exact ⟨Ev.bind p1 (Ev.now _), Ev.bind p2 (Ev.now _)⟩
theorem Letter_f (c : Int) : manometerref05_Letter.f c = some (letB c) := by
  unfold manometerref05_Letter.f letB fstB
  repeat' split
  all_goals simp only [Option.some.injEq]
  all_goals (rw [Bool.eq_iff_iff]; simp; omega)
def resN (l : Str) (n : Nat) : Bool := (l.drop n).all (fun b => letB b.toNat) && (decide (1 ≤ l.length) && decide (l.length ≤ 64) && (decide ((l.getD 0 0).toNat < 48) || decide (57 < (l.getD 0 0).toNat)))
theorem resN_zero (l : Str) : resN l 0 = namedB l := by
  rw [Bool.eq_iff_iff]
  unfold resN
  rw [List.drop_zero]
  constructor
  · intro h
    simp only [Bool.and_eq_true, List.all_eq_true, decide_eq_true_eq, Bool.or_eq_true] at h
    obtain ⟨h1, ⟨h2, h3⟩, h4⟩ := h
    have hm : l.getD 0 0 ∈ l := by rw [List.getD_eq_getElem?_getD, List.getElem?_eq_getElem (by omega)]; exact List.getElem_mem _
    have h5 := h1 _ hm
    refine namedB_yes (by omega) h3 (fun i hi => h1 _ (by rw [List.getD_eq_getElem?_getD, List.getElem?_eq_getElem hi]; exact List.getElem_mem _)) ?_
    unfold letB at h5
    rcases Bool.or_eq_true _ _ ▸ h5 with h5 | h5
    · exact h5
    · simp only [Bool.and_eq_true, decide_eq_true_eq] at h5
      omega
  · intro h
    obtain ⟨h1, h2, h3, h4⟩ := namedB_letters h
    have hl := List.length_pos_iff.2 h1
    simp only [Bool.and_eq_true, List.all_eq_true, decide_eq_true_eq, Bool.or_eq_true]
    refine ⟨h3, ⟨by omega, h2⟩, ?_⟩
    unfold fstB at h4
    simp only [Bool.or_eq_true, Bool.and_eq_true, decide_eq_true_eq, beq_iff_eq] at h4
    omega
theorem Named_l0 (s : ByteArray) (hs : s.size ≤ 1000000000000) : ∀ (d n k : Nat), n + d = s.size → d < k → manometerref05_Named.l0 k s (s.size : Int) (n : Int) = some (resN (B s) n)
  | d, n, k, hd, hk => by
    have hl := B_length s
    obtain ⟨k, rfl⟩ := succ_of hk
    by_cases hlt : n < s.size
    · obtain ⟨d, rfl⟩ : ∃ e, d = e + 1 := ⟨d - 1, by omega⟩
      have ih := Named_l0 s hs d (n + 1) k (by omega) (by omega)
      simp only [manometerref05_Named.l0]
      rw [if_pos (by omega), if_pos (by omega), if_pos (by omega), Letter_f, bt_B, w64 (by omega) (by omega)]
      have e1 : resN (B s) n = (letB ((B s).getD n 0).toNat && resN (B s) (n + 1)) := by
        unfold resN
        rw [drop_cons (B s) n (by omega), List.all_cons, Bool.and_assoc]
      rw [e1]
      cases letB ((B s).getD n 0).toNat with
      | false => simp
      | true =>
        simp only [Option.bind_some, if_true, Bool.true_and]
        exact_mod_cast ih
    · have hn : n = s.size := by omega
      simp only [manometerref05_Named.l0]
      rw [if_neg (by omega)]
      have e1 : (B s).drop n = [] := List.drop_of_length_le (by omega)
      have e0 := bt_B s 0
      rw [show ((0 : Nat) : Int) = 0 from rfl] at e0
      unfold resN
      rw [e1, List.all_nil, Bool.true_and, hl, e0]
      by_cases h1 : 1 ≤ s.size
      · rw [if_pos (by omega), decide_eq_true h1]
        by_cases h2 : s.size ≤ 64
        · rw [if_pos (by omega), if_pos (by omega), decide_eq_true h2]
          by_cases h3 : ((B s).getD 0 0).toNat < 48
          · rw [if_pos (by omega), decide_eq_true h3]; rfl
          · rw [if_neg (by omega), decide_eq_false h3]
            simp only [Bool.true_and, Bool.false_or, Option.some.injEq]
            rw [Bool.eq_iff_iff]
            simp only [decide_eq_true_eq]
            omega
        · rw [if_neg (by omega), decide_eq_false h2]; rfl
      · rw [if_neg (by omega), decide_eq_false h1]; rfl
theorem Named_ev (s : ByteArray) (hs : s.size ≤ 1000000000000) : Ev (fun k => manometerref05_Named.f k s) (namedB (B s)) :=
  Ev.at s.size (fun k hk => by
    unfold manometerref05_Named.f
    have h := Named_l0 s hs s.size 0 k (by omega) hk
    rw [resN_zero] at h
    exact h)
theorem bytesOf_byts (s : ByteArray) : Byts (bytesOf s) := fun x hx => by
  obtain ⟨b, _, rfl⟩ := List.mem_map.1 hx
  have := b.toNat_lt
  omega
theorem cut_lett (n : Nat) (h : n < 64) : (⟨#[65, 66, 67, 68, 69, 70, 71, 72, 73, 74, 75, 76, 77, 78, 79, 80, 81, 82, 83, 84, 85, 86, 87, 88, 89, 90, 97, 98, 99, 100, 101, 102, 103, 104, 105, 106, 107, 108, 109, 110, 111, 112, 113, 114, 115, 116, 117, 118, 119, 120, 121, 122, 48, 49, 50, 51, 52, 53, 54, 55, 56, 57, 45, 95]⟩ : ByteArray).extract n (n + 1) = strOfNums [lett.getD n 0] := by
  have : ∀ k : Fin 64, (⟨#[65, 66, 67, 68, 69, 70, 71, 72, 73, 74, 75, 76, 77, 78, 79, 80, 81, 82, 83, 84, 85, 86, 87, 88, 89, 90, 97, 98, 99, 100, 101, 102, 103, 104, 105, 106, 107, 108, 109, 110, 111, 112, 113, 114, 115, 116, 117, 118, 119, 120, 121, 122, 48, 49, 50, 51, 52, 53, 54, 55, 56, 57, 45, 95]⟩ : ByteArray).extract k.val (k.val + 1) = strOfNums [lett.getD k.val 0] := by decide +kernel
  exact this ⟨n, h⟩
theorem arm_pad (R : List Bool) (h : R.length % 6 ≠ 0) : arm (R ++ [false]) = arm R := by
  obtain ⟨q, hq⟩ : ∃ q, q = R.length / 6 := ⟨_, rfl⟩
  have hd : (R.take (6 * q)).length = 6 * q := by rw [List.length_take]; omega
  have ht : (R.drop (6 * q)).length = R.length % 6 := by rw [List.length_drop]; omega
  have e : R ++ [false] = R.take (6 * q) ++ (R.drop (6 * q) ++ [false]) := by rw [← List.append_assoc, List.take_append_drop]
  have h1 : arm (R ++ [false]) = arm (R.take (6 * q)) ++ [six1 (R.drop (6 * q) ++ [false])] := by
    rw [e, arm_append q _ _ hd, arm_short (R.drop (6 * q) ++ [false]) (by simp) (by rw [List.length_append, List.length_singleton]; omega)]
  have h2 : arm R = arm (R.take (6 * q)) ++ [six1 (R.drop (6 * q))] := by
    rw [← arm_short (R.drop (6 * q)) (fun e => by rw [e] at ht; simp at ht; omega) (by omega), ← arm_append q _ _ hd, List.take_append_drop]
  rw [h1, h2]
  congr 2
  unfold six1
  rw [bnum_snoc, List.length_append, List.length_singleton, ht]
  congr 1
  have e2 : 6 - R.length % 6 = 6 - (R.length % 6 + 1) + 1 := by omega
  rw [e2, Nat.pow_succ]
  simp only [Bool.toNat_false, Nat.add_zero]
  rw [Nat.mul_comm 2, Nat.mul_assoc, Nat.mul_comm 2]
theorem RArmor_l1 : ∀ (q : Nat) (R : List Bool) (S : ByteArray), R.length = 6 * q → S.size + q ≤ 1000000000 → Ev (fun k => manometerref03_Armor.l1 k R S) (S ++ strOfNums (arm R))
  | 0, R, S, h, hs => by
    refine Ev.step (f := _) (fun k => by simp only [manometerref03_Armor.l1]; rfl) ?_
    have : R = [] := List.eq_nil_of_length_eq_zero (by omega)
    subst this
    simp only [if_neg (show ¬ ((([] : List Bool).length : Int)) > 0 by simp)]
    rw [arm_nil]
    have e : S ++ strOfNums [] = S := B_inj (by rw [B_append]; show B S ++ [] = B S; rw [List.append_nil])
    rw [e]
    exact Ev.now _
  | q + 1, R, S, h, hs => by
    refine Ev.step (f := _) (fun k => by simp only [manometerref03_Armor.l1]; rfl) ?_
    have ht : (R.take 6).length = 6 := by rw [List.length_take]; omega
    have hlt := bnum_lt (R.take 6)
    rw [ht] at hlt
    have hnum : manometerref01_Number.f (R.take 6) = some ((bnum (R.take 6) : Nat) : Int) := by
      unfold manometerref01_Number.f
      rw [if_pos (by omega)]
    simp only [if_pos (show (R.length : Int) > 0 by omega), if_pos (show (6 : Int) ≤ (R.length : Int) by omega)]
    refine Ev.bindc hnum ?_
    obtain ⟨v, hv⟩ : ∃ v, v = bnum (R.take 6) := ⟨_, rfl⟩
    rw [← hv] at hlt
    have e1 : IntKind.u64.wrap ((v : Int) + 1) = ((v + 1 : Nat) : Int) := by rw [IntKind.wrap_u64]; omega
    rw [← hv]
    simp only [e1, if_pos (show (0 : Int) ≤ (v : Int) by omega), if_pos (show (v : Int) ≤ ((v + 1 : Nat) : Int) by omega), if_pos (show ((v + 1 : Nat) : Int) ≤ 64 by omega), Int.toNat_natCast, cut_lett v (by omega), strOfNums_size, List.length_singleton, if_pos (show S.size + 1 ≤ 9223372036854775807 by omega)]
    have hR : R ≠ [] := fun e => by rw [e] at h; simp at h
    have ih := RArmor_l1 q (R.drop 6) (S ++ strOfNums [lett.getD v 0]) (by rw [List.length_drop]; omega) (by rw [ByteArray.size_append, strOfNums_size, List.length_singleton]; omega)
    rw [arm_cons R hR, six1_full _ ht, ← hv]
    have e2 : S ++ strOfNums (lett.getD v 0 :: arm (R.drop 6)) = S ++ strOfNums [lett.getD v 0] ++ strOfNums (arm (R.drop 6)) := by
      rw [show lett.getD v 0 :: arm (R.drop 6) = [lett.getD v 0] ++ arm (R.drop 6) from rfl, sN_append]
      exact B_inj (by rw [B_append, B_append, B_append, B_append, List.append_assoc])
    rw [e2]
    exact ih
theorem RArmor_l0 : ∀ (d : Nat) (R : List Bool), (R.length + d) % 6 = 0 → d < 6 → R.length + d ≤ 10000000 → Ev (fun k => manometerref03_Armor.l0 k R) (strOfNums (arm R))
  | d, R, h, hd, hl => by
    refine Ev.step (f := _) (fun k => by simp only [manometerref03_Armor.l0]; rfl) ?_
    by_cases h0 : R.length % 6 = 0
    · simp only [if_pos (show ((R.length : Int) % 6) = 0 by omega)]
      have h1 := RArmor_l1 (R.length / 6) R (⟨#[]⟩ : ByteArray) (by omega) (by show 0 + _ ≤ _; omega)
      have e : (⟨#[]⟩ : ByteArray) ++ strOfNums (arm R) = strOfNums (arm R) := B_inj (by rw [B_append]; rfl)
      rw [e] at h1
      exact h1
    · rcases d with _ | d
      · omega
      · simp only [if_neg (show ¬ ((R.length : Int) % 6) = 0 by omega), if_pos (show R.length < 140737488355328 by omega)]
        rw [← arm_pad R h0]
        exact RArmor_l0 d (R ++ [false]) (by rw [List.length_append, List.length_singleton]; omega) (by omega) (by rw [List.length_append, List.length_singleton]; omega)
theorem all_byts {xs : List Int} (h : Byts xs) : xs.all (fun x => decide (0 ≤ x ∧ x < 256)) = true := List.all_eq_true.2 (fun x hx => decide_eq_true (h x hx))
theorem RArmor_ev (xs : List Int) (hb : Byts xs) (hl : xs.length ≤ 1000000) : Ev (fun k => manometerref03_Armor.f k xs) (strOfNums (armor xs)) := by
  unfold manometerref03_Armor.f
  have e : wrap64 (8 * (xs.length : Int)) = ((8 * xs.length : Nat) : Int) := wn (by omega) (by omega)
  have hbits : manometerref01_Bits.f xs (wrap64 (8 * (xs.length : Int))) = some (bitsOf xs (8 * xs.length)) := by
    rw [e]
    unfold manometerref01_Bits.f
    rw [if_pos hl, if_pos (all_byts hb), if_pos (by omega), if_pos (by omega), Int.toNat_natCast]
  refine Ev.bindc hbits ?_
  unfold armor
  exact RArmor_l0 ((6 - (bitsOf xs (8 * xs.length)).length % 6) % 6) _ (by omega) (by omega) (by rw [bitsOf_length]; omega)
theorem armor_size (a : List Int) : (strOfNums (armor a)).size = (8 * a.length + 5) / 6 := by
  rw [strOfNums_size, armor, arm_length, bitsOf_length]
end Go.Proofs.YtkkomfomjpcbfaaDoor.Pu
end
