import Derived.Test.YtkkomfomjpcbfaaDoorSTokenVerifiesH2r
import Derived.Test.YtkkomfomjpcbfaaDoorSTokenVerifiesH14
import Derived.Test.YtkkomfomjpcbfaaDoorSTokenVerifiesPTSx2
import Derived.Test.YtkkomfomjpcbfaaDoorSTokenVerifiesPTSx1
import Derived.Test.YtkkomfomjpcbfaaDoorSTokenVerifiesPTSx8
import Derived.Test.YtkkomfomjpcbfaaDoorSTokenVerifiesPTSx12
import Derived.Test.YtkkomfomjpcbfaaDoorSTokenVerifiesPTSx9
import Derived.Test.YtkkomfomjpcbfaaDoorSTokenVerifiesPTSx13
namespace Go.Proofs.YtkkomfomjpcbfaaDoor.Bq
end Go.Proofs.YtkkomfomjpcbfaaDoor.Bq
set_option linter.unusedVariables false
set_option linter.unusedSimpArgs false
namespace Go.Proofs.YtkkomfomjpcbfaaDoor.Pu
open Go Go.RowKit Go.Lib Go.Proofs.YtkkomfomjpcbfaaDoor Go.Proofs.YtkkomfomjpcbfaaDoor.PTS Go.Proofs.YtkkomfomjpcbfaaDoorW.PrintWords Go.Proofs.YtkkomfomjpcbfaaDoorW.PrintLast Go.Proofs.YtkkomfomjpcbfaaDoorW.PrintMore Bq
theorem rdI (xs : List Int) (n : Nat) : rd xs (n : Int) = xs.getD n 0 := by unfold rd; rw [Int.toNat_natCast]
theorem w7 (n : Nat) (h : n < 10) : IntKind.u64.wrap (wrap64 (7 * (n : Int))) = ((7 * n : Nat) : Int) := by
 rw [wn (n := 7 * n) (by omega) (by omega), wraps_u64n _ (by omega) (by omega)]
theorem shl7 (v : Int) (n : Nat) (h : n < 10) : shl .u64 v ((7 * n : Nat) : Int) = IntKind.u64.wrap (v * 2 ^ (7 * n)) := by
 unfold shl
 rw [Int.toNat_natCast, Nat.min_eq_left (by show 7 * n ≤ 64; omega)]
theorem Uv_j1 (b : List Int) (hb : Byts b) (hs : b.length ≤ 1000000000000) (n acc : Nat) (hn : n < 10) (hlt : n < b.length) (h9 : ¬ (n = 9 ∧ 1 < b.getD n 0)) (ha : acc < 128 ^ n)
  (ih : ∀ acc' : Nat, acc' < 128 ^ (n + 1) → Ev (fun k => bits_Uvarint.l0 k b (acc' : Int) ((n + 1 : Nat) : Int)) (ug (n + 1) acc' (b.drop (n + 1)))) :
  Ev (fun k => bits_Uvarint.j1 k b (acc : Int) (n : Int)) (ug n acc (b.drop n)) := by
 obtain ⟨x0, x1⟩ := byt_get hb n hlt
 rw [drop_rd b n hlt]
 refine Ev.step (f := _) (fun k => by simp only [bits_Uvarint.j1]; rfl) ?_
 have e1 : (0 : Int) ≤ (n : Int) := by omega
 have e2 : (n : Int) < (b.length : Int) := by omega
 have e4 : (0 : Int) ≤ ((7 * n : Nat) : Int) := by omega
 obtain ⟨v1, v2⟩ := val_bd n acc _ hn x0 x1 h9 ha
 have hv := or_val n acc _ hn x0 x1 h9 ha
 have hw : IntKind.u64.wrap (b.getD n 0 % 128) = b.getD n 0 % 128 := wraps_u64n _ (by omega) (by omega)
 have hm := and127n _ x0 x1
 simp only [if_pos e1, if_pos e2, rdI, w7 n hn, if_pos e4, hm, hw, shl7 _ n hn, hv, w1 n (by omega)]
 clear hv hw hm
 generalize b.getD n 0 = x at *
 by_cases h128 : x < 128
 ·simp only [if_pos h128]
  by_cases hp : 0 < n
  ·simp only [if_pos (show (n : Int) > 0 by omega)]
   by_cases hx : x = 0
   ·simp only [if_pos hx]
    rw [hx, g_form n acc _ hn hp]
    exact Ev.now _
   ·simp only [if_neg hx]
    rw [g_end n acc x _ hn h9 h128 (by omega), sum_val n acc x x0 h128]
    exact Ev.now _
  ·simp only [if_neg (show ¬ (n : Int) > 0 by omega)]
   rw [g_end n acc x _ hn h9 h128 (by omega), sum_val n acc x x0 h128]
   exact Ev.now _
 ·simp only [if_neg h128]
  rw [g_more n acc x _ hn h9 h128, ← more_val n acc x (by omega) x1]
  exact ih _ v1
theorem Uv_l0 (b : List Int) (hb : Byts b) (hs : b.length ≤ 1000000000000) : ∀ (d n acc : Nat), n + d = 10 → acc < 128 ^ n → Ev (fun k => bits_Uvarint.l0 k b (acc : Int) (n : Int)) (ug n acc (b.drop n))
 | d, n, acc, hd, ha => by
  refine Ev.step (f := _) (fun k => by simp only [bits_Uvarint.l0]; rfl) ?_
  by_cases hn : n < 10
  ·obtain ⟨d, rfl⟩ : ∃ e, d = e + 1 := ⟨d - 1, by omega⟩
   simp only [if_pos (show (n : Int) < 10 by omega)]
   by_cases hlt : n < b.length
   ·have e1 : (0 : Int) ≤ (n : Int) := by omega
    have e2 : (n : Int) < (b.length : Int) := by omega
    have ih := fun (acc' : Nat) h => Uv_l0 b hb hs d (n + 1) acc' (by omega) h
    simp only [if_neg (show ¬ (n : Int) ≥ (b.length : Int) by omega), if_pos e1, if_pos e2, rdI]
    by_cases h9 : n = 9
    ·simp only [if_pos (show (n : Int) = 9 by omega)]
     by_cases hx : b.getD n 0 > 1
     ·simp only [if_pos hx]
      rw [drop_rd b n hlt]
      subst h9
      rw [g_stop9 acc _ _ hx]
      exact Ev.now _
     ·simp only [if_neg hx]
      exact Uv_j1 b hb hs n acc hn hlt (fun h => hx h.2) ha ih
    ·simp only [if_neg (show ¬ (n : Int) = 9 by omega)]
     exact Uv_j1 b hb hs n acc hn hlt (fun h => h9 h.1) ha ih
   ·simp only [if_pos (show (n : Int) ≥ (b.length : Int) by omega)]
    rw [List.drop_of_length_le (by omega), g_short n acc hn]
    exact Ev.now _
  ·simp only [if_neg (show ¬ (n : Int) < 10 by omega)]
   rw [g_over n acc _ (by omega)]
   exact Ev.now _
theorem RUv_j1 (b : List Int) (hb : Byts b) (hs : b.length ≤ 1000000000000) (n acc : Nat) (hn : n < 10) (hlt : n < b.length) (h9 : ¬ (n = 9 ∧ 1 < b.getD n 0)) (ha : acc < 128 ^ n)
  (ih : ∀ acc' : Nat, acc' < 128 ^ (n + 1) → Ev (fun k => mr01_Uvarint.l0 k b (acc' : Int) ((n + 1 : Nat) : Int)) (ug (n + 1) acc' (b.drop (n + 1)))) :
  Ev (fun k => mr01_Uvarint.j1 k b (acc : Int) (n : Int) (n : Int) false) (ug n acc (b.drop n)) := by
 obtain ⟨x0, x1⟩ := byt_get hb n hlt
 rw [drop_rd b n hlt]
 refine Ev.step (f := _) (fun k => by simp only [mr01_Uvarint.j1]; rfl) ?_
 have e1 : (0 : Int) ≤ (n : Int) := by omega
 have e2 : (n : Int) < (b.length : Int) := by omega
 have e4 : (0 : Int) ≤ ((7 * n : Nat) : Int) := by omega
 obtain ⟨v1, v2⟩ := val_bd n acc _ hn x0 x1 h9 ha
 have hv := add_val n acc _ hn x0 x1 h9 ha
 have hw : IntKind.u64.wrap (b.getD n 0 % 128) = b.getD n 0 % 128 := wraps_u64n _ (by omega) (by omega)
 have hm : Int.tmod (b.getD n 0) 128 = b.getD n 0 % 128 := Int.tmod_eq_emod_of_nonneg x0
 simp only [Bool.false_eq_true, if_false, if_pos e1, if_pos e2, rdI, w7 n hn, if_pos e4, hm, hw, shl7 _ n hn, hv, w1 n (by omega)]
 clear hv hw hm
 generalize b.getD n 0 = x at *
 by_cases h128 : x < 128
 ·simp only [if_pos h128]
  by_cases hp : 0 < n
  ·simp only [if_pos (show (n : Int) > 0 by omega)]
   by_cases hx : x = 0
   ·simp only [if_pos hx]
    rw [hx, g_form n acc _ hn hp]
    exact Ev.now _
   ·simp only [if_neg hx]
    rw [g_end n acc x _ hn h9 h128 (by omega), sum_val n acc x x0 h128]
    exact Ev.now _
  ·simp only [if_neg (show ¬ (n : Int) > 0 by omega)]
   rw [g_end n acc x _ hn h9 h128 (by omega), sum_val n acc x x0 h128]
   exact Ev.now _
 ·simp only [if_neg h128]
  rw [g_more n acc x _ hn h9 h128, ← more_val n acc x (by omega) x1]
  exact ih _ v1
theorem RUv_l0 (b : List Int) (hb : Byts b) (hs : b.length ≤ 1000000000000) : ∀ (d n acc : Nat), n + d = 10 → n ≤ b.length → acc < 128 ^ n → Ev (fun k => mr01_Uvarint.l0 k b (acc : Int) (n : Int)) (ug n acc (b.drop n))
 | d, n, acc, hd, hnb, ha => by
  refine Ev.step (f := _) (fun k => by simp only [mr01_Uvarint.l0]; rfl) ?_
  by_cases hn : n < 10
  ·obtain ⟨d, rfl⟩ : ∃ e, d = e + 1 := ⟨d - 1, by omega⟩
   simp only [if_pos (show (n : Int) < 10 by omega)]
   by_cases hlt : n < b.length
   ·have e1 : (0 : Int) ≤ (n : Int) := by omega
    have e2 : (n : Int) < (b.length : Int) := by omega
    have ih := fun (acc' : Nat) h => RUv_l0 b hb hs d (n + 1) acc' (by omega) (by omega) h
    simp only [if_neg (show ¬ (n : Int) = (b.length : Int) by omega), if_pos e1, if_pos e2, rdI]
    by_cases h9 : n = 9
    ·simp only [if_pos (show (n : Int) = 9 by omega)]
     by_cases hx : b.getD n 0 > 1
     ·rw [decide_eq_true hx]
      refine Ev.step (f := _) (fun k => by simp only [mr01_Uvarint.j1]; rfl) ?_
      simp only [if_true]
      rw [drop_rd b n hlt]
      subst h9
      rw [g_stop9 acc _ _ hx]
      exact Ev.now _
     ·rw [decide_eq_false hx]
      exact RUv_j1 b hb hs n acc hn hlt (fun h => hx h.2) ha ih
    ·simp only [if_neg (show ¬ (n : Int) = 9 by omega)]
     exact RUv_j1 b hb hs n acc hn hlt (fun h => h9 h.1) ha ih
   ·simp only [if_pos (show (n : Int) = (b.length : Int) by omega)]
    rw [List.drop_of_length_le (by omega), g_short n acc hn]
    exact Ev.now _
  ·simp only [if_neg (show ¬ (n : Int) < 10 by omega)]
   rw [g_over n acc _ (by omega)]
   exact Ev.now _
theorem Uvarint_ev (b : List Int) (hb : Byts b) (hs : b.length ≤ 1000000000000) : Ev (fun k => bits_Uvarint.f k b) (uget b) ∧ Ev (fun k => mr01_Uvarint.f k b) (uget b) :=
 ⟨Uv_l0 b hb hs 10 0 0 rfl (by decide), RUv_l0 b hb hs 10 0 0 rfl (Nat.zero_le _) (by decide)⟩
theorem PutU_l0 (n : Nat) : ∀ acc : List Int, acc.length + (uv n).length ≤ 1000000000000 → Ev (fun k => bits_PutUvarint.l0 k (n : Int) acc) (acc ++ Bq.ints (uv n)) := by
 induction n using Nat.strongRecOn with
 | _ n ih =>
  intro acc hl
  refine Ev.step (f := _) (fun k => by simp only [bits_PutUvarint.l0]; rfl) ?_
  have hp := uv_pos n
  simp only [if_pos (show acc.length < 140737488355328 by omega)]
  by_cases h : n < 128
  ·simp only [if_neg (show ¬ (n : Int) > 127 by omega)]
   rw [uv_small n h, show (n : Int) % 256 = (n : Int) by omega]
   exact Ev.now _
  ·simp only [if_pos (show (n : Int) > 127 by omega)]
   have e : (n : Int) % 256 = ((n % 256 : Nat) : Int) := by omega
   rw [uv_big n (by omega), List.length_cons] at hl
   rw [e, or128n _ (by omega), show n % 256 % 128 = n % 128 by omega, show (n : Int) / 128 = ((n / 128 : Nat) : Int) by omega]
   have := ih (n / 128) (by omega) (acc ++ [((n % 128 + 128 : Nat) : Int)]) (by rw [List.length_append, List.length_singleton]; omega)
   rw [List.append_assoc] at this
   rw [uv_big n (by omega)]
   exact this
theorem RPutU_l0 (n : Nat) : ∀ acc : List Int, n < 18446744073709551616 → acc.length + (uv n).length ≤ 1000000000000 → Ev (fun k => mr01_PutUvarint.l0 k (n : Int) acc) (acc ++ Bq.ints (uv n)) := by
 induction n using Nat.strongRecOn with
 | _ n ih =>
  intro acc hn hl
  refine Ev.step (f := _) (fun k => by simp only [mr01_PutUvarint.l0]; rfl) ?_
  have hp := uv_pos n
  simp only [if_pos (show acc.length < 140737488355328 by omega)]
  by_cases h : n < 128
  ·simp only [if_neg (show ¬ (n : Int) ≥ 128 by omega)]
   rw [uv_small n h, show (n : Int) % 256 = (n : Int) by omega]
   exact Ev.now _
  ·simp only [if_pos (show (n : Int) ≥ 128 by omega)]
   rw [uv_big n (by omega), List.length_cons] at hl
   rw [Int.tmod_eq_emod_of_nonneg (by omega), Int.tdiv_eq_ediv_of_nonneg (by omega), show ((n : Int) % 128 + 128) % 256 = ((n % 128 + 128 : Nat) : Int) by omega, show (n : Int) / 128 = ((n / 128 : Nat) : Int) by omega, wraps_u64n _ (by omega) (by omega)]
   have := ih (n / 128) (by omega) (acc ++ [((n % 128 + 128 : Nat) : Int)]) (by omega) (by rw [List.length_append, List.length_singleton]; omega)
   rw [List.append_assoc] at this
   rw [uv_big n (by omega)]
   exact this
theorem PutUvarint_ev (n : Nat) (hn : n < 18446744073709551616) : Ev (fun k => bits_PutUvarint.f k (n : Int)) (Bq.ints (uv n)) ∧ Ev (fun k => mr01_PutUvarint.f k (n : Int)) (Bq.ints (uv n)) := by
 have h := uv_len10 n hn
 have h1 := PutU_l0 n [] (by simp; omega)
 have h2 := RPutU_l0 n [] hn (by simp; omega)
 exact ⟨h1, h2⟩
theorem rdL (l : List (List Int)) (n : Nat) : rd_L3 l (n : Int) = l.getD n [] := by unfold rd_L3; rw [Int.toNat_natCast]
theorem Join_l0 (ps : List (List Int)) (hp : ps.length ≤ 1000000) : ∀ (d n : Nat) (acc : List Int), n + d = ps.length → acc.length + (ps.drop n).flatten.length ≤ 100000000000 → Ev (fun k => mr01_Join.l0 k acc ps (ps.length : Int) (n : Int)) (acc ++ (ps.drop n).flatten)
 | d, n, acc, hd, hl => by
  refine Ev.step (f := _) (fun k => by simp only [mr01_Join.l0]; rfl) ?_
  by_cases hlt : n < ps.length
  ·obtain ⟨d, rfl⟩ : ∃ e, d = e + 1 := ⟨d - 1, by omega⟩
   have e1 : (n : Int) < (ps.length : Int) := by omega
   have e2 : (0 : Int) ≤ (n : Int) := by omega
   have e3 : ps.drop n = ps.getD n [] :: ps.drop (n + 1) := by
    rw [List.drop_eq_getElem_cons hlt, List.getD_eq_getElem?_getD, List.getElem?_eq_getElem hlt]
    rfl
   rw [e3, List.flatten_cons, List.length_append] at hl
   have e4 : acc.length + (ps.getD n []).length < 140737488355328 := by omega
   simp only [if_pos e1, if_pos e2, rdL, if_pos e4, w1 n (by omega)]
   rw [e3, List.flatten_cons, ← List.append_assoc]
   exact Join_l0 ps hp d (n + 1) _ (by omega) (by rw [List.length_append]; omega)
  ·simp only [if_neg (show ¬ (n : Int) < (ps.length : Int) by omega)]
   rw [List.drop_of_length_le (by omega)]
   simp only [List.flatten_nil, List.append_nil]
   exact Ev.now _
theorem Join_ev (ps : List (List Int)) (hp : ps.length ≤ 1000000) (hl : ps.flatten.length ≤ 100000000000) : Ev (fun k => mr01_Join.f k ps) ps.flatten := by
 have := Join_l0 ps hp ps.length 0 [] (by omega) (by simpa using hl)
 simpa [mr01_Join.f] using this
theorem bitR_eq (n i : Nat) : (((n : Int) / 2 ^ i) % 2 == 1) = n.testBit i := by
 rw [Nat.testBit_eq_decide_div_mod_eq]
 have e : ((n : Int) / 2 ^ i) % 2 = ((n / 2 ^ i % 2 : Nat) : Int) := by simp
 rw [e]
 by_cases h : n / 2 ^ i % 2 = 1
 ·rw [h]; rfl
 ·have : n / 2 ^ i % 2 = 0 := by omega
  rw [this]; rfl
theorem shr_bit (n i : Nat) (hi : i < 64) (hn : n < 18446744073709551616) : (bits .and .u64 (shr .u64 (n : Int) (i : Int)) 1 == 1) = n.testBit i := by
 have hs : shr .u64 (n : Int) (i : Int) = ((n / 2 ^ i : Nat) : Int) := by
  unfold shr
  rw [Int.toNat_natCast, Nat.min_eq_left (by show i ≤ 64; omega)]
  simp
 have hd : n / 2 ^ i < 18446744073709551616 := Nat.lt_of_le_of_lt (Nat.div_le_self _ _) hn
 have h := bitR_eq n i
 rw [← h, hs]
 have e : ((n : Int) / 2 ^ i) = ((n / 2 ^ i : Nat) : Int) := by simp
 rw [e]
 generalize n / 2 ^ i = q at hd
 rw [and_one _ (by omega) (by omega)]
theorem zigI_bd (n : Int) (h0 : -9223372036854775808 ≤ n) (h1 : n ≤ 9223372036854775807) : 0 ≤ zigI n ∧ zigI n < 18446744073709551616 := by unfold zigI; split <;> omega
theorem Zig_eq (n : Int) (h0 : -9223372036854775808 ≤ n) (h1 : n ≤ 9223372036854775807) : bits_Zig.f n = some (zigI n) ∧ mr01_Zig.f n = some (zigI n) := by
 constructor
 ·unfold bits_Zig.f
  have e : wrap64 (n * 2) = IntKind.i64.wrap (n * 2) := by rw [IntKind.wrap_i64]; unfold wrap64; omega
  rw [e, zig_bits n h0 h1]
 ·unfold mr01_Zig.f zigI
  split
  ·rename_i h
   have e1 : wrap64 (n + 1) = n + 1 := w64 (by omega) (by omega)
   have e2 : wrap64 (-(n + 1)) = -(n + 1) := w64 (by omega) (by omega)
   rw [e1, e2]
   simp only [IntKind.wrap_u64]
   congr 1
   omega
  ·simp only [IntKind.wrap_u64]
   congr 1
   omega
def vI (n : Int) : List Int := Bq.ints (uv (zigI n).toNat)
theorem vI_len (n : Int) (h0 : -9223372036854775808 ≤ n) (h1 : n ≤ 9223372036854775807) : (vI n).length ≤ 10 := by
 unfold vI
 rw [Bq.ints_length]
 have := zigI_bd n h0 h1
 exact uv_len10 (zigI n).toNat (by omega)
theorem PutVarint_ev (n : Int) (h0 : -9223372036854775808 ≤ n) (h1 : n ≤ 9223372036854775807) : Ev (fun k => bits_PutVarint.f k n) (vI n) ∧ Ev (fun k => mr01_PutVarint.f k n) (vI n) := by
 obtain ⟨e1, e2⟩ := Zig_eq n h0 h1
 have hz := zigI_bd n h0 h1
 obtain ⟨z, hz2⟩ := Int.eq_ofNat_of_zero_le hz.1
 obtain ⟨p1, p2⟩ := PutUvarint_ev z (by omega)
 unfold bits_PutVarint.f mr01_PutVarint.f vI
 rw [e1, e2, hz2]
 simp only [Option.bind_some, Int.toNat_natCast]
 exact ⟨Ev.bind p1 (Ev.now _), Ev.bind p2 (Ev.now _)⟩
def varG (xs : List Int) : Int × Int × Int := (zagI (uget xs).1, (uget xs).2.1, (uget xs).2.2)
theorem varG_cases (xs : List Int) (hb : Byts xs) : (∃ (v : Int) (n : Nat), n ≤ xs.length ∧ varG xs = (v, (n : Int), 0)) ∨ (∃ e : Int, ¬ e = 0 ∧ varG xs = (0, 0, e)) := by
 rcases uget_cases xs hb with ⟨n, h, hl, _, _⟩ | ⟨e, he, h⟩
 ·exact .inl ⟨zagI n, (uv n).length, hl, by unfold varG; rw [h]⟩
 ·exact .inr ⟨e, he, by unfold varG; rw [h]; rfl⟩
theorem Zag_eq (n : Nat) (h : n < 18446744073709551616) : bits_Zag.f (n : Int) = some (zagI n) ∧ mr01_Zag.f (n : Int) = some (zagI n) := by
 constructor
 ·unfold bits_Zag.f
  rw [and_one _ (by omega) (by omega), w64 (x := (n : Int) / 2) (by omega) (by omega), w64 (x := (n : Int) % 2) (by omega) (by omega), w64 (x := -((n : Int) % 2)) (by omega) (by omega), zag_bits _ (by omega) (by omega)]
 ·unfold mr01_Zag.f zagI
  rw [Int.tmod_eq_emod_of_nonneg (by omega), Int.tdiv_eq_ediv_of_nonneg (by omega)]
  have e : IntKind.u64.wrap ((n : Int) / 2) = (n : Int) / 2 := by rw [IntKind.wrap_u64]; omega
  rw [e, w64 (x := (n : Int) / 2) (by omega) (by omega), w64 (x := -((n : Int) / 2)) (by omega) (by omega), w64 (x := -((n : Int) / 2) - 1) (by omega) (by omega)]
  by_cases h1 : (n : Int) % 2 = 1
  ·rw [if_pos h1, if_pos h1]
   congr 1
   omega
  ·rw [if_neg h1, if_neg h1]
theorem Varint_ev (b : List Int) (hb : Byts b) (hs : b.length ≤ 1000000000000) : Ev (fun k => bits_Varint.f k b) (varG b) ∧ Ev (fun k => mr01_Varint.f k b) (varG b) := by
 obtain ⟨u1, u2⟩ := Uvarint_ev b hb hs
 unfold bits_Varint.f mr01_Varint.f varG
 rcases uget_cases b hb with ⟨n, h, hl, _, hn⟩ | ⟨e, he, h⟩
 ·obtain ⟨z1, z2⟩ := Zag_eq n hn
  rw [h] at u1 u2 ⊢
  constructor
  ·refine Ev.bind u1 ?_
   simp only [z1, Option.bind_some]
   exact Ev.now _
  ·refine Ev.bind u2 ?_
   simp only [if_pos trivial, z2, Option.bind_some]
   exact Ev.now _
 ·obtain ⟨z1, z2⟩ := Zag_eq 0 (by decide)
  have z1' : bits_Zag.f 0 = some (zagI 0) := z1
  rw [h] at u1 u2 ⊢
  constructor
  ·refine Ev.bind u1 ?_
   simp only [z1', Option.bind_some]
   exact Ev.now _
  ·refine Ev.bind u2 ?_
   simp only [if_neg he]
   exact Ev.now _
theorem zagI_bd (n : Nat) (h : n < 18446744073709551616) : -9223372036854775808 ≤ zagI n ∧ zagI n ≤ 9223372036854775807 := by unfold zagI; split <;> omega
theorem varG_back (xs : List Int) (hb : Byts xs) (he : (varG xs).2.2 = 0) : ∃ (v : Int) (n : Nat), varG xs = (v, (n : Int), 0) ∧ n ≤ xs.length ∧ vI v = xs.take n ∧ -9223372036854775808 ≤ v ∧ v ≤ 9223372036854775807 := by
 rcases uget_cases xs hb with ⟨n, h, hl, ht, hn⟩ | ⟨e, hne, h⟩
 ·have hbd := zagI_bd n hn
  refine ⟨zagI n, (uv n).length, by unfold varG; rw [h], hl, ?_, hbd.1, hbd.2⟩
  unfold vI
  rw [zig_zag (n : Int) (by omega), Int.toNat_natCast]
  exact ht
 ·unfold varG at he
  rw [h] at he
  exact absurd he hne
theorem Letter_f (c : Int) : mr05_Letter.f c = some (letB c) := by
 unfold mr05_Letter.f letB fstB
 repeat' split
 all_goals simp only [Option.some.injEq]
 all_goals (rw [Bool.eq_iff_iff]; simp; omega)
def resN (l : Str) (n : Nat) : Bool := (l.drop n).all (fun b => letB b.toNat) && (decide (1 ≤ l.length) && decide (l.length ≤ 64) && (decide ((l.getD 0 0).toNat < 48) || decide (57 < (l.getD 0 0).toNat)))
theorem resN_zero (l : Str) : resN l 0 = namedB l := by
 rw [Bool.eq_iff_iff]
 unfold resN
 rw [List.drop_zero]
 constructor
 ·intro h
  simp only [Bool.and_eq_true, List.all_eq_true, decide_eq_true_eq, Bool.or_eq_true] at h
  obtain ⟨h1, ⟨h2, h3⟩, h4⟩ := h
  have hm : l.getD 0 0 ∈ l := by rw [List.getD_eq_getElem?_getD, List.getElem?_eq_getElem (by omega)]; exact List.getElem_mem _
  have h5 := h1 _ hm
  refine namedB_yes (by omega) h3 (fun i hi => h1 _ (by rw [List.getD_eq_getElem?_getD, List.getElem?_eq_getElem hi]; exact List.getElem_mem _)) ?_
  unfold letB at h5
  rcases Bool.or_eq_true _ _ ▸ h5 with h5 | h5
  ·exact h5
  ·simp only [Bool.and_eq_true, decide_eq_true_eq] at h5
   omega
 ·intro h
  obtain ⟨h1, h2, h3, h4⟩ := namedB_letters h
  have hl := List.length_pos_iff.2 h1
  simp only [Bool.and_eq_true, List.all_eq_true, decide_eq_true_eq, Bool.or_eq_true]
  refine ⟨h3, ⟨by omega, h2⟩, ?_⟩
  unfold fstB at h4
  simp only [Bool.or_eq_true, Bool.and_eq_true, decide_eq_true_eq, beq_iff_eq] at h4
  omega
theorem Named_l0 (s : ByteArray) (hs : s.size ≤ 1000000000000) : ∀ (d n k : Nat), n + d = s.size → d < k → mr05_Named.l0 k s (s.size : Int) (n : Int) = some (resN (B s) n)
 | d, n, k, hd, hk => by
  have hl := kD s
  obtain ⟨k, rfl⟩ := succ_of hk
  by_cases hlt : n < s.size
  ·obtain ⟨d, rfl⟩ : ∃ e, d = e + 1 := ⟨d - 1, by omega⟩
   have ih := Named_l0 s hs d (n + 1) k (by omega) (by omega)
   simp only [mr05_Named.l0]
   rw [if_pos (by omega), if_pos (by omega), if_pos (by omega), Letter_f, bt_B, w64 (by omega) (by omega)]
   have e1 : resN (B s) n = (letB ((B s).getD n 0).toNat && resN (B s) (n + 1)) := by
    unfold resN
    rw [drop_cons (B s) n (by omega), List.all_cons, Bool.and_assoc]
   rw [e1]
   cases letB ((B s).getD n 0).toNat with
   | false => simp
   | true =>
    simp only [Option.bind_some, if_true, Bool.true_and]
    exact_mod_cast ih
  ·have hn : n = s.size := by omega
   simp only [mr05_Named.l0]
   rw [if_neg (by omega)]
   have e1 : (B s).drop n = [] := List.drop_of_length_le (by omega)
   have e0 := bt_B s 0
   rw [show ((0 : Nat) : Int) = 0 from rfl] at e0
   unfold resN
   rw [e1, List.all_nil, Bool.true_and, hl, e0]
   by_cases h1 : 1 ≤ s.size
   ·rw [if_pos (by omega), decide_eq_true h1]
    by_cases h2 : s.size ≤ 64
    ·rw [if_pos (by omega), if_pos (by omega), decide_eq_true h2]
     by_cases h3 : ((B s).getD 0 0).toNat < 48
     ·rw [if_pos (by omega), decide_eq_true h3]; rfl
     ·rw [if_neg (by omega), decide_eq_false h3]
      simp only [Bool.true_and, Bool.false_or, Option.some.injEq]
      rw [Bool.eq_iff_iff]
      simp only [decide_eq_true_eq]
      omega
    ·rw [if_neg (by omega), decide_eq_false h2]; rfl
   ·rw [if_neg (by omega), decide_eq_false h1]; rfl
theorem Named_ev (s : ByteArray) (hs : s.size ≤ 1000000000000) : Ev (fun k => mr05_Named.f k s) (namedB (B s)) :=
 Ev.at s.size (fun k hk => by
  unfold mr05_Named.f
  have h := Named_l0 s hs s.size 0 k (by omega) hk
  rw [resN_zero] at h
  exact h)
theorem bt_lett : ∀ v : Fin 64, bt (⟨#[65, 66, 67, 68, 69, 70, 71, 72, 73, 74, 75, 76, 77, 78, 79, 80, 81, 82, 83, 84, 85, 86, 87, 88, 89, 90, 97, 98, 99, 100, 101, 102, 103, 104, 105, 106, 107, 108, 109, 110, 111, 112, 113, 114, 115, 116, 117, 118, 119, 120, 121, 122, 48, 49, 50, 51, 52, 53, 54, 55, 56, 57, 45, 95]⟩ : ByteArray) (v.val : Int) = lett.getD v.val 0 := by decide +kernel
theorem bytesOf_byts (s : ByteArray) : Byts (bytesOf s) := fun x hx => by
 obtain ⟨b, _, rfl⟩ := List.mem_map.1 hx
 have := b.toNat_lt
 omega
theorem value_l0 (c : Int) : ∀ (d n : Nat), n + d = 64 → (∀ j, j < n → lett.getD j 0 ≠ c) → Ev (fun k => mr03_value.l0 k c (n : Int)) (((sixV c).getD 64 : Nat) : Int)
 | d, n, hd, hj => by
  refine Ev.step (f := _) (fun k => by simp only [mr03_value.l0]; rfl) ?_
  rcases d with _ | d
  ·simp only [if_neg (show ¬ (n : Int) < 64 by omega)]
   have h : sixV c = none := by
    cases hv : sixV c with
    | none => rfl
    | some v => exact absurd (six_lett c v hv) (hj _ (by have := (sixV_lt hv).1; omega))
   rw [h]
   exact Ev.now _
  ·have hb := bt_lett ⟨n, by omega⟩
   simp only at hb
   simp only [if_pos (show (n : Int) < 64 by omega), if_pos (show (0 : Int) ≤ (n : Int) by omega), hb, w1 n (by omega)]
   by_cases he : lett.getD n 0 = c
   ·simp only [if_pos he]
    have h := (lett_six ⟨n, by omega⟩).1
    simp only [he] at h
    rw [h, show IntKind.u64.wrap (n : Int) = (n : Int) by rw [IntKind.wrap_u64]; omega]
    exact Ev.now _
   ·simp only [if_neg he]
    exact value_l0 c d (n + 1) (by omega) (fun j hjn => by
     by_cases h : j < n
     ·exact hj j h
     ·obtain rfl : j = n := by omega
      exact he)
theorem value_ev (c : Int) : Ev (fun k => mr03_value.f k c) (((sixV c).getD 64 : Nat) : Int) := value_l0 c 64 0 (by omega) (fun j h => absurd h (Nat.not_lt_zero j))
theorem Put_l0 (n : Nat) (hn : n < 18446744073709551616) : ∀ (j : Nat) (R : List Bool), j ≤ 64 → R.length + j ≤ 1000000000 → Ev (fun k => mr01_Put.l0 k R (n : Int) ((j : Int) - 1)) (R ++ nb n j)
 | 0, R, hj, hl => by
  refine Ev.step (f := _) (fun k => by simp only [mr01_Put.l0]; rfl) ?_
  simp only [if_neg (show ¬ ((0 : Nat) : Int) - 1 ≥ 0 by omega)]
  rw [nb_zero, List.append_nil]
  exact Ev.now _
 | j + 1, R, hj, hl => by
  refine Ev.step (f := _) (fun k => by simp only [mr01_Put.l0]; rfl) ?_
  have e : ((j + 1 : Nat) : Int) - 1 = (j : Int) := by omega
  have ew : IntKind.u64.wrap (j : Int) = (j : Int) := by rw [IntKind.wrap_u64]; omega
  have e2 : wrap64 ((j : Int) - 1) = (j : Int) - 1 := w64 (by omega) (by omega)
  simp only [e, if_pos (show (j : Int) ≥ 0 by omega), ew, if_pos (show (0 : Int) ≤ (j : Int) by omega), if_pos (show R.length < 140737488355328 by omega), shr_bit n j (by omega) hn, e2]
  have := Put_l0 n hn j (R ++ [n.testBit j]) (by omega) (by rw [List.length_append, List.length_singleton]; omega)
  rw [List.append_assoc] at this
  rw [nb_succ]
  exact this
theorem Put_ev (R : List Bool) (n j : Nat) (hn : n < 18446744073709551616) (hj : j ≤ 64) (hl : R.length + j ≤ 1000000000) : Ev (fun k => mr01_Put.f k R (n : Int) (j : Int)) (R ++ nb n j) := by
 unfold mr01_Put.f
 rw [show wrap64 ((j : Int) - 1) = (j : Int) - 1 from w64 (by omega) (by omega)]
 exact Put_l0 n hn j R hj hl
theorem cut_lett (n : Nat) (h : n < 64) : (⟨#[65, 66, 67, 68, 69, 70, 71, 72, 73, 74, 75, 76, 77, 78, 79, 80, 81, 82, 83, 84, 85, 86, 87, 88, 89, 90, 97, 98, 99, 100, 101, 102, 103, 104, 105, 106, 107, 108, 109, 110, 111, 112, 113, 114, 115, 116, 117, 118, 119, 120, 121, 122, 48, 49, 50, 51, 52, 53, 54, 55, 56, 57, 45, 95]⟩ : ByteArray).extract n (n + 1) = strOfNums [lett.getD n 0] := by
 have : ∀ k : Fin 64, (⟨#[65, 66, 67, 68, 69, 70, 71, 72, 73, 74, 75, 76, 77, 78, 79, 80, 81, 82, 83, 84, 85, 86, 87, 88, 89, 90, 97, 98, 99, 100, 101, 102, 103, 104, 105, 106, 107, 108, 109, 110, 111, 112, 113, 114, 115, 116, 117, 118, 119, 120, 121, 122, 48, 49, 50, 51, 52, 53, 54, 55, 56, 57, 45, 95]⟩ : ByteArray).extract k.val (k.val + 1) = strOfNums [lett.getD k.val 0] := by decide +kernel
 exact this ⟨n, h⟩
theorem arm_pad (R : List Bool) (h : R.length % 6 ≠ 0) : arm (R ++ [false]) = arm R := by
 obtain ⟨q, hq⟩ : ∃ q, q = R.length / 6 := ⟨_, rfl⟩
 have hd : (R.take (6 * q)).length = 6 * q := by rw [List.length_take]; omega
 have ht : (R.drop (6 * q)).length = R.length % 6 := by rw [List.length_drop]; omega
 have e : R ++ [false] = R.take (6 * q) ++ (R.drop (6 * q) ++ [false]) := by rw [← List.append_assoc, List.take_append_drop]
 have h1 : arm (R ++ [false]) = arm (R.take (6 * q)) ++ [six1 (R.drop (6 * q) ++ [false])] := by
  rw [e, arm_append q _ _ hd, arm_short (R.drop (6 * q) ++ [false]) (by simp) (by rw [List.length_append, List.length_singleton]; omega)]
 have h2 : arm R = arm (R.take (6 * q)) ++ [six1 (R.drop (6 * q))] := by
  rw [← arm_short (R.drop (6 * q)) (fun e => by rw [e] at ht; simp at ht; omega) (by omega), ← arm_append q _ _ hd, List.take_append_drop]
 rw [h1, h2]
 congr 2
 unfold six1
 rw [bnum_snoc, List.length_append, List.length_singleton, ht]
 congr 1
 have e2 : 6 - R.length % 6 = 6 - (R.length % 6 + 1) + 1 := by omega
 rw [e2, Nat.pow_succ]
 simp only [Bool.toNat_false, Nat.add_zero]
 rw [Nat.mul_comm 2, Nat.mul_assoc, Nat.mul_comm 2]
theorem RArmor_l1 : ∀ (q : Nat) (R : List Bool) (S : ByteArray), R.length = 6 * q → S.size + q ≤ 1000000000 → Ev (fun k => mr03_Armor.l1 k R S) (S ++ strOfNums (arm R))
 | 0, R, S, h, hs => by
  refine Ev.step (f := _) (fun k => by simp only [mr03_Armor.l1]; rfl) ?_
  have : R = [] := List.eq_nil_of_length_eq_zero (by omega)
  subst this
  simp only [if_neg (show ¬ ((([] : List Bool).length : Int)) > 0 by simp)]
  rw [arm_nil]
  have e : S ++ strOfNums [] = S := B_inj (by rw [B_append]; show B S ++ [] = B S; rw [List.append_nil])
  rw [e]
  exact Ev.now _
 | q + 1, R, S, h, hs => by
  refine Ev.step (f := _) (fun k => by simp only [mr03_Armor.l1]; rfl) ?_
  have ht : (R.take 6).length = 6 := by rw [List.length_take]; omega
  have hlt := bnum_lt (R.take 6)
  rw [ht] at hlt
  have hnum : mr01_Number.f (R.take 6) = some ((bnum (R.take 6) : Nat) : Int) := by
   unfold mr01_Number.f
   rw [if_pos (by omega)]
  simp only [if_pos (show (R.length : Int) > 0 by omega), if_pos (show (6 : Int) ≤ (R.length : Int) by omega)]
  refine Ev.bindc hnum ?_
  obtain ⟨v, hv⟩ : ∃ v, v = bnum (R.take 6) := ⟨_, rfl⟩
  rw [← hv] at hlt
  have e1 : IntKind.u64.wrap ((v : Int) + 1) = ((v + 1 : Nat) : Int) := by rw [IntKind.wrap_u64]; omega
  rw [← hv]
  simp only [e1, if_pos (show (0 : Int) ≤ (v : Int) by omega), if_pos (show (v : Int) ≤ ((v + 1 : Nat) : Int) by omega), if_pos (show ((v + 1 : Nat) : Int) ≤ 64 by omega), Int.toNat_natCast, cut_lett v (by omega), strOfNums_size, List.length_singleton, if_pos (show S.size + 1 ≤ 9223372036854775807 by omega)]
  have hR : R ≠ [] := fun e => by rw [e] at h; simp at h
  have ih := RArmor_l1 q (R.drop 6) (S ++ strOfNums [lett.getD v 0]) (by rw [List.length_drop]; omega) (by rw [ByteArray.size_append, strOfNums_size, List.length_singleton]; omega)
  rw [arm_cons R hR, six1_full _ ht, ← hv]
  have e2 : S ++ strOfNums (lett.getD v 0 :: arm (R.drop 6)) = S ++ strOfNums [lett.getD v 0] ++ strOfNums (arm (R.drop 6)) := by
   rw [show lett.getD v 0 :: arm (R.drop 6) = [lett.getD v 0] ++ arm (R.drop 6) from rfl, sN_append]
   exact B_inj (by rw [B_append, B_append, B_append, B_append, List.append_assoc])
  rw [e2]
  exact ih
theorem RArmor_l0 : ∀ (d : Nat) (R : List Bool), (R.length + d) % 6 = 0 → d < 6 → R.length + d ≤ 10000000 → Ev (fun k => mr03_Armor.l0 k R) (strOfNums (arm R))
 | d, R, h, hd, hl => by
  refine Ev.step (f := _) (fun k => by simp only [mr03_Armor.l0]; rfl) ?_
  by_cases h0 : R.length % 6 = 0
  ·simp only [if_pos (show ((R.length : Int) % 6) = 0 by omega)]
   have h1 := RArmor_l1 (R.length / 6) R (⟨#[]⟩ : ByteArray) (by omega) (by show 0 + _ ≤ _; omega)
   have e : (⟨#[]⟩ : ByteArray) ++ strOfNums (arm R) = strOfNums (arm R) := B_inj (by rw [B_append]; rfl)
   rw [e] at h1
   exact h1
  ·rcases d with _ | d
   ·omega
   ·simp only [if_neg (show ¬ ((R.length : Int) % 6) = 0 by omega), if_pos (show R.length < 140737488355328 by omega)]
    rw [← arm_pad R h0]
    exact RArmor_l0 d (R ++ [false]) (by rw [List.length_append, List.length_singleton]; omega) (by omega) (by rw [List.length_append, List.length_singleton]; omega)
theorem all_byts {xs : List Int} (h : Byts xs) : xs.all (fun x => decide (0 ≤ x ∧ x < 256)) = true := List.all_eq_true.2 (fun x hx => decide_eq_true (h x hx))
theorem RArmor_ev (xs : List Int) (hb : Byts xs) (hl : xs.length ≤ 1000000) : Ev (fun k => mr03_Armor.f k xs) (strOfNums (armor xs)) := by
 unfold mr03_Armor.f
 have e : wrap64 (8 * (xs.length : Int)) = ((8 * xs.length : Nat) : Int) := wn (by omega) (by omega)
 have hbits : mr01_Bits.f xs (wrap64 (8 * (xs.length : Int))) = some (bitsOf xs (8 * xs.length)) := by
  rw [e]
  unfold mr01_Bits.f
  rw [if_pos hl, if_pos (all_byts hb), if_pos (by omega), if_pos (by omega), Int.toNat_natCast]
 refine Ev.bindc hbits ?_
 unfold armor
 exact RArmor_l0 ((6 - (bitsOf xs (8 * xs.length)).length % 6) % 6) _ (by omega) (by omega) (by rw [kE]; omega)
theorem sN_bytesOf (s : ByteArray) : strOfNums (bytesOf s) = s := by
 apply B_inj
 show (bytesOf s).map _ = s.data.toList
 unfold bytesOf
 rw [List.map_map]
 have : ((fun n : Int => UInt8.ofNat n.toNat) ∘ fun b : UInt8 => (b.toNat : Int)) = id := by
  funext b
  simp
 rw [this, List.map_id]
theorem u8_inj {x y : Int} (hx : 0 ≤ x ∧ x < 256) (hy : 0 ≤ y ∧ y < 256) (h : UInt8.ofNat x.toNat = UInt8.ofNat y.toNat) : x = y := by
 have := congrArg UInt8.toNat h
 rw [UInt8.toNat_ofNat', UInt8.toNat_ofNat'] at this
 omega
theorem sN_inj : ∀ {xs ys : List Int}, Byts xs → Byts ys → strOfNums xs = strOfNums ys → xs = ys
 | [], [], _, _, _ => rfl
 | [], y :: ys, _, _, h => by have := congrArg ByteArray.size h; rw [strOfNums_size, strOfNums_size] at this; simp at this
 | x :: xs, [], _, _, h => by have := congrArg ByteArray.size h; rw [strOfNums_size, strOfNums_size] at this; simp at this
 | x :: xs, y :: ys, hx, hy, h => by
  have h1 : B (strOfNums (x :: xs)) = B (strOfNums (y :: ys)) := by rw [h]
  have h2 : UInt8.ofNat x.toNat :: xs.map (fun x => UInt8.ofNat x.toNat) = UInt8.ofNat y.toNat :: ys.map (fun x => UInt8.ofNat x.toNat) := h1
  injection h2 with h3 h4
  have h5 : strOfNums xs = strOfNums ys := B_inj h4
  rw [u8_inj (hx x List.mem_cons_self) (hy y List.mem_cons_self) h3, sN_inj (fun z hz => hx z (List.mem_cons_of_mem _ hz)) (fun z hz => hy z (List.mem_cons_of_mem _ hz)) h5]
theorem bytesOf_sN {xs : List Int} (h : Byts xs) : bytesOf (strOfNums xs) = xs := sN_inj (bytesOf_byts _) h (sN_bytesOf _)
theorem six1_byt (l : List Bool) : 0 ≤ six1 l ∧ six1 l < 256 := by
 unfold six1
 rw [List.getD_eq_getElem?_getD]
 by_cases h : bnum l * 2 ^ (6 - l.length) < lett.length
 ·rw [List.getElem?_eq_getElem h]
  have : ∀ x ∈ lett, 0 ≤ x ∧ x < 256 := by decide
  exact this _ (List.getElem_mem h)
 ·rw [List.getElem?_eq_none (by omega)]
  decide
theorem arm_byts : ∀ (n : Nat) (l : List Bool), l.length ≤ n → Byts (arm l)
 | n, l, h => by
  by_cases he : l = []
  ·subst he
   rw [arm_nil]
   exact fun x hx => by cases hx
  ·rw [arm_cons l he]
   have hp := (List.length_pos_iff.2 he)
   intro x hx
   rcases List.mem_cons.1 hx with rfl | hx
   ·exact six1_byt _
   ·rcases n with _ | n
    ·omega
    ·exact arm_byts n (l.drop 6) (by rw [List.length_drop]; omega) x hx
theorem vals_bytes {s : ByteArray} {vs : List Nat} (h : (B s).map (fun c => sixV (c.toNat : Int)) = vs.map some) : bytesOf s = vs.map (fun v => lett.getD v 0) ∧ ∀ v ∈ vs, v < 64 := by
 unfold B at h
 unfold bytesOf
 generalize s.data.toList = l at h
 clear s
 induction l generalizing vs with
 | nil =>
  have : vs = [] := List.map_eq_nil_iff.1 (by rw [← h]; rfl)
  subst this
  exact ⟨rfl, fun v hv => by cases hv⟩
 | cons c l ih =>
  rcases vs with _ | ⟨v, vs⟩
  ·cases h
  ·rw [List.map_cons, List.map_cons] at h
   injection h with h1 h2
   obtain ⟨i1, i2⟩ := ih h2
   refine ⟨?_, fun u hu => ?_⟩
   ·rw [List.map_cons, List.map_cons, i1, six_lett _ v h1]
   ·rcases List.mem_cons.1 hu with rfl | hu
    ·exact (sixV_lt h1).1
    ·exact i2 u hu
theorem unR_text {s : ByteArray} {vs : List Nat} (h : (B s).map (fun c => sixV (c.toNat : Int)) = vs.map some) :
  (strOfNums (armor (packI (full8 (rowV vs)))) = s ↔ ¬ ((rowV vs).length % 8 = 6 ∨ bnum (rest8 (rowV vs)) ≠ 0)) := by
 obtain ⟨h1, h2⟩ := vals_bytes h
 rw [armor_pack (full8 (rowV vs)) _ (full8_length _), ← arm_full (rowV vs) vs.length (rowV_length vs), arm_row vs h2, ← h1]
 constructor
 ·intro e
  rw [← e, bytesOf_sN (arm_byts _ _ (Nat.le_refl _))]
 ·intro e
  rw [e, sN_bytesOf]
theorem RUnarmor_l0 (s : ByteArray) (hs : s.size ≤ 100000) : ∀ (d n : Nat) (vs : List Nat), n + d = s.size → ((B s).take n).map (fun c => sixV (c.toNat : Int)) = vs.map some →
  Ev (fun k => mr03_Unarmor.l0 k s (rowV vs) (s.size : Int) (n : Int)) (unL (B s) 0 0 [])
 | d, n, vs, hd, hv => by
  have hvl : vs.length = n := by
   have := congrArg List.length hv
   rw [List.length_map, List.length_map, List.length_take, kD] at this
   omega
  have hrl := rowV_length vs
  refine Ev.step (f := _) (fun k => by simp only [mr03_Unarmor.l0]; rfl) ?_
  rcases d with _ | d
  ·simp only [if_neg (show ¬ (n : Int) < (s.size : Int) by omega)]
   have hall : (B s).map (fun c => sixV (c.toNat : Int)) = vs.map some := by
    rwa [List.take_of_length_le (by rw [kD]; omega)] at hv
   obtain ⟨R, hR⟩ : ∃ R, R = rowV vs := ⟨_, rfl⟩
   have e1 : wrap64 (wrap64 ((R.length : Int) / 8) * 8) = ((8 * (R.length / 8) : Nat) : Int) := by
    rw [hR, wn (x := ((rowV vs).length : Int) / 8) (n := (rowV vs).length / 8) (by omega) (by omega)]
    exact wn (by omega) (by omega)
   have hT : unR (rowV vs) = if strOfNums (armor (packI (full8 (rowV vs)))) = s then (packI (full8 (rowV vs)), 0) else ([], 8) := by
    unfold unR
    by_cases hc : (rowV vs).length % 8 = 6 ∨ bnum (rest8 (rowV vs)) ≠ 0
    ·rw [if_pos hc, if_neg (fun e => (unR_text hall).1 e hc)]
    ·rw [if_neg hc, if_pos ((unR_text hall).2 hc)]
   rw [unL_vals (B s) vs hall, hT]
   rw [← hR]
   have hbytes : mr01_Bytes.f (full8 R) = some (packI (full8 R)) := by
    unfold mr01_Bytes.f
    rw [if_pos (by rw [full8_length, hR]; omega)]
   have hpl : (packI (full8 R)).length ≤ 1000000 := by
    unfold packI
    rw [ints_length, pack_length, full8_length, hR]
    omega
   simp only [e1, if_pos (show (0 : Int) ≤ ((8 * (R.length / 8) : Nat) : Int) by omega), if_pos (show ((8 * (R.length / 8) : Nat) : Int) ≤ (R.length : Int) by omega), Int.toNat_natCast]
   refine Ev.bindc (a := packI (full8 R)) hbytes ?_
   refine Ev.bind (RArmor_ev _ (byts_packI _) hpl) ?_
   by_cases he : strOfNums (armor (packI (full8 R))) = s
   ·rw [if_pos he]
    simp only [he]
    simp only [if_true]
    exact Ev.now _
   ·rw [if_neg he]
    simp only [if_neg (fun e => he (B_inj (by rw [← toList_B, ← toList_B]; exact e)))]
    exact Ev.now _
  ·have hlt : n < (bytesOf s).length := by rw [bytesOf_length]; omega
   simp only [if_pos (show (n : Int) < (s.size : Int) by omega), if_pos (show (0 : Int) ≤ (n : Int) by omega)]
   refine Ev.bind (value_ev _) ?_
   have hbn : n < (B s).length := by rw [kD]; omega
   have hbt : bt s (n : Int) = (((B s)[n]'hbn).toNat : Int) := by
    rw [bt_B, List.getD_eq_getElem?_getD, List.getElem?_eq_getElem hbn]
    rfl
   rw [hbt]
   cases hc : sixV ((((B s)[n]'hbn).toNat : Nat) : Int) with
   | none =>
    simp only [Option.getD_none, if_pos (show (((64 : Nat) : Int)) > 63 by decide)]
    rw [unL_bad (B s) 0 0 [] ⟨_, List.getElem_mem hbn, hc⟩]
    exact Ev.now _
   | some v =>
    have hv64 := (sixV_lt hc).1
    simp only [Option.getD_some, if_neg (show ¬ ((v : Nat) : Int) > 63 by omega)]
    refine Ev.bind (Put_ev (rowV vs) v 6 (by omega) (by decide) (by omega)) ?_
    have e : rowV vs ++ nb v 6 = rowV (vs ++ [v]) := by
     rw [rowV_append, rowV_cons, show rowV [] = [] from rfl, List.append_nil]
    rw [e, w1 n (by omega)]
    exact RUnarmor_l0 s hs d (n + 1) (vs ++ [v]) (by omega) (by rw [List.take_succ_eq_append_getElem hbn, List.map_append, hv, List.map_append, List.map_cons, List.map_nil, hc]; rfl)
theorem RUnarmor_ev (s : ByteArray) (hs : s.size ≤ 100000) : Ev (fun k => mr03_Unarmor.f k s) (unL (B s) 0 0 []) := by
 unfold mr03_Unarmor.f
 exact RUnarmor_l0 s hs s.size 0 [] (by omega) rfl
theorem armor_size (a : List Int) : (strOfNums (armor a)).size = (8 * a.length + 5) / 6 := by
 rw [strOfNums_size, armor, arm_length, kE]
end Go.Proofs.YtkkomfomjpcbfaaDoor.Pu
