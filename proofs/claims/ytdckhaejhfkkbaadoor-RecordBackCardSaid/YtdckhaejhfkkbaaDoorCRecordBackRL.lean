import Derived.Test.YtdckhaejhfkkbaaDoorCRecordBackWGuard
import Derived.Test.YtdckhaejhfkkbaaDoorCRecordBackPRTx21
import Derived.Test.YtdckhaejhfkkbaaDoorCRecordBackPRTx7
import Derived.Test.YtdckhaejhfkkbaaDoorCRecordBackPRTx4
import Derived.Test.YtdckhaejhfkkbaaDoorCRecordBackPRTx3
import Derived.Test.YtdckhaejhfkkbaaDoorCRecordBackPRTx14
import Derived.Test.YtdckhaejhfkkbaaDoorCRecordBackPRTx17
import Derived.Test.YtdckhaejhfkkbaaDoorCRecordBackPRTx16
import Derived.Test.YtdckhaejhfkkbaaDoorCRecordBackPRTx8
import Derived.Test.YtdckhaejhfkkbaaDoorCRecordBackPRTx6
import Derived.Test.YtdckhaejhfkkbaaDoorCRecordBackPRTx9
namespace Go.Proofs.YtdckhaejhfkkbaaDoor.Bq
end Go.Proofs.YtdckhaejhfkkbaaDoor.Bq
namespace Go.Proofs.YtdckhaejhfkkbaaDoor.Pu
open Go Go.RowKit Go.Proofs.YtdckhaejhfkkbaaDoor Go.Proofs.YtdckhaejhfkkbaaDoor.PRT Go.Proofs.YtdckhaejhfkkbaaDoorW.PrintWords Go.Proofs.YtdckhaejhfkkbaaDoorW.PrintLast Go.Proofs.YtdckhaejhfkkbaaDoorW.PrintMore Bq
set_option linter.unusedVariables false
set_option linter.unusedSimpArgs false
theorem rdI (xs : List Int) (n : Nat) : rd xs (n : Int) = xs.getD n 0 := by unfold rd; rw [Int.toNat_natCast]
theorem w7 (n : Nat) (h : n < 10) : IntKind.u64.wrap (wrap64 (7 * (n : Int))) = ((7 * n : Nat) : Int) := by
  rw [wn (n := 7 * n) (by omega) (by omega), wraps_u64n _ (by omega) (by omega)]
theorem shl7 (v : Int) (n : Nat) (h : n < 10) : shl .u64 v ((7 * n : Nat) : Int) = IntKind.u64.wrap (v * 2 ^ (7 * n)) := by
  unfold shl
  rw [Int.toNat_natCast, Nat.min_eq_left (by show 7 * n ≤ 64; omega)]
theorem Uv_j1 (b : List Int) (hb : Byts b) (hs : b.length ≤ 1000000000000) (n acc : Nat) (hn : n < 10) (hlt : n < b.length) (h9 : ¬ (n = 9 ∧ 1 < b.getD n 0)) (ha : acc < 128 ^ n)
    (ih : ∀ acc' : Nat, acc' < 128 ^ (n + 1) → Ev (fun k => bits_Uvarint.l0 k b (acc' : Int) ((n + 1 : Nat) : Int)) (ug (n + 1) acc' (b.drop (n + 1)))) :
    Ev (fun k => bits_Uvarint.j1 k b (acc : Int) (n : Int)) (ug n acc (b.drop n)) := by
  obtain ⟨x0, x1⟩ := byt_get hb n hlt
  rw [drop_rd b n hlt]
  refine Ev.step (f := _) (fun k => by simp only [bits_Uvarint.j1]; rfl) ?_
  have e1 : (0 : Int) ≤ (n : Int) := by omega
  have e2 : (n : Int) < (b.length : Int) := by omega
  have e4 : (0 : Int) ≤ ((7 * n : Nat) : Int) := by omega
  obtain ⟨v1, v2⟩ := val_bd n acc _ hn x0 x1 h9 ha
  have hv := or_val n acc _ hn x0 x1 h9 ha
  have hw : IntKind.u64.wrap (b.getD n 0 % 128) = b.getD n 0 % 128 := wraps_u64n _ (by omega) (by omega)
  have hm := and127n _ x0 x1
  simp only [if_pos e1, if_pos e2, rdI, w7 n hn, if_pos e4, hm, hw, shl7 _ n hn, hv, w1 n (by omega)]
  clear hv hw hm
  generalize b.getD n 0 = x at *
  by_cases h128 : x < 128
  · simp only [if_pos h128]
    by_cases hp : 0 < n
    · simp only [if_pos (show (n : Int) > 0 by omega)]
      by_cases hx : x = 0
      · simp only [if_pos hx]
        rw [hx, g_form n acc _ hn hp]
        exact Ev.now _
      · simp only [if_neg hx]
        rw [g_end n acc x _ hn h9 h128 (by omega), sum_val n acc x x0 h128]
        exact Ev.now _
    · simp only [if_neg (show ¬ (n : Int) > 0 by omega)]
      rw [g_end n acc x _ hn h9 h128 (by omega), sum_val n acc x x0 h128]
      exact Ev.now _
  · simp only [if_neg h128]
    rw [g_more n acc x _ hn h9 h128, ← more_val n acc x (by omega) x1]
    exact ih _ v1
theorem Uv_l0 (b : List Int) (hb : Byts b) (hs : b.length ≤ 1000000000000) : ∀ (d n acc : Nat), n + d = 10 → acc < 128 ^ n → Ev (fun k => bits_Uvarint.l0 k b (acc : Int) (n : Int)) (ug n acc (b.drop n))
  | d, n, acc, hd, ha => by
    refine Ev.step (f := _) (fun k => by simp only [bits_Uvarint.l0]; rfl) ?_
    by_cases hn : n < 10
    · obtain ⟨d, rfl⟩ : ∃ e, d = e + 1 := ⟨d - 1, by omega⟩
      simp only [if_pos (show (n : Int) < 10 by omega)]
      by_cases hlt : n < b.length
      · have e1 : (0 : Int) ≤ (n : Int) := by omega
        have e2 : (n : Int) < (b.length : Int) := by omega
        have ih := fun (acc' : Nat) h => Uv_l0 b hb hs d (n + 1) acc' (by omega) h
        simp only [if_neg (show ¬ (n : Int) ≥ (b.length : Int) by omega), if_pos e1, if_pos e2, rdI]
        by_cases h9 : n = 9
        · simp only [if_pos (show (n : Int) = 9 by omega)]
          by_cases hx : b.getD n 0 > 1
          · simp only [if_pos hx]
            rw [drop_rd b n hlt]
            subst h9
            rw [g_stop9 acc _ _ hx]
            exact Ev.now _
          · simp only [if_neg hx]
            exact Uv_j1 b hb hs n acc hn hlt (fun h => hx h.2) ha ih
        · simp only [if_neg (show ¬ (n : Int) = 9 by omega)]
          exact Uv_j1 b hb hs n acc hn hlt (fun h => h9 h.1) ha ih
      · simp only [if_pos (show (n : Int) ≥ (b.length : Int) by omega)]
        rw [List.drop_of_length_le (by omega), g_short n acc hn]
        exact Ev.now _
    · simp only [if_neg (show ¬ (n : Int) < 10 by omega)]
      rw [g_over n acc _ (by omega)]
      exact Ev.now _
theorem RUv_j1 (b : List Int) (hb : Byts b) (hs : b.length ≤ 1000000000000) (n acc : Nat) (hn : n < 10) (hlt : n < b.length) (h9 : ¬ (n = 9 ∧ 1 < b.getD n 0)) (ha : acc < 128 ^ n)
    (ih : ∀ acc' : Nat, acc' < 128 ^ (n + 1) → Ev (fun k => manometerref01_Uvarint.l0 k b (acc' : Int) ((n + 1 : Nat) : Int)) (ug (n + 1) acc' (b.drop (n + 1)))) :
    Ev (fun k => manometerref01_Uvarint.j1 k b (acc : Int) (n : Int) (n : Int) false) (ug n acc (b.drop n)) := by
  obtain ⟨x0, x1⟩ := byt_get hb n hlt
  rw [drop_rd b n hlt]
  refine Ev.step (f := _) (fun k => by simp only [manometerref01_Uvarint.j1]; rfl) ?_
  have e1 : (0 : Int) ≤ (n : Int) := by omega
  have e2 : (n : Int) < (b.length : Int) := by omega
  have e4 : (0 : Int) ≤ ((7 * n : Nat) : Int) := by omega
  obtain ⟨v1, v2⟩ := val_bd n acc _ hn x0 x1 h9 ha
  have hv := add_val n acc _ hn x0 x1 h9 ha
  have hw : IntKind.u64.wrap (b.getD n 0 % 128) = b.getD n 0 % 128 := wraps_u64n _ (by omega) (by omega)
  have hm : Int.tmod (b.getD n 0) 128 = b.getD n 0 % 128 := Int.tmod_eq_emod_of_nonneg x0
  simp only [Bool.false_eq_true, if_false, if_pos e1, if_pos e2, rdI, w7 n hn, if_pos e4, hm, hw, shl7 _ n hn, hv, w1 n (by omega)]
  clear hv hw hm
  generalize b.getD n 0 = x at *
  by_cases h128 : x < 128
  · simp only [if_pos h128]
    by_cases hp : 0 < n
    · simp only [if_pos (show (n : Int) > 0 by omega)]
      by_cases hx : x = 0
      · simp only [if_pos hx]
        rw [hx, g_form n acc _ hn hp]
        exact Ev.now _
      · simp only [if_neg hx]
        rw [g_end n acc x _ hn h9 h128 (by omega), sum_val n acc x x0 h128]
        exact Ev.now _
    · simp only [if_neg (show ¬ (n : Int) > 0 by omega)]
      rw [g_end n acc x _ hn h9 h128 (by omega), sum_val n acc x x0 h128]
      exact Ev.now _
  · simp only [if_neg h128]
    rw [g_more n acc x _ hn h9 h128, ← more_val n acc x (by omega) x1]
    exact ih _ v1
theorem RUv_l0 (b : List Int) (hb : Byts b) (hs : b.length ≤ 1000000000000) : ∀ (d n acc : Nat), n + d = 10 → n ≤ b.length → acc < 128 ^ n → Ev (fun k => manometerref01_Uvarint.l0 k b (acc : Int) (n : Int)) (ug n acc (b.drop n))
  | d, n, acc, hd, hnb, ha => by
    refine Ev.step (f := _) (fun k => by simp only [manometerref01_Uvarint.l0]; rfl) ?_
    by_cases hn : n < 10
    · obtain ⟨d, rfl⟩ : ∃ e, d = e + 1 := ⟨d - 1, by omega⟩
      simp only [if_pos (show (n : Int) < 10 by omega)]
      by_cases hlt : n < b.length
      · have e1 : (0 : Int) ≤ (n : Int) := by omega
        have e2 : (n : Int) < (b.length : Int) := by omega
        have ih := fun (acc' : Nat) h => RUv_l0 b hb hs d (n + 1) acc' (by omega) (by omega) h
        simp only [if_neg (show ¬ (n : Int) = (b.length : Int) by omega), if_pos e1, if_pos e2, rdI]
        by_cases h9 : n = 9
        · simp only [if_pos (show (n : Int) = 9 by omega)]
          by_cases hx : b.getD n 0 > 1
          · rw [decide_eq_true hx]
            refine Ev.step (f := _) (fun k => by simp only [manometerref01_Uvarint.j1]; rfl) ?_
            simp only [if_true]
            rw [drop_rd b n hlt]
            subst h9
            rw [g_stop9 acc _ _ hx]
            exact Ev.now _
          · rw [decide_eq_false hx]
            exact RUv_j1 b hb hs n acc hn hlt (fun h => hx h.2) ha ih
        · simp only [if_neg (show ¬ (n : Int) = 9 by omega)]
          exact RUv_j1 b hb hs n acc hn hlt (fun h => h9 h.1) ha ih
      · simp only [if_pos (show (n : Int) = (b.length : Int) by omega)]
        rw [List.drop_of_length_le (by omega), g_short n acc hn]
        exact Ev.now _
    · simp only [if_neg (show ¬ (n : Int) < 10 by omega)]
      rw [g_over n acc _ (by omega)]
      exact Ev.now _
theorem Uvarint_ev (b : List Int) (hb : Byts b) (hs : b.length ≤ 1000000000000) : Ev (fun k => bits_Uvarint.f k b) (uget b) ∧ Ev (fun k => manometerref01_Uvarint.f k b) (uget b) :=
  ⟨Uv_l0 b hb hs 10 0 0 rfl (by decide), RUv_l0 b hb hs 10 0 0 rfl (Nat.zero_le _) (by decide)⟩
theorem PutU_l0 (n : Nat) : ∀ acc : List Int, acc.length + (uv n).length ≤ 1000000000000 → Ev (fun k => bits_PutUvarint.l0 k (n : Int) acc) (acc ++ Bq.ints (uv n)) := by
  induction n using Nat.strongRecOn with
  | _ n ih =>
    intro acc hl
    refine Ev.step (f := _) (fun k => by simp only [bits_PutUvarint.l0]; rfl) ?_
    have hp := uv_pos n
    simp only [if_pos (show acc.length < 140737488355328 by omega)]
    by_cases h : n < 128
    · simp only [if_neg (show ¬ (n : Int) > 127 by omega)]
      rw [uv_small n h, show (n : Int) % 256 = (n : Int) by omega]
      exact Ev.now _
    · simp only [if_pos (show (n : Int) > 127 by omega)]
      have e : (n : Int) % 256 = ((n % 256 : Nat) : Int) := by omega
      rw [uv_big n (by omega), List.length_cons] at hl
      rw [e, or128n _ (by omega), show n % 256 % 128 = n % 128 by omega, show (n : Int) / 128 = ((n / 128 : Nat) : Int) by omega]
      have := ih (n / 128) (by omega) (acc ++ [((n % 128 + 128 : Nat) : Int)]) (by rw [List.length_append, List.length_singleton]; omega)
      rw [List.append_assoc] at this
      rw [uv_big n (by omega)]
      exact this
theorem RPutU_l0 (n : Nat) : ∀ acc : List Int, n < 18446744073709551616 → acc.length + (uv n).length ≤ 1000000000000 → Ev (fun k => manometerref01_PutUvarint.l0 k (n : Int) acc) (acc ++ Bq.ints (uv n)) := by
  induction n using Nat.strongRecOn with
  | _ n ih =>
    intro acc hn hl
    refine Ev.step (f := _) (fun k => by simp only [manometerref01_PutUvarint.l0]; rfl) ?_
    have hp := uv_pos n
    simp only [if_pos (show acc.length < 140737488355328 by omega)]
    by_cases h : n < 128
    · simp only [if_neg (show ¬ (n : Int) ≥ 128 by omega)]
      rw [uv_small n h, show (n : Int) % 256 = (n : Int) by omega]
      exact Ev.now _
    · simp only [if_pos (show (n : Int) ≥ 128 by omega)]
      rw [uv_big n (by omega), List.length_cons] at hl
      rw [Int.tmod_eq_emod_of_nonneg (by omega), Int.tdiv_eq_ediv_of_nonneg (by omega), show ((n : Int) % 128 + 128) % 256 = ((n % 128 + 128 : Nat) : Int) by omega, show (n : Int) / 128 = ((n / 128 : Nat) : Int) by omega, wraps_u64n _ (by omega) (by omega)]
      have := ih (n / 128) (by omega) (acc ++ [((n % 128 + 128 : Nat) : Int)]) (by omega) (by rw [List.length_append, List.length_singleton]; omega)
      rw [List.append_assoc] at this
      rw [uv_big n (by omega)]
      exact this
theorem PutUvarint_ev (n : Nat) (hn : n < 18446744073709551616) : Ev (fun k => bits_PutUvarint.f k (n : Int)) (Bq.ints (uv n)) ∧ Ev (fun k => manometerref01_PutUvarint.f k (n : Int)) (Bq.ints (uv n)) := by
  have h := uv_len10 n hn
  have h1 := PutU_l0 n [] (by simp; omega)
  have h2 := RPutU_l0 n [] hn (by simp; omega)
  exact ⟨h1, h2⟩
theorem rdL (l : List (List Int)) (n : Nat) : rd_L9 l (n : Int) = l.getD n [] := by unfold rd_L9; rw [Int.toNat_natCast]
theorem Join_l0 (ps : List (List Int)) (hp : ps.length ≤ 1000000) : ∀ (d n : Nat) (acc : List Int), n + d = ps.length → acc.length + (ps.drop n).flatten.length ≤ 100000000000 → Ev (fun k => manometerref01_Join.l0 k acc ps (ps.length : Int) (n : Int)) (acc ++ (ps.drop n).flatten)
  | d, n, acc, hd, hl => by
    refine Ev.step (f := _) (fun k => by simp only [manometerref01_Join.l0]; rfl) ?_
    by_cases hlt : n < ps.length
    · obtain ⟨d, rfl⟩ : ∃ e, d = e + 1 := ⟨d - 1, by omega⟩
      have e1 : (n : Int) < (ps.length : Int) := by omega
      have e2 : (0 : Int) ≤ (n : Int) := by omega
      have e3 : ps.drop n = ps.getD n [] :: ps.drop (n + 1) := by
        rw [List.drop_eq_getElem_cons hlt, List.getD_eq_getElem?_getD, List.getElem?_eq_getElem hlt]
        rfl
      rw [e3, List.flatten_cons, List.length_append] at hl
      have e4 : acc.length + (ps.getD n []).length < 140737488355328 := by omega
      simp only [if_pos e1, if_pos e2, rdL, if_pos e4, w1 n (by omega)]
      rw [e3, List.flatten_cons, ← List.append_assoc]
      exact Join_l0 ps hp d (n + 1) _ (by omega) (by rw [List.length_append]; omega)
    · simp only [if_neg (show ¬ (n : Int) < (ps.length : Int) by omega)]
      rw [List.drop_of_length_le (by omega)]
      simp only [List.flatten_nil, List.append_nil]
      exact Ev.now _
theorem Join_ev (ps : List (List Int)) (hp : ps.length ≤ 1000000) (hl : ps.flatten.length ≤ 100000000000) : Ev (fun k => manometerref01_Join.f k ps) ps.flatten := by
  have := Join_l0 ps hp ps.length 0 [] (by omega) (by simpa using hl)
  simpa [manometerref01_Join.f] using this
theorem Equal_l0 (a b : List Int) (hs : a.length ≤ 1000000000000) (hab : a.length = b.length) : ∀ (d n : Nat), n + d = a.length → Ev (fun k => manometerref01_Equal.l0 k a b (a.length : Int) (n : Int)) (decide (a.drop n = b.drop n))
  | d, n, hd => by
    refine Ev.step (f := _) (fun k => by simp only [manometerref01_Equal.l0]; rfl) ?_
    by_cases hlt : n < a.length
    · obtain ⟨d, rfl⟩ : ∃ e, d = e + 1 := ⟨d - 1, by omega⟩
      have e1 : (n : Int) < (a.length : Int) := by omega
      have e2 : (0 : Int) ≤ (n : Int) := by omega
      have e3 : (n : Int) < (b.length : Int) := by omega
      simp only [if_pos e1, if_pos e2, if_pos e3, rdI, w1 n (by omega)]
      rw [drop_rd a n hlt, drop_rd b n (by omega)]
      by_cases hx : a.getD n 0 = b.getD n 0
      · simp only [if_pos hx]
        rw [show decide (a.getD n 0 :: a.drop (n + 1) = b.getD n 0 :: b.drop (n + 1)) = decide (a.drop (n + 1) = b.drop (n + 1)) by rw [hx]; simp]
        exact Equal_l0 a b hs hab d (n + 1) (by omega)
      · simp only [if_neg hx]
        rw [decide_eq_false (fun h => hx (List.cons.inj h).1)]
        exact Ev.now _
    · simp only [if_neg (show ¬ (n : Int) < (a.length : Int) by omega)]
      rw [List.drop_of_length_le (by omega), List.drop_of_length_le (by omega)]
      exact Ev.now _
theorem Equal_ev (a b : List Int) (hs : a.length ≤ 1000000000000) : Ev (fun k => manometerref01_Equal.f k a b) (decide (a = b)) := by
  unfold manometerref01_Equal.f
  by_cases h : a.length = b.length
  · simp only [if_pos (show (a.length : Int) = (b.length : Int) by omega)]
    have := Equal_l0 a b hs h a.length 0 (by omega)
    simpa using this
  · simp only [if_neg (show ¬ (a.length : Int) = (b.length : Int) by omega)]
    rw [decide_eq_false (fun e => h (by rw [e]))]
    exact Ev.now _
theorem Letter_f (c : Int) : manometerref05_Letter.f c = some (letB c) := by
  unfold manometerref05_Letter.f letB fstB
  repeat' split
  all_goals simp only [Option.some.injEq]
  all_goals (rw [Bool.eq_iff_iff]; simp; omega)
def resN (l : Str) (n : Nat) : Bool := (l.drop n).all (fun b => letB b.toNat) && (decide (1 ≤ l.length) && decide (l.length ≤ 64) && (decide ((l.getD 0 0).toNat < 48) || decide (57 < (l.getD 0 0).toNat)))
theorem resN_zero (l : Str) : resN l 0 = namedB l := by
  rw [Bool.eq_iff_iff]
  unfold resN
  rw [List.drop_zero]
  constructor
  · intro h
    simp only [Bool.and_eq_true, List.all_eq_true, decide_eq_true_eq, Bool.or_eq_true] at h
    obtain ⟨h1, ⟨h2, h3⟩, h4⟩ := h
    have hm : l.getD 0 0 ∈ l := by rw [List.getD_eq_getElem?_getD, List.getElem?_eq_getElem (by omega)]; exact List.getElem_mem _
    have h5 := h1 _ hm
    refine namedB_yes (by omega) h3 (fun i hi => h1 _ (by rw [List.getD_eq_getElem?_getD, List.getElem?_eq_getElem hi]; exact List.getElem_mem _)) ?_
    unfold letB at h5
    rcases Bool.or_eq_true _ _ ▸ h5 with h5 | h5
    · exact h5
    · simp only [Bool.and_eq_true, decide_eq_true_eq] at h5
      omega
  · intro h
    obtain ⟨h1, h2, h3, h4⟩ := namedB_letters h
    have hl := List.length_pos_iff.2 h1
    simp only [Bool.and_eq_true, List.all_eq_true, decide_eq_true_eq, Bool.or_eq_true]
    refine ⟨h3, ⟨by omega, h2⟩, ?_⟩
    unfold fstB at h4
    simp only [Bool.or_eq_true, Bool.and_eq_true, decide_eq_true_eq, beq_iff_eq] at h4
    omega
theorem Named_l0 (s : ByteArray) (hs : s.size ≤ 1000000000000) : ∀ (d n k : Nat), n + d = s.size → d < k → manometerref05_Named.l0 k s (s.size : Int) (n : Int) = some (resN (B s) n)
  | d, n, k, hd, hk => by
    have hl := B_length s
    obtain ⟨k, rfl⟩ := succ_of hk
    by_cases hlt : n < s.size
    · obtain ⟨d, rfl⟩ : ∃ e, d = e + 1 := ⟨d - 1, by omega⟩
      have ih := Named_l0 s hs d (n + 1) k (by omega) (by omega)
      simp only [manometerref05_Named.l0]
      rw [if_pos (by omega), if_pos (by omega), if_pos (by omega), Letter_f, bt_B, w64 (by omega) (by omega)]
      have e1 : resN (B s) n = (letB ((B s).getD n 0).toNat && resN (B s) (n + 1)) := by
        unfold resN
        rw [drop_cons (B s) n (by omega), List.all_cons, Bool.and_assoc]
      rw [e1]
      cases letB ((B s).getD n 0).toNat with
      | false => simp
      | true =>
        simp only [Option.bind_some, if_true, Bool.true_and]
        exact_mod_cast ih
    · have hn : n = s.size := by omega
      simp only [manometerref05_Named.l0]
      rw [if_neg (by omega)]
      have e1 : (B s).drop n = [] := List.drop_of_length_le (by omega)
      have e0 := bt_B s 0
      rw [show ((0 : Nat) : Int) = 0 from rfl] at e0
      unfold resN
      rw [e1, List.all_nil, Bool.true_and, hl, e0]
      by_cases h1 : 1 ≤ s.size
      · rw [if_pos (by omega), decide_eq_true h1]
        by_cases h2 : s.size ≤ 64
        · rw [if_pos (by omega), if_pos (by omega), decide_eq_true h2]
          by_cases h3 : ((B s).getD 0 0).toNat < 48
          · rw [if_pos (by omega), decide_eq_true h3]; rfl
          · rw [if_neg (by omega), decide_eq_false h3]
            simp only [Bool.true_and, Bool.false_or, Option.some.injEq]
            rw [Bool.eq_iff_iff]
            simp only [decide_eq_true_eq]
            omega
        · rw [if_neg (by omega), decide_eq_false h2]; rfl
      · rw [if_neg (by omega), decide_eq_false h1]; rfl
theorem Named_ev (s : ByteArray) (hs : s.size ≤ 1000000000000) : Ev (fun k => manometerref05_Named.f k s) (namedB (B s)) :=
  Ev.at s.size (fun k hk => by
    unfold manometerref05_Named.f
    have h := Named_l0 s hs s.size 0 k (by omega) hk
    rw [resN_zero] at h
    exact h)
def moreB (l : Str) (a n : Nat) : Bool := decide (a + n ≤ l.length) && (List.range n).all (fun i => decide (128 ≤ (l.getD (a + i) 0).toNat ∧ (l.getD (a + i) 0).toNat ≤ 191))
theorem tdiv64 (b : Nat) (hb : b < 256) : (Int.tdiv (b : Int) 64 % 256 = 2) ↔ (128 ≤ b ∧ b ≤ 191) := by
  rw [Int.tdiv_eq_ediv_of_nonneg (by omega)]
  omega
theorem more_l0 (s : ByteArray) (a n : Nat) (hs : s.size ≤ 1000000000000) (ha : a + n ≤ s.size) : ∀ (d i k : Nat), i + d = n → d < k →
    manometerref05_more.l0 k s (a : Int) (n : Int) (i : Int) = some ((List.range d).all (fun j => decide (128 ≤ ((B s).getD (a + (i + j)) 0).toNat ∧ ((B s).getD (a + (i + j)) 0).toNat ≤ 191)))
  | d, i, k, hd, hk => by
    have hl := B_length s
    obtain ⟨k, rfl⟩ := succ_of hk
    by_cases hlt : i < n
    · obtain ⟨d, rfl⟩ : ∃ e, d = e + 1 := ⟨d - 1, by omega⟩
      have ih := more_l0 s a n hs ha d (i + 1) k (by omega) (by omega)
      simp only [manometerref05_more.l0]
      rw [if_pos (by omega), w64 (x := (a : Int) + i) (by omega) (by omega), if_pos (by omega), if_pos (by omega), show (a : Int) + i = ((a + i : Nat) : Int) by omega, bt_B, w64 (by omega) (by omega), show (i : Int) + 1 = ((i + 1 : Nat) : Int) by omega, ih]
      have hb := ((B s).getD (a + i) 0).toNat_lt
      rw [List.range_succ_eq_map, List.all_cons, List.all_map]
      by_cases h : 128 ≤ ((B s).getD (a + i) 0).toNat ∧ ((B s).getD (a + i) 0).toNat ≤ 191
      · rw [if_pos ((tdiv64 _ hb).2 h)]
        simp only [Nat.add_zero, decide_eq_true h, Bool.true_and, Function.comp_def, Nat.succ_eq_add_one, show ∀ j, i + 1 + j = i + (j + 1) from fun j => by omega]
      · rw [if_neg (fun hh => h ((tdiv64 _ hb).1 hh))]
        simp only [Nat.add_zero, decide_eq_false h, Bool.false_and]
    · obtain rfl : d = 0 := by omega
      simp only [manometerref05_more.l0]
      rw [if_neg (by omega)]
      rfl
theorem more_f (s : ByteArray) (a n k : Nat) (hs : s.size ≤ 1000000000000) (hn : n ≤ 3) (ha : a ≤ s.size + 1) (hk : 4 ≤ k) : manometerref05_more.f k s (a : Int) (n : Int) = some (moreB (B s) a n) := by
  unfold manometerref05_more.f moreB
  rw [B_length, w64 (by omega) (by omega)]
  by_cases h : a + n ≤ s.size
  · rw [if_neg (by omega), decide_eq_true h, Bool.true_and]
    have := more_l0 s a n hs h n 0 k (by omega) (by omega)
    simpa using this
  · rw [if_pos (by omega), decide_eq_false h]; rfl
theorem more1 (l : Str) (a : Nat) : moreB l a 1 = decide (a + 1 ≤ l.length ∧ 128 ≤ (l.getD a 0).toNat ∧ (l.getD a 0).toNat ≤ 191) := by
  rw [Bool.eq_iff_iff]
  simp [moreB, List.range_succ]
theorem more2 (l : Str) (a : Nat) : moreB l a 2 = decide (a + 2 ≤ l.length ∧ (128 ≤ (l.getD a 0).toNat ∧ (l.getD a 0).toNat ≤ 191) ∧ 128 ≤ (l.getD (a + 1) 0).toNat ∧ (l.getD (a + 1) 0).toNat ≤ 191) := by
  rw [Bool.eq_iff_iff]
  simp [moreB, List.range_succ]
theorem more3 (l : Str) (a : Nat) : moreB l a 3 = decide (a + 3 ≤ l.length ∧ (128 ≤ (l.getD a 0).toNat ∧ (l.getD a 0).toNat ≤ 191) ∧ (128 ≤ (l.getD (a + 1) 0).toNat ∧ (l.getD (a + 1) 0).toNat ≤ 191) ∧ 128 ≤ (l.getD (a + 2) 0).toNat ∧ (l.getD (a + 2) 0).toNat ≤ 191) := by
  rw [Bool.eq_iff_iff]
  simp [moreB, List.range_succ]
def stepN (l : Str) : Nat :=
  if (l.getD 0 0).toNat < 128 then 1 else
  match Lib.checkN l.length (l.getD 1 0).toNat (l.getD 2 0).toNat (l.getD 3 0).toNat (Lib.firstT (l.getD 0 0).toNat % 8) (Lib.accLo (Lib.firstT (l.getD 0 0).toNat / 16)) (Lib.accHi (Lib.firstT (l.getD 0 0).toNat / 16)) with
  | none => 0
  | some k => k
theorem tmodi (a : Nat) (b : Int) (hb : 0 < b) : Int.tmod (a : Int) b = (a : Int) % b := Int.tmod_eq_emod_of_nonneg (by omega)
theorem sum3 (c c1 c2 : Nat) (hc : c < 256) (h1 : c1 < 256) (h2 : c2 < 256) :
    wrap64 ((wrap64 ((wrap64 ((wrap64 (Int.tmod (c : Int) 16)) * 4096)) + (wrap64 ((wrap64 (Int.tmod (c1 : Int) 64)) * 64)))) + (wrap64 (Int.tmod (c2 : Int) 64))) = ((c % 16 * 4096 + c1 % 64 * 64 + c2 % 64 : Nat) : Int) := by
  rw [tmodi c 16 (by decide), tmodi c1 64 (by decide), tmodi c2 64 (by decide)]
  rw [w64 (x := (c : Int) % 16) (by omega) (by omega), w64 (x := (c1 : Int) % 64) (by omega) (by omega), w64 (x := (c2 : Int) % 64) (by omega) (by omega)]
  rw [w64 (x := (c : Int) % 16 * 4096) (by omega) (by omega), w64 (x := (c1 : Int) % 64 * 64) (by omega) (by omega)]
  rw [w64 (x := (c : Int) % 16 * 4096 + (c1 : Int) % 64 * 64) (by omega) (by omega), w64 (by omega) (by omega)]
  omega
theorem sum4 (c c1 c2 c3 : Nat) (hc : c < 256) (h1 : c1 < 256) (h2 : c2 < 256) (h3 : c3 < 256) :
    wrap64 ((wrap64 ((wrap64 ((wrap64 ((wrap64 (Int.tmod (c : Int) 8)) * 262144)) + (wrap64 ((wrap64 (Int.tmod (c1 : Int) 64)) * 4096)))) + (wrap64 ((wrap64 (Int.tmod (c2 : Int) 64)) * 64)))) + (wrap64 (Int.tmod (c3 : Int) 64))) = ((c % 8 * 262144 + c1 % 64 * 4096 + c2 % 64 * 64 + c3 % 64 : Nat) : Int) := by
  rw [tmodi c 8 (by decide), tmodi c1 64 (by decide), tmodi c2 64 (by decide), tmodi c3 64 (by decide)]
  rw [w64 (x := (c : Int) % 8) (by omega) (by omega), w64 (x := (c1 : Int) % 64) (by omega) (by omega), w64 (x := (c2 : Int) % 64) (by omega) (by omega), w64 (x := (c3 : Int) % 64) (by omega) (by omega)]
  rw [w64 (x := (c : Int) % 8 * 262144) (by omega) (by omega), w64 (x := (c1 : Int) % 64 * 4096) (by omega) (by omega), w64 (x := (c2 : Int) % 64 * 64) (by omega) (by omega)]
  rw [w64 (x := (c : Int) % 8 * 262144 + (c1 : Int) % 64 * 4096) (by omega) (by omega), w64 (x := (c : Int) % 8 * 262144 + (c1 : Int) % 64 * 4096 + (c2 : Int) % 64 * 64) (by omega) (by omega), w64 (by omega) (by omega)]
  omega
def stepC (n c c1 c2 c3 : Nat) : Int :=
  if c < 128 then 1 else
  match Lib.checkN n c1 c2 c3 (Lib.firstT c % 8) (Lib.accLo (Lib.firstT c / 16)) (Lib.accHi (Lib.firstT c / 16)) with
  | none => 0
  | some k => k
def stepD (n c c1 c2 c3 : Nat) : Int :=
  if c < 128 then 1
  else if 194 ≤ c ∧ c < 224 then (if 2 ≤ n ∧ 128 ≤ c1 ∧ c1 ≤ 191 then 2 else 0)
  else if 224 ≤ c ∧ c < 240 then (if (3 ≤ n ∧ (128 ≤ c1 ∧ c1 ≤ 191) ∧ 128 ≤ c2 ∧ c2 ≤ 191) ∧ 2048 ≤ c % 16 * 4096 + c1 % 64 * 64 + c2 % 64 ∧ (c % 16 * 4096 + c1 % 64 * 64 + c2 % 64 < 55296 ∨ 57343 < c % 16 * 4096 + c1 % 64 * 64 + c2 % 64) then 3 else 0)
  else if 240 ≤ c ∧ c < 245 then (if (4 ≤ n ∧ (128 ≤ c1 ∧ c1 ≤ 191) ∧ (128 ≤ c2 ∧ c2 ≤ 191) ∧ 128 ≤ c3 ∧ c3 ≤ 191) ∧ 65536 ≤ c % 8 * 262144 + c1 % 64 * 4096 + c2 % 64 * 64 + c3 % 64 ∧ c % 8 * 262144 + c1 % 64 * 4096 + c2 % 64 * 64 + c3 % 64 ≤ 1114111 then 4 else 0)
  else 0
theorem check2 (n c1 c2 c3 lo hi : Nat) : Lib.checkN n c1 c2 c3 2 lo hi = if n < 2 ∨ c1 < lo ∨ hi < c1 then none else some 2 := rfl
theorem check3 (n c1 c2 c3 lo hi : Nat) : Lib.checkN n c1 c2 c3 3 lo hi = if n < 3 ∨ c1 < lo ∨ hi < c1 ∨ c2 < 128 ∨ 191 < c2 then none else some 3 := rfl
theorem check4 (n c1 c2 c3 lo hi : Nat) : Lib.checkN n c1 c2 c3 4 lo hi = if n < 4 ∨ c1 < lo ∨ hi < c1 ∨ c2 < 128 ∨ 191 < c2 ∨ c3 < 128 ∨ 191 < c3 then none else some 4 := rfl
theorem check1 (n c1 c2 c3 lo hi : Nat) : Lib.checkN n c1 c2 c3 1 lo hi = none := rfl
theorem stepC_D (n c c1 c2 c3 : Nat) (hc : c < 256) (h1 : c1 < 256) (h2 : c2 < 256) (h3 : c3 < 256) : stepC n c c1 c2 c3 = stepD n c c1 c2 c3 := by
  unfold stepC stepD
  by_cases h : c < 128
  · rw [if_pos h, if_pos h]
  rw [if_neg h, if_neg h]
  by_cases g1 : c < 194
  · have e : Lib.firstT c = 241 := by simp [Lib.firstT, h, g1]
    rw [e, check1, if_neg (by omega), if_neg (by omega), if_neg (by omega)]
  by_cases g2 : c < 224
  · have e : Lib.firstT c = 2 := by simp [Lib.firstT, h, g1, g2]
    rw [e, check2, if_pos (by omega : 194 ≤ c ∧ c < 224)]
    by_cases q : n < 2 ∨ c1 < Lib.accLo (2 / 16) ∨ Lib.accHi (2 / 16) < c1
    · rw [if_pos q, if_neg (by simp [Lib.accLo, Lib.accHi] at q; omega)]
    · rw [if_neg q, if_pos (by simp [Lib.accLo, Lib.accHi] at q; omega)]; rfl
  rw [if_neg (by omega : ¬ (194 ≤ c ∧ c < 224))]
  by_cases g3 : c < 240
  · rw [if_pos (by omega : 224 ≤ c ∧ c < 240)]
    by_cases a1 : c = 224
    · subst a1
      rw [show Lib.firstT 224 = 19 from rfl, check3]
      by_cases q : n < 3 ∨ c1 < Lib.accLo (19 / 16) ∨ Lib.accHi (19 / 16) < c1 ∨ c2 < 128 ∨ 191 < c2
      · rw [if_pos q, if_neg (by simp [Lib.accLo, Lib.accHi] at q; omega)]
      · rw [if_neg q, if_pos (by simp [Lib.accLo, Lib.accHi] at q; omega)]; rfl
    by_cases a2 : c = 237
    · subst a2
      rw [show Lib.firstT 237 = 35 from rfl, check3]
      by_cases q : n < 3 ∨ c1 < Lib.accLo (35 / 16) ∨ Lib.accHi (35 / 16) < c1 ∨ c2 < 128 ∨ 191 < c2
      · rw [if_pos q, if_neg (by simp [Lib.accLo, Lib.accHi] at q; omega)]
      · rw [if_neg q, if_pos (by simp [Lib.accLo, Lib.accHi] at q; omega)]; rfl
    have e : Lib.firstT c = 3 := by
      unfold Lib.firstT
      rw [if_neg h, if_neg g1, if_neg g2, if_neg a1]
      by_cases a3 : c < 237
      · rw [if_pos a3]
      · rw [if_neg a3, if_neg a2, if_pos g3]
    rw [e, check3]
    by_cases q : n < 3 ∨ c1 < Lib.accLo (3 / 16) ∨ Lib.accHi (3 / 16) < c1 ∨ c2 < 128 ∨ 191 < c2
    · rw [if_pos q, if_neg (by simp [Lib.accLo, Lib.accHi] at q; omega)]
    · rw [if_neg q, if_pos (by simp [Lib.accLo, Lib.accHi] at q; omega)]; rfl
  rw [if_neg (by omega : ¬ (224 ≤ c ∧ c < 240))]
  by_cases g4 : c < 245
  · rw [if_pos (by omega : 240 ≤ c ∧ c < 245)]
    by_cases a1 : c = 240
    · subst a1
      rw [show Lib.firstT 240 = 52 from rfl, check4]
      by_cases q : n < 4 ∨ c1 < Lib.accLo (52 / 16) ∨ Lib.accHi (52 / 16) < c1 ∨ c2 < 128 ∨ 191 < c2 ∨ c3 < 128 ∨ 191 < c3
      · rw [if_pos q, if_neg (by simp [Lib.accLo, Lib.accHi] at q; omega)]
      · rw [if_neg q, if_pos (by simp [Lib.accLo, Lib.accHi] at q; omega)]; rfl
    by_cases a2 : c = 244
    · subst a2
      rw [show Lib.firstT 244 = 68 from rfl, check4]
      by_cases q : n < 4 ∨ c1 < Lib.accLo (68 / 16) ∨ Lib.accHi (68 / 16) < c1 ∨ c2 < 128 ∨ 191 < c2 ∨ c3 < 128 ∨ 191 < c3
      · rw [if_pos q, if_neg (by simp [Lib.accLo, Lib.accHi] at q; omega)]
      · rw [if_neg q, if_pos (by simp [Lib.accLo, Lib.accHi] at q; omega)]; rfl
    have e : Lib.firstT c = 4 := by
      unfold Lib.firstT
      rw [if_neg h, if_neg g1, if_neg g2, if_neg (by omega : ¬ c = 224), if_neg (by omega : ¬ c < 237), if_neg (by omega : ¬ c = 237), if_neg g3, if_neg a1, if_pos (by omega : c < 244)]
    rw [e, check4]
    by_cases q : n < 4 ∨ c1 < Lib.accLo (4 / 16) ∨ Lib.accHi (4 / 16) < c1 ∨ c2 < 128 ∨ 191 < c2 ∨ c3 < 128 ∨ 191 < c3
    · rw [if_pos q, if_neg (by simp [Lib.accLo, Lib.accHi] at q; omega)]
    · rw [if_neg q, if_pos (by simp [Lib.accLo, Lib.accHi] at q; omega)]; rfl
  rw [if_neg (by omega : ¬ (240 ≤ c ∧ c < 245))]
  have e : Lib.firstT c = 241 := by
    unfold Lib.firstT
    rw [if_neg h, if_neg g1, if_neg g2, if_neg (by omega : ¬ c = 224), if_neg (by omega : ¬ c < 237), if_neg (by omega : ¬ c = 237), if_neg g3, if_neg (by omega : ¬ c = 240), if_neg (by omega : ¬ c < 244), if_neg (by omega : ¬ c = 244)]
  rw [e, check1]
theorem stepN_C (l : Str) : (stepN l : Int) = stepC l.length (l.getD 0 0).toNat (l.getD 1 0).toNat (l.getD 2 0).toNat (l.getD 3 0).toNat := by
  unfold stepN stepC
  split
  · rfl
  · split <;> rfl
theorem ite_dec {α : Type} (p : Prop) [Decidable p] (a b : α) : (if decide p = true then a else b) = if p then a else b := by
  by_cases h : p <;> simp [h]
def stepE (n c c1 c2 c3 u v : Nat) : Int :=
  if c < 128 then 1
  else if 194 ≤ c ∧ c < 224 then (if 2 ≤ n ∧ 128 ≤ c1 ∧ c1 ≤ 191 then 2 else 0)
  else if 224 ≤ c ∧ c < 240 then (if (3 ≤ n ∧ (128 ≤ c1 ∧ c1 ≤ 191) ∧ 128 ≤ c2 ∧ c2 ≤ 191) ∧ 2048 ≤ u ∧ (u < 55296 ∨ 57343 < u) then 3 else 0)
  else if 240 ≤ c ∧ c < 245 then (if (4 ≤ n ∧ (128 ≤ c1 ∧ c1 ≤ 191) ∧ (128 ≤ c2 ∧ c2 ≤ 191) ∧ 128 ≤ c3 ∧ c3 ≤ 191) ∧ 65536 ≤ v ∧ v ≤ 1114111 then 4 else 0)
  else 0
theorem stepD_E (n c c1 c2 c3 : Nat) : stepD n c c1 c2 c3 = stepE n c c1 c2 c3 (c % 16 * 4096 + c1 % 64 * 64 + c2 % 64) (c % 8 * 262144 + c1 % 64 * 4096 + c2 % 64 * 64 + c3 % 64) := rfl
theorem step_core (n a c c1 c2 c3 u v : Nat) (ha : a < n) :
    (if (0 : Int) ≤ (a : Int) then (if (a : Int) < (n : Int) then (if (c : Int) < 128 then some 1 else (if (c : Int) ≥ 194 then (if (c : Int) < 224 then (if a + 2 ≤ n ∧ 128 ≤ c1 ∧ c1 ≤ 191 then some 2 else (if (c : Int) ≥ 224 then
        if (c : Int) < 240 then
          (if a + 3 ≤ n ∧ (128 ≤ c1 ∧ c1 ≤ 191) ∧ 128 ≤ c2 ∧ c2 ≤ 191 then
            (if (0 : Int) ≤ ((a + 1 : Nat) : Int) then (if ((a + 1 : Nat) : Int) < (n : Int) then (if (0 : Int) ≤ ((a + 2 : Nat) : Int) then (if ((a + 2 : Nat) : Int) < (n : Int) then (if (u : Int) ≥ 2048 then (if (u : Int) < 55296 then some (3 : Int) else if (u : Int) > 57343 then some 3 else some 0) else some 0) else none) else none) else none) else none)
          else (if (c : Int) ≥ 240 then if (c : Int) < 245 then (if a + 4 ≤ n ∧ (128 ≤ c1 ∧ c1 ≤ 191) ∧ (128 ≤ c2 ∧ c2 ≤ 191) ∧ 128 ≤ c3 ∧ c3 ≤ 191 then (if (0 : Int) ≤ ((a + 1 : Nat) : Int) then (if ((a + 1 : Nat) : Int) < (n : Int) then (if (0 : Int) ≤ ((a + 2 : Nat) : Int) then (if ((a + 2 : Nat) : Int) < (n : Int) then (if (0 : Int) ≤ ((a + 3 : Nat) : Int) then (if ((a + 3 : Nat) : Int) < (n : Int) then (if (v : Int) ≥ 65536 then (if (v : Int) ≤ 1114111 then some 4 else some 0) else some 0) else none) else none) else none) else none) else none) else none) else some 0) else some 0 else some 0))
        else (if (c : Int) ≥ 240 then if (c : Int) < 245 then (if a + 4 ≤ n ∧ (128 ≤ c1 ∧ c1 ≤ 191) ∧ (128 ≤ c2 ∧ c2 ≤ 191) ∧ 128 ≤ c3 ∧ c3 ≤ 191 then (if (0 : Int) ≤ ((a + 1 : Nat) : Int) then (if ((a + 1 : Nat) : Int) < (n : Int) then (if (0 : Int) ≤ ((a + 2 : Nat) : Int) then (if ((a + 2 : Nat) : Int) < (n : Int) then (if (0 : Int) ≤ ((a + 3 : Nat) : Int) then (if ((a + 3 : Nat) : Int) < (n : Int) then (if (v : Int) ≥ 65536 then (if (v : Int) ≤ 1114111 then some 4 else some 0) else some 0) else none) else none) else none) else none) else none) else none) else some 0) else some 0 else some 0)
      else (if (c : Int) ≥ 240 then if (c : Int) < 245 then (if a + 4 ≤ n ∧ (128 ≤ c1 ∧ c1 ≤ 191) ∧ (128 ≤ c2 ∧ c2 ≤ 191) ∧ 128 ≤ c3 ∧ c3 ≤ 191 then (if (0 : Int) ≤ ((a + 1 : Nat) : Int) then (if ((a + 1 : Nat) : Int) < (n : Int) then (if (0 : Int) ≤ ((a + 2 : Nat) : Int) then (if ((a + 2 : Nat) : Int) < (n : Int) then (if (0 : Int) ≤ ((a + 3 : Nat) : Int) then (if ((a + 3 : Nat) : Int) < (n : Int) then (if (v : Int) ≥ 65536 then (if (v : Int) ≤ 1114111 then some 4 else some 0) else some 0) else none) else none) else none) else none) else none) else none) else some 0) else some 0 else some 0))) else (if (c : Int) ≥ 224 then
        if (c : Int) < 240 then
          (if a + 3 ≤ n ∧ (128 ≤ c1 ∧ c1 ≤ 191) ∧ 128 ≤ c2 ∧ c2 ≤ 191 then
            (if (0 : Int) ≤ ((a + 1 : Nat) : Int) then (if ((a + 1 : Nat) : Int) < (n : Int) then (if (0 : Int) ≤ ((a + 2 : Nat) : Int) then (if ((a + 2 : Nat) : Int) < (n : Int) then (if (u : Int) ≥ 2048 then (if (u : Int) < 55296 then some (3 : Int) else if (u : Int) > 57343 then some 3 else some 0) else some 0) else none) else none) else none) else none)
          else (if (c : Int) ≥ 240 then if (c : Int) < 245 then (if a + 4 ≤ n ∧ (128 ≤ c1 ∧ c1 ≤ 191) ∧ (128 ≤ c2 ∧ c2 ≤ 191) ∧ 128 ≤ c3 ∧ c3 ≤ 191 then (if (0 : Int) ≤ ((a + 1 : Nat) : Int) then (if ((a + 1 : Nat) : Int) < (n : Int) then (if (0 : Int) ≤ ((a + 2 : Nat) : Int) then (if ((a + 2 : Nat) : Int) < (n : Int) then (if (0 : Int) ≤ ((a + 3 : Nat) : Int) then (if ((a + 3 : Nat) : Int) < (n : Int) then (if (v : Int) ≥ 65536 then (if (v : Int) ≤ 1114111 then some 4 else some 0) else some 0) else none) else none) else none) else none) else none) else none) else some 0) else some 0 else some 0))
        else (if (c : Int) ≥ 240 then if (c : Int) < 245 then (if a + 4 ≤ n ∧ (128 ≤ c1 ∧ c1 ≤ 191) ∧ (128 ≤ c2 ∧ c2 ≤ 191) ∧ 128 ≤ c3 ∧ c3 ≤ 191 then (if (0 : Int) ≤ ((a + 1 : Nat) : Int) then (if ((a + 1 : Nat) : Int) < (n : Int) then (if (0 : Int) ≤ ((a + 2 : Nat) : Int) then (if ((a + 2 : Nat) : Int) < (n : Int) then (if (0 : Int) ≤ ((a + 3 : Nat) : Int) then (if ((a + 3 : Nat) : Int) < (n : Int) then (if (v : Int) ≥ 65536 then (if (v : Int) ≤ 1114111 then some 4 else some 0) else some 0) else none) else none) else none) else none) else none) else none) else some 0) else some 0 else some 0)
      else (if (c : Int) ≥ 240 then if (c : Int) < 245 then (if a + 4 ≤ n ∧ (128 ≤ c1 ∧ c1 ≤ 191) ∧ (128 ≤ c2 ∧ c2 ≤ 191) ∧ 128 ≤ c3 ∧ c3 ≤ 191 then (if (0 : Int) ≤ ((a + 1 : Nat) : Int) then (if ((a + 1 : Nat) : Int) < (n : Int) then (if (0 : Int) ≤ ((a + 2 : Nat) : Int) then (if ((a + 2 : Nat) : Int) < (n : Int) then (if (0 : Int) ≤ ((a + 3 : Nat) : Int) then (if ((a + 3 : Nat) : Int) < (n : Int) then (if (v : Int) ≥ 65536 then (if (v : Int) ≤ 1114111 then some 4 else some 0) else some 0) else none) else none) else none) else none) else none) else none) else some 0) else some 0 else some 0))) else (if (c : Int) ≥ 224 then
        if (c : Int) < 240 then
          (if a + 3 ≤ n ∧ (128 ≤ c1 ∧ c1 ≤ 191) ∧ 128 ≤ c2 ∧ c2 ≤ 191 then
            (if (0 : Int) ≤ ((a + 1 : Nat) : Int) then (if ((a + 1 : Nat) : Int) < (n : Int) then (if (0 : Int) ≤ ((a + 2 : Nat) : Int) then (if ((a + 2 : Nat) : Int) < (n : Int) then (if (u : Int) ≥ 2048 then (if (u : Int) < 55296 then some (3 : Int) else if (u : Int) > 57343 then some 3 else some 0) else some 0) else none) else none) else none) else none)
          else (if (c : Int) ≥ 240 then if (c : Int) < 245 then (if a + 4 ≤ n ∧ (128 ≤ c1 ∧ c1 ≤ 191) ∧ (128 ≤ c2 ∧ c2 ≤ 191) ∧ 128 ≤ c3 ∧ c3 ≤ 191 then (if (0 : Int) ≤ ((a + 1 : Nat) : Int) then (if ((a + 1 : Nat) : Int) < (n : Int) then (if (0 : Int) ≤ ((a + 2 : Nat) : Int) then (if ((a + 2 : Nat) : Int) < (n : Int) then (if (0 : Int) ≤ ((a + 3 : Nat) : Int) then (if ((a + 3 : Nat) : Int) < (n : Int) then (if (v : Int) ≥ 65536 then (if (v : Int) ≤ 1114111 then some 4 else some 0) else some 0) else none) else none) else none) else none) else none) else none) else some 0) else some 0 else some 0))
        else (if (c : Int) ≥ 240 then if (c : Int) < 245 then (if a + 4 ≤ n ∧ (128 ≤ c1 ∧ c1 ≤ 191) ∧ (128 ≤ c2 ∧ c2 ≤ 191) ∧ 128 ≤ c3 ∧ c3 ≤ 191 then (if (0 : Int) ≤ ((a + 1 : Nat) : Int) then (if ((a + 1 : Nat) : Int) < (n : Int) then (if (0 : Int) ≤ ((a + 2 : Nat) : Int) then (if ((a + 2 : Nat) : Int) < (n : Int) then (if (0 : Int) ≤ ((a + 3 : Nat) : Int) then (if ((a + 3 : Nat) : Int) < (n : Int) then (if (v : Int) ≥ 65536 then (if (v : Int) ≤ 1114111 then some 4 else some 0) else some 0) else none) else none) else none) else none) else none) else none) else some 0) else some 0 else some 0)
      else (if (c : Int) ≥ 240 then if (c : Int) < 245 then (if a + 4 ≤ n ∧ (128 ≤ c1 ∧ c1 ≤ 191) ∧ (128 ≤ c2 ∧ c2 ≤ 191) ∧ 128 ≤ c3 ∧ c3 ≤ 191 then (if (0 : Int) ≤ ((a + 1 : Nat) : Int) then (if ((a + 1 : Nat) : Int) < (n : Int) then (if (0 : Int) ≤ ((a + 2 : Nat) : Int) then (if ((a + 2 : Nat) : Int) < (n : Int) then (if (0 : Int) ≤ ((a + 3 : Nat) : Int) then (if ((a + 3 : Nat) : Int) < (n : Int) then (if (v : Int) ≥ 65536 then (if (v : Int) ≤ 1114111 then some 4 else some 0) else some 0) else none) else none) else none) else none) else none) else none) else some 0) else some 0 else some 0)))) else none) else none) = some (stepE (n - a) c c1 c2 c3 u v) := by
  unfold stepE
  rw [if_pos (by omega), if_pos (by omega)]
  have p1 : (0 : Int) ≤ ((a + 1 : Nat) : Int) := by omega
  have p2 : (0 : Int) ≤ ((a + 2 : Nat) : Int) := by omega
  have p3 : (0 : Int) ≤ ((a + 3 : Nat) : Int) := by omega
  by_cases h0 : c < 128
  · rw [if_pos (by omega), if_pos h0]
  rw [if_neg (by omega), if_neg h0]
  by_cases h1 : 194 ≤ c ∧ c < 224
  · rw [if_pos (by omega), if_pos (by omega), if_pos h1]
    by_cases q : 2 ≤ n - a ∧ 128 ≤ c1 ∧ c1 ≤ 191
    · rw [if_pos (by omega), if_pos q]
    · rw [if_neg (by omega), if_neg (by omega), if_neg (by omega), if_neg q]
  rw [if_neg h1]
  have key : (if (c : Int) ≥ 224 then
        if (c : Int) < 240 then
          (if a + 3 ≤ n ∧ (128 ≤ c1 ∧ c1 ≤ 191) ∧ 128 ≤ c2 ∧ c2 ≤ 191 then
            (if (0 : Int) ≤ ((a + 1 : Nat) : Int) then (if ((a + 1 : Nat) : Int) < (n : Int) then (if (0 : Int) ≤ ((a + 2 : Nat) : Int) then (if ((a + 2 : Nat) : Int) < (n : Int) then (if (u : Int) ≥ 2048 then (if (u : Int) < 55296 then some (3 : Int) else if (u : Int) > 57343 then some 3 else some 0) else some 0) else none) else none) else none) else none)
          else
            (if (c : Int) ≥ 240 then if (c : Int) < 245 then (if a + 4 ≤ n ∧ (128 ≤ c1 ∧ c1 ≤ 191) ∧ (128 ≤ c2 ∧ c2 ≤ 191) ∧ 128 ≤ c3 ∧ c3 ≤ 191 then (if (0 : Int) ≤ ((a + 1 : Nat) : Int) then (if ((a + 1 : Nat) : Int) < (n : Int) then (if (0 : Int) ≤ ((a + 2 : Nat) : Int) then (if ((a + 2 : Nat) : Int) < (n : Int) then (if (0 : Int) ≤ ((a + 3 : Nat) : Int) then (if ((a + 3 : Nat) : Int) < (n : Int) then (if (v : Int) ≥ 65536 then (if (v : Int) ≤ 1114111 then some 4 else some 0) else some 0) else none) else none) else none) else none) else none) else none) else some 0) else some 0 else some 0))
        else
          (if (c : Int) ≥ 240 then if (c : Int) < 245 then (if a + 4 ≤ n ∧ (128 ≤ c1 ∧ c1 ≤ 191) ∧ (128 ≤ c2 ∧ c2 ≤ 191) ∧ 128 ≤ c3 ∧ c3 ≤ 191 then (if (0 : Int) ≤ ((a + 1 : Nat) : Int) then (if ((a + 1 : Nat) : Int) < (n : Int) then (if (0 : Int) ≤ ((a + 2 : Nat) : Int) then (if ((a + 2 : Nat) : Int) < (n : Int) then (if (0 : Int) ≤ ((a + 3 : Nat) : Int) then (if ((a + 3 : Nat) : Int) < (n : Int) then (if (v : Int) ≥ 65536 then (if (v : Int) ≤ 1114111 then some 4 else some 0) else some 0) else none) else none) else none) else none) else none) else none) else some 0) else some 0 else some 0)
      else
        (if (c : Int) ≥ 240 then if (c : Int) < 245 then (if a + 4 ≤ n ∧ (128 ≤ c1 ∧ c1 ≤ 191) ∧ (128 ≤ c2 ∧ c2 ≤ 191) ∧ 128 ≤ c3 ∧ c3 ≤ 191 then (if (0 : Int) ≤ ((a + 1 : Nat) : Int) then (if ((a + 1 : Nat) : Int) < (n : Int) then (if (0 : Int) ≤ ((a + 2 : Nat) : Int) then (if ((a + 2 : Nat) : Int) < (n : Int) then (if (0 : Int) ≤ ((a + 3 : Nat) : Int) then (if ((a + 3 : Nat) : Int) < (n : Int) then (if (v : Int) ≥ 65536 then (if (v : Int) ≤ 1114111 then some 4 else some 0) else some 0) else none) else none) else none) else none) else none) else none) else some 0) else some 0 else some 0)) =
      some (if 224 ≤ c ∧ c < 240 then (if (3 ≤ n - a ∧ (128 ≤ c1 ∧ c1 ≤ 191) ∧ 128 ≤ c2 ∧ c2 ≤ 191) ∧ 2048 ≤ u ∧ (u < 55296 ∨ 57343 < u) then 3 else 0) else if 240 ≤ c ∧ c < 245 then (if (4 ≤ n - a ∧ (128 ≤ c1 ∧ c1 ≤ 191) ∧ (128 ≤ c2 ∧ c2 ≤ 191) ∧ 128 ≤ c3 ∧ c3 ≤ 191) ∧ 65536 ≤ v ∧ v ≤ 1114111 then 4 else 0) else 0) := by
    by_cases h2 : 224 ≤ c ∧ c < 240
    · rw [if_pos (by omega), if_pos (by omega), if_pos h2]
      by_cases q : 3 ≤ n - a ∧ (128 ≤ c1 ∧ c1 ≤ 191) ∧ 128 ≤ c2 ∧ c2 ≤ 191
      · rw [if_pos (by omega), if_pos p1, if_pos (by omega), if_pos p2, if_pos (by omega)]
        by_cases y1 : 2048 ≤ u
        · rw [if_pos (by omega)]
          by_cases y2 : u < 55296
          · rw [if_pos (by omega), if_pos ⟨q, y1, .inl y2⟩]
          · rw [if_neg (by omega)]
            by_cases y3 : 57343 < u
            · rw [if_pos (by omega), if_pos ⟨q, y1, .inr y3⟩]
            · rw [if_neg (by omega), if_neg (by omega)]
        · rw [if_neg (by omega), if_neg (by omega)]
      · rw [if_neg (by omega), if_neg (by omega), if_neg (by omega)]
    · rw [if_neg h2]
      by_cases h3 : 240 ≤ c ∧ c < 245
      · rw [if_pos (by omega), if_neg (by omega), if_pos (by omega), if_pos (by omega), if_pos h3]
        by_cases q : 4 ≤ n - a ∧ (128 ≤ c1 ∧ c1 ≤ 191) ∧ (128 ≤ c2 ∧ c2 ≤ 191) ∧ 128 ≤ c3 ∧ c3 ≤ 191
        · rw [if_pos (by omega), if_pos p1, if_pos (by omega), if_pos p2, if_pos (by omega), if_pos p3, if_pos (by omega)]
          by_cases y1 : 65536 ≤ v
          · rw [if_pos (by omega)]
            by_cases y2 : v ≤ 1114111
            · rw [if_pos (by omega), if_pos ⟨q, y1, y2⟩]
            · rw [if_neg (by omega), if_neg (by omega)]
          · rw [if_neg (by omega), if_neg (by omega)]
        · rw [if_neg (by omega), if_neg (by omega)]
      · rw [if_neg h3]
        by_cases z : c < 240
        · rw [if_neg (by omega : ¬ (c : Int) ≥ 224), if_neg (by omega)]
        · rw [if_pos (by omega), if_neg (by omega), if_pos (by omega), if_neg (by omega)]
  rw [← key]
  by_cases h2 : 194 ≤ c
  · rw [if_pos (by omega), if_neg (by omega)]
  · rw [if_neg (by omega)]
theorem step_f (s : ByteArray) (a k : Nat) (hs : s.size ≤ 1000000000000) (ha : a < s.size) (hk : 10 ≤ k) : manometerref05_step.f k s (a : Int) = some (stepN ((B s).drop a) : Int) := by
  obtain ⟨k, rfl⟩ : ∃ m, k = m + 4 := ⟨k - 4, by omega⟩
  have hl : ((B s).drop a).length = s.size - a := by rw [List.length_drop, B_length]
  have e0 := bt_B s a
  have e1 := bt_B s (a + 1)
  have e2 := bt_B s (a + 2)
  have e3 := bt_B s (a + 3)
  have m1 : manometerref05_more.f (k + 4) s ((a + 1 : Nat) : Int) 1 = _ := more_f s (a + 1) 1 (k + 4) hs (by omega) (by omega) (by omega)
  have m2 : manometerref05_more.f (k + 3) s ((a + 1 : Nat) : Int) 2 = _ := more_f s (a + 1) 2 (k + 3) hs (by omega) (by omega) (by omega)
  have m3 : manometerref05_more.f (k + 2) s ((a + 1 : Nat) : Int) 3 = _ := more_f s (a + 1) 3 (k + 2) hs (by omega) (by omega) (by omega)
  rw [more1, B_length] at m1
  rw [more2, B_length] at m2
  rw [more3, B_length] at m3
  have w1 : wrap64 ((a : Int) + 1) = ((a + 1 : Nat) : Int) := wn rfl (Nat.le_trans (Nat.add_le_add_right (Nat.le_of_lt ha) 1) (Nat.le_trans (Nat.add_le_add_right hs 1) (by decide)))
  have w2 : wrap64 ((a : Int) + 2) = ((a + 2 : Nat) : Int) := wn rfl (Nat.le_trans (Nat.add_le_add_right (Nat.le_of_lt ha) 2) (Nat.le_trans (Nat.add_le_add_right hs 2) (by decide)))
  have w3 : wrap64 ((a : Int) + 3) = ((a + 3 : Nat) : Int) := wn rfl (Nat.le_trans (Nat.add_le_add_right (Nat.le_of_lt ha) 3) (Nat.le_trans (Nat.add_le_add_right hs 3) (by decide)))
  have g0 : ((B s).drop a).getD 0 0 = (B s).getD a 0 := by rw [getD_drop]; rfl
  have g1 : ((B s).drop a).getD 1 0 = (B s).getD (a + 1) 0 := by rw [getD_drop]
  have g2 : ((B s).drop a).getD 2 0 = (B s).getD (a + 2) 0 := by rw [getD_drop]
  have g3 : ((B s).drop a).getD 3 0 = (B s).getD (a + 3) 0 := by rw [getD_drop]
  rw [stepN_C, g0, g1, g2, g3, hl]
  simp only [manometerref05_step.f, manometerref05_step.j0, manometerref05_step.j1, manometerref05_step.j2, w1, w2, w3, e0, e1, e2, e3, Nat.add_assoc, Nat.reduceAdd] at m1 m2 m3 ⊢
  have b0 : ((B s).getD a 0).toNat < 256 := ((B s).getD a 0).toNat_lt
  have b1 : ((B s).getD (a + 1) 0).toNat < 256 := ((B s).getD (a + 1) 0).toNat_lt
  have b2 : ((B s).getD (a + 2) 0).toNat < 256 := ((B s).getD (a + 2) 0).toNat_lt
  have b3 : ((B s).getD (a + 3) 0).toNat < 256 := ((B s).getD (a + 3) 0).toNat_lt
  clear w1 w2 w3 e0 e1 e2 e3 g0 g1 g2 g3
  rw [stepC_D _ _ _ _ _ b0 b1 b2 b3, stepD_E, m1, m2, m3, sum3 _ _ _ b0 b1 b2, sum4 _ _ _ _ b0 b1 b2 b3]
  clear m1 m2 m3
  simp only [Option.bind_some, ite_dec, if_false, Bool.false_eq_true]
  exact step_core s.size a _ _ _ _ _ _ ha
theorem valid_step (l : Str) (h : l ≠ []) : Lib.validD l = if stepN l = 0 then false else Lib.validD (l.drop (stepN l)) := by
  obtain ⟨c, r, rfl⟩ := List.exists_cons_of_ne_nil h
  unfold stepN
  by_cases hc : c.toNat < 128
  · rw [if_pos (show ((c :: r).getD 0 0).toNat < 128 from hc), if_neg (by decide), Lib.validD_cons c r hc]
    rfl
  · rw [if_neg (show ¬ ((c :: r).getD 0 0).toNat < 128 from hc), Lib.validD_lead (c :: r) h (by show 128 ≤ c.toNat; omega)]
    obtain ⟨z, hz⟩ : ∃ z, z = Lib.checkN (c :: r).length ((c :: r).getD 1 0).toNat ((c :: r).getD 2 0).toNat ((c :: r).getD 3 0).toNat (Lib.firstT ((c :: r).getD 0 0).toNat % 8) (Lib.accLo (Lib.firstT ((c :: r).getD 0 0).toNat / 16)) (Lib.accHi (Lib.firstT ((c :: r).getD 0 0).toNat / 16)) := ⟨_, rfl⟩
    rw [← hz]
    cases z with
    | none => rfl
    | some k =>
      have hk : k ≠ 0 := by
        rintro rfl
        unfold Lib.checkN at hz
        repeat' split at hz
        all_goals first | (injection hz with hz; omega) | cases hz
      show _ = if k = 0 then false else _
      rw [if_neg hk]
theorem stepN_le (l : Str) (h : l ≠ []) : stepN l ≤ l.length := by
  have hl := List.length_pos_iff.2 h
  have h1 := stepN_C l
  rw [stepC_D _ _ _ _ _ (l.getD 0 0).toNat_lt (l.getD 1 0).toNat_lt (l.getD 2 0).toNat_lt (l.getD 3 0).toNat_lt] at h1
  unfold stepD at h1
  repeat' split at h1
  all_goals omega
theorem Valid_l0 (s : ByteArray) (hs : s.size ≤ 1000000000000) : ∀ (d n k : Nat), n + d = s.size → d + 10 < k → manometerref05_Valid.l0 k s (n : Int) = some (Lib.validD ((B s).drop n)) := by
  intro d
  induction d using Nat.strongRecOn with
  | _ d ih =>
    intro n k hd hk
    obtain ⟨k, rfl⟩ := succ_of hk
    have hl : ((B s).drop n).length = s.size - n := by rw [List.length_drop, B_length]
    by_cases hlt : n < s.size
    · have hne : (B s).drop n ≠ [] := fun h => by rw [h] at hl; simp at hl; omega
      have hst := step_f s n k hs hlt (by omega)
      have hle := stepN_le _ hne
      simp only [manometerref05_Valid.l0]
      rw [if_pos (by omega), hst, Option.bind_some, valid_step _ hne]
      generalize stepN ((B s).drop n) = z at hle ⊢
      by_cases hz : z = 0
      · rw [if_pos (by omega), if_pos hz]
      · rw [if_neg (by omega), if_neg hz, wn (n := n + z) (by omega) (by omega), ih (d - z) (by omega) (n + z) k (by omega) (by omega), List.drop_drop]
    · have he : (B s).drop n = [] := List.drop_of_length_le (by rw [B_length]; omega)
      simp only [manometerref05_Valid.l0]
      rw [if_neg (by omega), he]
      rfl
def valuedB (l : Str) : Bool := decide (l.length ≤ 128) && Lib.validD l
theorem Valued_ev (s : ByteArray) (hs : s.size ≤ 1000000000000) : Ev (fun k => manometerref05_Valued.f k s) (valuedB (B s)) :=
  Ev.at (s.size + 10) (fun k hk => by
    unfold manometerref05_Valued.f manometerref05_Valid.f valuedB
    have h := Valid_l0 s hs s.size 0 k (by omega) hk
    rw [B_length]
    by_cases h1 : s.size ≤ 128
    · rw [if_pos (by omega), show (0 : Int) = ((0 : Nat) : Int) from rfl, h, decide_eq_true h1]; rfl
    · rw [if_neg (by omega), decide_eq_false h1]; rfl)
theorem pValued_f (s : ByteArray) (hs : s.size ≤ 1000000000000) : labels_Valued.f s = some (valuedB (B s)) := by
  unfold labels_Valued.f utf8_ValidString.f valuedB
  rw [B_length]
  by_cases h1 : s.size ≤ 128
  · rw [if_pos (by omega), if_pos (by omega), decide_eq_true h1]; rfl
  · rw [if_neg (by omega), decide_eq_false h1]; rfl
theorem pNamed_f (s : ByteArray) (hs : s.size ≤ 1000000000000) : labels_Named.f s = some (namedB (B s)) := by
  unfold labels_Named.f
  rw [if_pos (by omega)]
  rfl
def ints (l : Str) : List Int := l.map fun b => (b.toNat : Int)
theorem ints_length (l : Str) : (ints l).length = l.length := List.length_map _
theorem B_nums (l : Str) : B (strOfNums (ints l)) = l := by
  unfold B strOfNums ints
  simp [Function.comp_def]
abbrev Lab := S52
theorem rdn (l : List Lab) (n : Nat) : rd_T52 l (n : Int) = l.getD n z52 := by unfold rd_T52; rw [Int.toNat_natCast]
theorem dropS (l : List Lab) (n : Nat) (h : n < l.length) : l.drop n = l.getD n z52 :: l.drop (n + 1) := by
  rw [List.drop_eq_getElem_cons h, List.getD_eq_getElem?_getD, List.getElem?_eq_getElem h]
  rfl
def pr (x : Lab) : Str × Str := (B x.f0, B x.f1)
theorem pr_inj {x y : Lab} (h : pr x = pr y) : x = y := by
  obtain ⟨a, b⟩ := x
  obtain ⟨c, d⟩ := y
  have h1 : a = c := B_inj (congrArg Prod.fst h)
  have h2 : b = d := B_inj (congrArg Prod.snd h)
  rw [h1, h2]
theorem prs_inj {a b : List Lab} (h : a.map pr = b.map pr) : a = b := by
  induction a generalizing b with
  | nil => cases b with
    | nil => rfl
    | cons _ _ => cases h
  | cons x a ih => cases b with
    | nil => cases h
    | cons y b =>
      injection h with h1 h2
      rw [pr_inj h1, ih h2]
def sameB (a b : List Lab) : Bool := decide (a.map pr = b.map pr)
theorem ne_test (x y : Lab) : ((!(x.f0.toList == y.f0.toList) || (!(x.f1.toList == y.f1.toList))) = true) ↔ ¬ pr x = pr y := by
  rw [toList_B, toList_B, toList_B, toList_B]
  unfold pr
  rw [Prod.mk.injEq]
  simp only [Bool.or_eq_true, Bool.not_eq_true', beq_eq_false_iff_ne, ne_eq]
  exact Decidable.not_and_iff_or_not.symm
theorem Same_l0 (a b : List Lab) (hs : a.length ≤ 1000000000000) (hab : a.length = b.length) : ∀ (d n k : Nat), n + d = a.length → d < k →
    labels_Same.l0 k a b (a.length : Int) (n : Int) = some (decide ((a.drop n).map pr = (b.drop n).map pr)) ∧ manometerref05_Same.l0 k a b (a.length : Int) (n : Int) = some (decide ((a.drop n).map pr = (b.drop n).map pr))
  | d, n, k, hd, hk => by
    obtain ⟨k, rfl⟩ := succ_of hk
    by_cases hlt : n < a.length
    · obtain ⟨d, rfl⟩ : ∃ e, d = e + 1 := ⟨d - 1, by omega⟩
      obtain ⟨ih1, ih2⟩ := Same_l0 a b hs hab d (n + 1) k (by omega) (by omega)
      rw [dropS a n hlt, dropS b n (by omega), List.map_cons, List.map_cons]
      simp only [labels_Same.l0, manometerref05_Same.l0]
      rw [if_pos (by omega), if_pos (by omega), if_pos (by omega), if_pos (by omega), rdn, rdn, w1 n (by omega), ih1, ih2]
      rw [if_pos (show (n : Int) < (a.length : Int) by omega), if_pos (show (0 : Int) ≤ (n : Int) by omega), if_pos (show (n : Int) < (a.length : Int) by omega), if_pos (show (n : Int) < (b.length : Int) by omega)]
      generalize a.getD n z52 = x
      generalize b.getD n z52 = y
      by_cases h : pr x = pr y
      · have h1 := fun z => ((ne_test x y).1 z) h
        rw [if_neg h1, h]
        simp
      · rw [if_pos ((ne_test x y).2 h)]
        simp [h]
    · rw [List.drop_of_length_le (by omega), List.drop_of_length_le (by omega)]
      simp only [labels_Same.l0, manometerref05_Same.l0]
      rw [if_neg (by omega), if_neg (by omega)]
      exact ⟨rfl, rfl⟩
theorem Same_ev (a b : List Lab) (hs : a.length ≤ 1000000000000) : Ev (fun k => labels_Same.f k a b) (sameB a b) ∧ Ev (fun k => manometerref05_Same.f k a b) (sameB a b) := by
  unfold labels_Same.f manometerref05_Same.f
  by_cases h : a.length = b.length
  · simp only [if_pos (show (a.length : Int) = (b.length : Int) by omega)]
    exact ⟨Ev.at a.length (fun k hk => (Same_l0 a b hs h a.length 0 k (by omega) hk).1), Ev.at a.length (fun k hk => (Same_l0 a b hs h a.length 0 k (by omega) hk).2)⟩
  · have hf : sameB a b = false := decide_eq_false (fun he => h (by rw [prs_inj he]))
    simp only [if_neg (show ¬ (a.length : Int) = (b.length : Int) by omega), hf]
    exact ⟨Ev.now _, Ev.now _⟩
def Sm (l : List Lab) : Prop := l.length ≤ 100000 ∧ ∀ x ∈ l, x.f0.size ≤ 100000 ∧ x.f1.size ≤ 100000
theorem Sm.at {l : List Lab} (h : Sm l) (n : Nat) (hn : n < l.length) : (l.getD n z52).f0.size ≤ 100000 ∧ (l.getD n z52).f1.size ≤ 100000 := by
  rw [List.getD_eq_getElem?_getD, List.getElem?_eq_getElem hn]
  exact h.2 _ (List.getElem_mem hn)
def wrongB (e : Bool) (x : Lab) : Int := if namedB (B x.f0) = true then (if valuedB (B x.f1) = true then (if e = true then 0 else (if B x.f1 = [] then 51 else 0)) else 51) else 50
theorem wrong_f (x : Lab) (e : Bool) (h0 : x.f0.size ≤ 100000) (h1 : x.f1.size ≤ 100000) : labels_wrong.f x.f0 x.f1 e = some (wrongB e x) := by
  unfold labels_wrong.f wrongB
  rw [pNamed_f _ (by omega), pValued_f _ (by omega), toList_B]
  simp only [Option.bind_some]
  split <;> (try rfl)
  split <;> (try rfl)
  split <;> (try rfl)
  split <;> rfl
def rgt : Option Str → List Lab → Int
  | _, [] => 0
  | p, x :: l => if wrongB false x = 0 then (if (match p with | none => false | some q => Op.bytesLess (B x.f0) q || decide (B x.f0 = q)) = true then 53 else rgt (some (B x.f0)) l) else wrongB false x
def pv (l : List Lab) (n : Nat) : Option Str := if n = 0 then none else some (B (l.getD (n - 1) z52).f0)
def rightB (l : List Lab) : Int := if l.length ≤ 16 then rgt none l else 3
theorem wm1 (n : Nat) (h : n ≤ 9000000000000000000) : wrap64 (((n + 1 : Nat) : Int) - 1) = (n : Int) := wn (by omega) (by omega)
theorem Right_l0 (l : List Lab) (hs : Sm l) : ∀ (d n : Nat), n + d = l.length →
    Ev (fun k => labels_Right.l0 k l l (l.length : Int) (n : Int)) (rgt (pv l n) (l.drop n))
  | d, n, hd => by
    have hl := hs.1
    refine Ev.step (f := _) (fun k => by simp only [labels_Right.l0]; rfl) ?_
    by_cases hlt : n < l.length
    · obtain ⟨d, rfl⟩ : ∃ e, d = e + 1 := ⟨d - 1, by omega⟩
      have ih := Right_l0 l hs d (n + 1) (by omega)
      obtain ⟨s0, s1⟩ := hs.at n hlt
      have hp : pv l (n + 1) = some (B (l.getD n z52).f0) := by unfold pv; rw [if_neg (by omega)]; rfl
      rw [hp] at ih
      rw [dropS l n hlt]
      have e1 : (n : Int) < (l.length : Int) := by omega
      have e2 : (0 : Int) ≤ (n : Int) := by omega
      simp only [if_pos e1, if_pos e2, rdn, w1 n (by omega), wrong_f _ _ s0 s1, Option.bind_some, rgt]
      by_cases hw : wrongB false (l.getD n z52) = 0
      · simp only [if_pos hw]
        cases n with
        | zero =>
          simp only [if_neg (show ¬ ((0 : Nat) : Int) > 0 by omega)]
          exact ih
        | succ m =>
          have hq : pv l (m + 1) = some (B (l.getD m z52).f0) := by unfold pv; rw [if_neg (by omega)]; rfl
          have e3 : ((m + 1 : Nat) : Int) > 0 := by omega
          have e4 : (0 : Int) ≤ (m : Int) := by omega
          have e5 : (m : Int) < (l.length : Int) := by omega
          simp only [if_pos e3, wm1 m (by omega), if_pos e4, if_pos e5, rdn, hq, toList_B]
          by_cases h1 : Op.bytesLess (B (l.getD (m + 1) z52).f0) (B (l.getD m z52).f0) = true
          · simp only [h1, if_true, Bool.true_or]
            exact Ev.now _
          · have h1' : Op.bytesLess (B (l.getD (m + 1) z52).f0) (B (l.getD m z52).f0) = false := by simpa using h1
            simp only [h1', Bool.false_eq_true, if_false, Bool.false_or, decide_eq_true_eq]
            by_cases h2 : B (l.getD (m + 1) z52).f0 = B (l.getD m z52).f0
            · simp only [if_pos h2]
              exact Ev.now _
            · simp only [if_neg h2]
              exact ih
      · simp only [if_neg hw]
        exact Ev.now _
    · rw [List.drop_of_length_le (by omega)]
      simp only [if_neg (show ¬ (n : Int) < (l.length : Int) by omega)]
      exact Ev.now _
theorem RRight_l0 (l : List Lab) (hs : Sm l) : ∀ (d n : Nat), n + d = l.length →
    Ev (fun k => manometerref05_Right.l0 k l l (l.length : Int) (n : Int)) (rgt (pv l n) (l.drop n))
  | d, n, hd => by
    have hl := hs.1
    refine Ev.step (f := _) (fun k => by simp only [manometerref05_Right.l0]; rfl) ?_
    by_cases hlt : n < l.length
    · obtain ⟨d, rfl⟩ : ∃ e, d = e + 1 := ⟨d - 1, by omega⟩
      have ih := RRight_l0 l hs d (n + 1) (by omega)
      obtain ⟨s0, s1⟩ := hs.at n hlt
      have hp : pv l (n + 1) = some (B (l.getD n z52).f0) := by unfold pv; rw [if_neg (by omega)]; rfl
      rw [hp] at ih
      rw [dropS l n hlt]
      have e1 : (n : Int) < (l.length : Int) := by omega
      have e2 : (0 : Int) ≤ (n : Int) := by omega
      simp only [if_pos e1, if_pos e2, rdn, rgt, wrongB]
      refine Ev.bind (Named_ev _ (by omega)) ?_
      by_cases hn : namedB (B (l.getD n z52).f0) = true
      · simp only [if_pos hn]
        refine Ev.bind (Valued_ev _ (by omega)) ?_
        have j1t : Ev (fun k => manometerref05_Right.j1 k l (n : Int) l (l.length : Int) (n : Int) true (l.getD n z52).f0 (l.getD n z52).f1) 51 := by
          refine Ev.step (f := _) (fun k => by simp only [manometerref05_Right.j1]; rfl) ?_
          simp only [if_true]
          exact Ev.now _
        by_cases hv : valuedB (B (l.getD n z52).f1) = true
        · simp only [if_pos hv, toList_B, Bool.false_eq_true, if_false]
          by_cases he : B (l.getD n z52).f1 = []
          · have : (B (l.getD n z52).f1 == ([] : Str)) = true := by rw [he]; rfl
            simp only [this, if_pos he, if_neg (show ¬ (51 : Int) = 0 by omega)]
            exact j1t
          · have : (B (l.getD n z52).f1 == ([] : Str)) = false := by simpa using he
            simp only [this, if_neg he, if_true]
            refine Ev.step (f := _) (fun k => by simp only [manometerref05_Right.j1]; rfl) ?_
            simp only [Bool.false_eq_true, if_false, w1 n (by omega)]
            cases n with
            | zero =>
              simp only [if_neg (show ¬ ((0 : Nat) : Int) > 0 by omega)]
              exact ih
            | succ m =>
              have hq : pv l (m + 1) = some (B (l.getD m z52).f0) := by unfold pv; rw [if_neg (by omega)]; rfl
              have e3 : ((m + 1 : Nat) : Int) > 0 := by omega
              have e4 : (0 : Int) ≤ (m : Int) := by omega
              have e5 : (m : Int) < (l.length : Int) := by omega
              simp only [if_pos e3, wm1 m (by omega), if_pos e4, if_pos e5, rdn, hq, toList_B]
              by_cases h1 : Op.bytesLess (B (l.getD (m + 1) z52).f0) (B (l.getD m z52).f0) = true
              · simp only [h1, if_true, Bool.true_or]
                exact Ev.now _
              · have h1' : Op.bytesLess (B (l.getD (m + 1) z52).f0) (B (l.getD m z52).f0) = false := by simpa using h1
                simp only [h1', Bool.false_eq_true, if_false, Bool.false_or, decide_eq_true_eq]
                by_cases h2 : B (l.getD (m + 1) z52).f0 = B (l.getD m z52).f0
                · simp only [if_pos h2]
                  exact Ev.now _
                · simp only [if_neg h2]
                  exact ih
        · simp only [if_neg hv, if_neg (show ¬ (51 : Int) = 0 by omega)]
          exact j1t
      · simp only [if_neg hn, if_neg (show ¬ (50 : Int) = 0 by omega)]
        exact Ev.now _
    · rw [List.drop_of_length_le (by omega)]
      simp only [if_neg (show ¬ (n : Int) < (l.length : Int) by omega)]
      exact Ev.now _
theorem Right_ev (l : List Lab) (hs : Sm l) : Ev (fun k => labels_Right.f k l) (rightB l) ∧ Ev (fun k => manometerref05_Right.f k l) (rightB l) := by
  unfold labels_Right.f manometerref05_Right.f rightB
  by_cases h : l.length ≤ 16
  · simp only [if_neg (show ¬ (l.length : Int) > 16 by omega), if_pos h]
    exact ⟨Right_l0 l hs l.length 0 (by omega), RRight_l0 l hs l.length 0 (by omega)⟩
  · simp only [if_pos (show (l.length : Int) > 16 by omega), if_neg h]
    exact ⟨Ev.now _, Ev.now _⟩
def hb (x : Lab) : List Int := bytesOf x.f0 ++ ([255] ++ (bytesOf x.f1 ++ [255]))
theorem byt_nil : Byts [] := fun x hx => by simp at hx
def sizedL (s : ByteArray) : List Int := Bq.ints (uv s.size) ++ bytesOf s
def labL (x : Lab) : List Int := sizedL x.f0 ++ sizedL x.f1
def putL (l : List Lab) : List Int := Bq.ints (uv l.length) ++ l.flatMap labL
def putB (l : List Lab) : List Int × Int := if rightB l = 0 then (putL l, 0) else ([], rightB l)
theorem sizedL_len (s : ByteArray) (hs : s.size ≤ 100000) : (sizedL s).length ≤ 10 + s.size := by
  unfold sizedL
  rw [List.length_append, Bq.ints_length, bytesOf_length]
  have := uv_len10 s.size (by omega)
  omega
theorem sized_ev (s : ByteArray) (acc : List Int) (hs : s.size ≤ 100000) (ha : acc.length ≤ 100000000000) :
    Ev (fun k => labels_sized.f k acc s) (acc ++ sizedL s) ∧ Ev (fun k => manometerref05_sized.f k s) (sizedL s) := by
  obtain ⟨h1, h2⟩ := PutUvarint_ev s.size (by omega)
  have hu := uv_len10 s.size (by omega)
  have hw : IntKind.u64.wrap (s.size : Int) = (s.size : Int) := wraps_u64n _ (by omega) (by omega)
  have b0 := bytesOf_length s
  have l0 := Bq.ints_length (uv s.size)
  unfold labels_sized.f manometerref05_sized.f
  rw [hw]
  constructor
  · refine h1.bind ?_
    have c1 : acc.length + (Bq.ints (uv s.size)).length < 140737488355328 := by omega
    have c2 : (acc ++ Bq.ints (uv s.size)).length + s.size < 140737488355328 := by rw [List.length_append]; omega
    simp only [if_pos c1, Option.bind_some, if_pos c2]
    unfold sizedL
    rw [← List.append_assoc]
    exact Ev.now _
  · refine h2.bind ?_
    have c1 : s.size ≤ 9223372036854775807 := by omega
    simp only [if_pos c1]
    have hj := Join_ev [Bq.ints (uv s.size), bytesOf s] (by simp) (by simp [b0, l0]; omega)
    have ej : [Bq.ints (uv s.size), bytesOf s].flatten = sizedL s := by unfold sizedL; simp
    rw [ej] at hj
    exact hj.bind (Ev.now _)
theorem labL_len (x : Lab) (h0 : x.f0.size ≤ 100000) (h1 : x.f1.size ≤ 100000) : (labL x).length ≤ 200020 := by
  unfold labL
  rw [List.length_append]
  have := sizedL_len x.f0 h0
  have := sizedL_len x.f1 h1
  omega
theorem Put_l0 (l : List Lab) (hs : Sm l) : ∀ (d n : Nat) (acc : List Int), n + d = l.length → acc.length ≤ 300000 * (n + 1) →
    Ev (fun k => labels_Put.l0 k acc l (l.length : Int) (n : Int)) (acc ++ (l.drop n).flatMap labL, 0) ∧ Ev (fun k => manometerref05_Put.l0 k acc l (l.length : Int) (n : Int)) (acc ++ (l.drop n).flatMap labL, 0)
  | d, n, acc, hd, ha => by
    have hl := hs.1
    by_cases hlt : n < l.length
    · obtain ⟨d, rfl⟩ : ∃ e, d = e + 1 := ⟨d - 1, by omega⟩
      obtain ⟨s0, s1⟩ := hs.at n hlt
      have hbl := labL_len _ s0 s1
      have ih := Put_l0 l hs d (n + 1) (acc ++ labL (l.getD n z52)) (by omega) (by rw [List.length_append]; omega)
      rw [dropS l n hlt, List.flatMap_cons, ← List.append_assoc]
      have e1 : (n : Int) < (l.length : Int) := by omega
      have e2 : (0 : Int) ≤ (n : Int) := by omega
      generalize hx : l.getD n z52 = x at *
      have q0 := sizedL_len x.f0 s0
      have q1 := sizedL_len x.f1 s1
      obtain ⟨a1, a2⟩ := sized_ev x.f0 acc s0 (by omega)
      obtain ⟨b1, b2⟩ := sized_ev x.f1 (acc ++ sizedL x.f0) s1 (by rw [List.length_append]; omega)
      constructor
      · refine Ev.step (f := _) (fun k => by simp only [labels_Put.l0]; rfl) ?_
        simp only [if_pos e1, if_pos e2, rdn, hx, w1 n (by omega)]
        refine a1.bind ?_
        refine b1.bind ?_
        have e : acc ++ sizedL x.f0 ++ sizedL x.f1 = acc ++ labL x := by unfold labL; simp
        rw [e]
        exact ih.1
      · refine Ev.step (f := _) (fun k => by simp only [manometerref05_Put.l0]; rfl) ?_
        simp only [if_pos e1, if_pos e2, rdn, hx, w1 n (by omega)]
        refine a2.bind ?_
        refine b2.bind ?_
        have hj := Join_ev [acc, sizedL x.f0, sizedL x.f1] (by simp) (by simp; omega)
        have ej : [acc, sizedL x.f0, sizedL x.f1].flatten = acc ++ labL x := by unfold labL; simp
        rw [ej] at hj
        exact hj.bind ih.2
    · have e1 : ¬ (n : Int) < (l.length : Int) := by omega
      rw [List.drop_of_length_le (by omega), List.flatMap_nil, List.append_nil]
      constructor
      · refine Ev.step (f := _) (fun k => by simp only [labels_Put.l0]; rfl) ?_
        simp only [if_neg e1]
        exact Ev.now _
      · refine Ev.step (f := _) (fun k => by simp only [manometerref05_Put.l0]; rfl) ?_
        simp only [if_neg e1]
        exact Ev.now _
theorem Put_ev (l : List Lab) (hs : Sm l) : Ev (fun k => labels_Put.f k l) (putB l) ∧ Ev (fun k => manometerref05_Put.f k l) (putB l) := by
  have hl := hs.1
  obtain ⟨r1, r2⟩ := Right_ev l hs
  obtain ⟨u1, u2⟩ := PutUvarint_ev l.length (by omega)
  have hu := uv_len10 l.length (by omega)
  obtain ⟨h1, h2⟩ := Put_l0 l hs l.length 0 (Bq.ints (uv l.length)) (by omega) (by rw [Bq.ints_length]; omega)
  have hw : IntKind.u64.wrap (l.length : Int) = (l.length : Int) := wraps_u64n _ (by omega) (by omega)
  unfold labels_Put.f manometerref05_Put.f putB putL
  rw [hw]
  constructor
  · refine r1.bind ?_
    by_cases e : rightB l = 0
    · simp only [if_pos e]
      exact u1.bind (by simpa using h1)
    · simp only [if_neg e]; exact Ev.now _
  · refine r2.bind ?_
    by_cases e : rightB l = 0
    · simp only [if_pos e]
      exact u2.bind (by simpa using h2)
    · simp only [if_neg e]; exact Ev.now _
theorem byt_str {xs : List Int} (h : Byts xs) : ∃ l : Str, xs = ints l := by
  refine ⟨xs.map fun x => UInt8.ofNat x.toNat, ?_⟩
  unfold ints
  rw [List.map_map]
  conv => lhs; rw [← List.map_id xs]
  apply List.map_congr_left
  intro x hx
  have := h x hx
  simp only [Function.comp, id, UInt8.toNat_ofNat']
  omega
theorem nums_size {xs : List Int} (h : Byts xs) : (strOfNums xs).size = xs.length := by
  obtain ⟨l, rfl⟩ := byt_str h
  rw [← B_length, B_nums, ints_length]
def tookL (r : List Int) (most : Nat) : ByteArray × List Int × Int :=
  if (uget r).2.2 = 0 then
    (if (uget r).1 > (most : Int) then ((⟨#[]⟩ : ByteArray), [], 3)
    else if (uget r).1 > (r.length : Int) - (uget r).2.1 then ((⟨#[]⟩ : ByteArray), [], 6)
    else (strOfNums ((r.drop (uget r).2.1.toNat).take (uget r).1.toNat), r.drop ((uget r).2.1.toNat + (uget r).1.toNat), 0))
  else ((⟨#[]⟩ : ByteArray), [], (uget r).2.2)
theorem took_err {r : List Int} {most : Nat} {e : Int} (he : ¬ e = 0) (h : uget r = (0, 0, e)) : tookL r most = ((⟨#[]⟩ : ByteArray), [], e) := by
  unfold tookL
  rw [h, if_neg he]
theorem took_num {r : List Int} {most n k : Nat} (h : uget r = ((n : Int), (k : Int), 0)) (hk : k ≤ r.length) :
    tookL r most = if most < n then ((⟨#[]⟩ : ByteArray), [], 3) else if r.length < k + n then ((⟨#[]⟩ : ByteArray), [], 6) else (strOfNums ((r.drop k).take n), r.drop (k + n), 0) := by
  unfold tookL
  rw [h]
  simp only [if_true, Int.toNat_natCast]
  by_cases h1 : most < n
  · rw [if_pos (by omega), if_pos h1]
  · rw [if_neg (by omega), if_neg h1]
    by_cases h2 : r.length < k + n
    · rw [if_pos (by omega), if_pos h2]
    · rw [if_neg (by omega), if_neg h2]
theorem took_ok (r : List Int) (hb : Byts r) (most : Nat) : (tookL r most).2.1.length ≤ r.length ∧ Byts (tookL r most).2.1 ∧ (tookL r most).1.size ≤ most := by
  rcases uget_cases r hb with ⟨n, hu, hk, _, _⟩ | ⟨e, he, hu⟩
  · rw [took_num hu hk]
    split
    · exact ⟨Nat.zero_le _, byt_nil, Nat.zero_le _⟩
    · split
      · exact ⟨Nat.zero_le _, byt_nil, Nat.zero_le _⟩
      · refine ⟨by rw [List.length_drop]; omega, byt_drop hb _, ?_⟩
        rw [nums_size (byt_take (byt_drop hb _) _), List.length_take]
        omega
  · rw [took_err he hu]
    exact ⟨Nat.zero_le _, byt_nil, Nat.zero_le _⟩
theorem took_ev (r : List Int) (hb : Byts r) (hs : r.length ≤ 1000000000) (most : Nat) (hm : most ≤ 1000000) : Ev (fun k => manometerref05_took.f k r (most : Int)) (tookL r most) := by
  unfold manometerref05_took.f
  refine (Uvarint_ev r hb (by omega)).2.bind ?_
  rcases uget_cases r hb with ⟨n, hu, hk, _, _⟩ | ⟨e, he, hu⟩
  · rw [took_num hu hk, hu]
    simp only [if_true]
    generalize (uv n).length = q at *
    by_cases h1 : most < n
    · simp only [if_pos (show (n : Int) > (most : Int) by omega), if_pos h1]
      exact Ev.now _
    · have e1 : IntKind.u64.wrap (wrap64 ((r.length : Int) - (q : Int))) = (r.length : Int) - (q : Int) := by rw [w64 (by omega) (by omega), wraps_u64n _ (by omega) (by omega)]
      have e2 : wrap64 ((q : Int) + wrap64 (n : Int)) = ((q + n : Nat) : Int) := by rw [w64 (x := (n : Int)) (by omega) (by omega)]; exact wn rfl (by omega)
      simp only [if_neg (show ¬ (n : Int) > (most : Int) by omega), if_neg h1, e1, e2]
      by_cases h2 : r.length < q + n
      · simp only [if_pos (show (n : Int) > (r.length : Int) - (q : Int) by omega), if_pos h2]
        exact Ev.now _
      · simp only [if_neg (show ¬ (n : Int) > (r.length : Int) - (q : Int) by omega), if_neg h2, if_pos (show (0 : Int) ≤ (q : Int) by omega), if_pos (show (q : Int) ≤ ((q + n : Nat) : Int) by omega), if_pos (show ((q + n : Nat) : Int) ≤ (r.length : Int) by omega), if_pos (show (0 : Int) ≤ ((q + n : Nat) : Int) by omega), Int.toNat_natCast]
        rw [List.drop_take, show q + n - q = n by omega]
        exact Ev.now _
  · rw [took_err he hu, hu]
    simp only [if_neg he]
    exact Ev.now _
theorem text_ev (b : List Int) (hb : Byts b) (hs : b.length ≤ 1000000000) (a : Nat) (ha : a ≤ b.length) (most : Nat) (hm : most ≤ 1000000) : Ev (fun k => labels_text.f k b (a : Int) (most : Int)) ((tookL (b.drop a) most).1, if (tookL (b.drop a) most).2.2 = 0 then ((b.length - (tookL (b.drop a) most).2.1.length : Nat) : Int) else 0, (tookL (b.drop a) most).2.2) := by
  unfold labels_text.f
  have hl : (b.drop a).length = b.length - a := List.length_drop ..
  simp only [if_pos (show (0 : Int) ≤ (a : Int) by omega), if_pos (show (a : Int) ≤ (b.length : Int) by omega), Int.toNat_natCast]
  have hwm : IntKind.u64.wrap (most : Int) = (most : Int) := wraps_u64n _ (by omega) (by omega)
  refine (Uvarint_ev (b.drop a) (byt_drop hb a) (by omega)).1.bind ?_
  rcases uget_cases (b.drop a) (byt_drop hb a) with ⟨n, hu, hk, _, _⟩ | ⟨e, he, hu⟩
  · rw [took_num hu hk, hu]
    simp only [if_true, hwm]
    generalize (uv n).length = q at *
    rw [hl] at hk ⊢
    by_cases h1 : most < n
    · simp only [if_pos (show (n : Int) > (most : Int) by omega), if_pos h1]
      exact Ev.now _
    · have e1 : wrap64 ((a : Int) + (q : Int)) = ((a + q : Nat) : Int) := wn rfl (by omega)
      have e2 : wrap64 (((a + q : Nat) : Int) + wrap64 (n : Int)) = ((a + q + n : Nat) : Int) := by rw [w64 (x := (n : Int)) (by omega) (by omega)]; exact wn rfl (by omega)
      simp only [if_neg (show ¬ (n : Int) > (most : Int) by omega), if_neg h1, e1, e2]
      by_cases h2 : b.length - a < q + n
      · simp only [if_pos (show ((a + q + n : Nat) : Int) > (b.length : Int) by omega), if_pos h2]
        exact Ev.now _
      · simp only [if_neg (show ¬ ((a + q + n : Nat) : Int) > (b.length : Int) by omega), if_neg h2, if_pos (show (0 : Int) ≤ ((a + q : Nat) : Int) by omega), if_pos (show ((a + q : Nat) : Int) ≤ ((a + q + n : Nat) : Int) by omega), if_pos (show ((a + q + n : Nat) : Int) ≤ (b.length : Int) by omega), Int.toNat_natCast, if_true]
        rw [List.drop_take, show a + q + n - (a + q) = n by omega, List.drop_drop, List.drop_drop, List.length_drop, show b.length - (b.length - (a + (q + n))) = a + q + n by omega]
        exact Ev.now _
  · rw [took_err he hu, hu]
    simp only [if_neg he]
    exact Ev.now _
theorem tookL_rest (b : List Int) (hb : Byts b) (a : Nat) (ha : a ≤ b.length) (most : Nat) (h : (tookL (b.drop a) most).2.2 = 0) : b.drop (b.length - (tookL (b.drop a) most).2.1.length) = (tookL (b.drop a) most).2.1 := by
  have hl : (b.drop a).length = b.length - a := List.length_drop ..
  rcases uget_cases (b.drop a) (byt_drop hb a) with ⟨n, hu, hk, _, _⟩ | ⟨e, he, hu⟩
  · rw [took_num hu hk] at h ⊢
    split at h
    · exact absurd h (by decide)
    · rename_i h1
      rw [if_neg h1]
      split at h
      · exact absurd h (by decide)
      · rename_i h2
        rw [if_neg h2]
        simp only [List.drop_drop, List.length_drop]
        congr 1
        omega
  · rw [took_err he hu] at h
    exact absurd h he
def takesL : Nat → List Int → List Lab → List Lab × List Int × Int
  | 0, r, acc => (acc, r, 0)
  | n + 1, r, acc =>
    if (tookL r 64).2.2 = 0 then
      (if (tookL (tookL r 64).2.1 128).2.2 = 0 then takesL n (tookL (tookL r 64).2.1 128).2.1 (acc ++ [⟨(tookL r 64).1, (tookL (tookL r 64).2.1 128).1⟩])
      else ([], [], (tookL (tookL r 64).2.1 128).2.2))
    else ([], [], (tookL r 64).2.2)
def takeEnd (b : List Int) (z : List Lab × List Int × Int) : List Lab × Int × Int :=
  if z.2.2 = 0 then (if rightB z.1 = 0 then (z.1, ((b.length - z.2.1.length : Nat) : Int), 0) else ([], 0, rightB z.1)) else ([], 0, z.2.2)
def takeB (b : List Int) : List Lab × Int × Int :=
  if (uget b).2.2 = 0 then (if (uget b).1 > 16 then ([], 0, 3) else takeEnd b (takesL (uget b).1.toNat (b.drop (uget b).2.1.toNat) [])) else ([], 0, (uget b).2.2)
theorem sm_more {acc : List Lab} {s t : ByteArray} (h : Sm acc) (hn : acc.length + 1 ≤ 100000) (h0 : s.size ≤ 64) (h1 : t.size ≤ 128) : Sm (acc ++ [⟨s, t⟩]) :=
  ⟨by rw [List.length_append, List.length_singleton]; exact hn, fun x hx => by
    rcases List.mem_append.1 hx with hx | hx
    · exact h.2 x hx
    · rw [List.mem_singleton.1 hx]
      exact ⟨by show s.size ≤ 100000; omega, by show t.size ≤ 100000; omega⟩⟩
theorem RTake_l0 (b : List Int) (n : Nat) (hn : n ≤ 16) (hs : b.length ≤ 1000000000) : ∀ (d i : Nat) (acc : List Lab) (r : List Int), i + d = n → acc.length = i → Sm acc → Byts r → r.length ≤ b.length →
    Ev (fun k => manometerref05_Take.l0 k b acc r (n : Int) (i : Int)) (takeEnd b (takesL d r acc))
  | d, i, acc, r, hd, hai, hsm, hr, hrl => by
    refine Ev.step (f := _) (fun k => by simp only [manometerref05_Take.l0]; rfl) ?_
    cases d with
    | zero =>
      have e1 : ¬ (i : Int) < (n : Int) := by omega
      simp only [if_neg e1]
      refine (Right_ev acc hsm).2.bind ?_
      unfold takesL takeEnd
      simp only [if_true]
      have e2 : wrap64 ((b.length : Int) - (r.length : Int)) = ((b.length - r.length : Nat) : Int) := wn (by omega) (by omega)
      by_cases h : rightB acc = 0
      · simp only [if_pos h, e2]; exact Ev.now _
      · simp only [if_neg h]; exact Ev.now _
    | succ d =>
      have e1 : (i : Int) < (n : Int) := by omega
      simp only [if_pos e1, w1 i (by omega)]
      refine (took_ev r hr (by omega) 64 (by omega)).bind ?_
      obtain ⟨t1, t2, t3⟩ := took_ok r hr 64
      unfold takesL
      generalize tookL r 64 = y at *
      by_cases h1 : y.2.2 = 0
      · simp only [if_pos h1]
        refine (took_ev y.2.1 t2 (by omega) 128 (by omega)).bind ?_
        obtain ⟨v1, v2, v3⟩ := took_ok y.2.1 t2 128
        generalize tookL y.2.1 128 = z at *
        by_cases h2 : z.2.2 = 0
        · simp only [if_pos h2, if_pos (show acc.length < 4398046511104 by omega)]
          exact RTake_l0 b n hn hs d (i + 1) _ _ (by omega) (by rw [List.length_append, hai]; rfl) (sm_more hsm (by omega) t3 v3) v2 (by omega)
        · simp only [if_neg h2]
          unfold takeEnd
          simp only [if_neg h2]
          exact Ev.now _
      · simp only [if_neg h1]
        unfold takeEnd
        simp only [if_neg h1]
        exact Ev.now _
theorem set_mid (acc R : List Lab) (z y : Lab) (i : Nat) (h : acc.length = i) : (acc ++ z :: R).set i y = acc ++ y :: R := by
  subst h
  rw [List.set_append_right _ _ (Nat.le_refl _), Nat.sub_self]
  rfl
theorem get_mid (acc R : List Lab) (z y : Lab) (i : Nat) (h : acc.length = i) : (acc ++ z :: R).getD i y = z := by
  subst h
  rw [List.getD_eq_getElem?_getD, List.getElem?_append_right (Nat.le_refl _), Nat.sub_self]
  rfl
theorem Take_l0 (b : List Int) (n : Nat) (hn : n ≤ 16) (hb : Byts b) (hs : b.length ≤ 1000000000) : ∀ (d i : Nat) (acc : List Lab) (a : Nat), i + d = n → acc.length = i → Sm acc → a ≤ b.length →
    Ev (fun k => labels_Take.l0 k b (a : Int) (acc ++ List.replicate d z52) (n : Int) (i : Int)) (takeEnd b (takesL d (b.drop a) acc))
  | d, i, acc, a, hd, hai, hsm, ha => by
    refine Ev.step (f := _) (fun k => by simp only [labels_Take.l0]; rfl) ?_
    cases d with
    | zero =>
      have e1 : ¬ (i : Int) < (n : Int) := by omega
      simp only [if_neg e1, List.replicate_zero, List.append_nil]
      refine (Right_ev acc hsm).1.bind ?_
      unfold takesL takeEnd
      simp only [if_true]
      rw [List.length_drop, show b.length - (b.length - a) = a by omega]
      by_cases h : rightB acc = 0
      · simp only [if_pos h]; exact Ev.now _
      · simp only [if_neg h]; exact Ev.now _
    | succ d =>
      have e1 : (i : Int) < (n : Int) := by omega
      have e2 : (0 : Int) ≤ (i : Int) := by omega
      have e3 : (i : Int) < ((acc ++ z52 :: List.replicate d z52).length : Int) := by rw [List.length_append, List.length_cons]; omega
      rw [List.replicate_succ]
      simp only [if_pos e1, w1 i (by omega)]
      refine (text_ev b hb hs a ha 64 (by omega)).bind ?_
      obtain ⟨t1, t2, t3⟩ := took_ok (b.drop a) (byt_drop hb a) 64
      have hdl : (b.drop a).length = b.length - a := List.length_drop ..
      have hrest : (tookL (b.drop a) 64).2.2 = 0 → b.drop (b.length - (tookL (b.drop a) 64).2.1.length) = (tookL (b.drop a) 64).2.1 := tookL_rest b hb a ha 64
      unfold takesL
      simp only [if_pos e2, if_pos e3, rdn, Int.toNat_natCast, Option.bind_some, set_mid acc _ _ _ i hai, get_mid acc _ _ _ i hai]
      generalize tookL (b.drop a) 64 = y at *
      by_cases h1 : y.2.2 = 0
      · simp only [if_pos h1]
        have hr := hrest h1
        obtain ⟨a', ha'⟩ : ∃ a', a' = b.length - y.2.1.length := ⟨_, rfl⟩
        rw [← ha'] at hr ⊢
        refine (text_ev b hb hs a' (by omega) 128 (by omega)).bind ?_
        obtain ⟨v1, v2, v3⟩ := took_ok (b.drop a') (byt_drop hb a') 128
        have hrest2 : (tookL (b.drop a') 128).2.2 = 0 → b.drop (b.length - (tookL (b.drop a') 128).2.1.length) = (tookL (b.drop a') 128).2.1 := tookL_rest b hb a' (by omega) 128
        rw [hr] at v1 v2 v3 hrest2 ⊢
        generalize tookL y.2.1 128 = z at *
        by_cases h2 : z.2.2 = 0
        · simp only [if_pos h2]
          have ih := Take_l0 b n hn hb hs d (i + 1) (acc ++ [⟨y.1, z.1⟩]) (b.length - z.2.1.length) (by omega) (by rw [List.length_append, hai]; rfl) (sm_more hsm (by omega) t3 v3) (by omega)
          rw [hrest2 h2, List.append_assoc] at ih
          exact ih
        · simp only [if_neg h2]
          unfold takeEnd
          simp only [if_neg h2]
          exact Ev.now _
      · simp only [if_neg h1]
        unfold takeEnd
        simp only [if_neg h1]
        exact Ev.now _
theorem Take_ev (b : List Int) (hb : Byts b) (hs : b.length ≤ 1000000000) : Ev (fun k => labels_Take.f k b) (takeB b) ∧ Ev (fun k => manometerref05_Take.f k b) (takeB b) := by
  obtain ⟨u1, u2⟩ := Uvarint_ev b hb (by omega)
  have hnil : Sm [] := ⟨by simp, fun x hx => by simp at hx⟩
  unfold labels_Take.f manometerref05_Take.f takeB
  rcases uget_cases b hb with ⟨n, hu, hk, _, hn⟩ | ⟨e, he, hu⟩
  · rw [hu] at u1 u2 ⊢
    simp only [if_true, Int.toNat_natCast]
    by_cases h : (n : Int) > 16
    · simp only [if_pos h]
      constructor
      · refine u1.bind ?_
        simp only [if_true, if_pos h]
        exact Ev.now _
      · refine u2.bind ?_
        simp only [if_true, if_pos h]
        exact Ev.now _
    · simp only [if_neg h]
      have e1 : wrap64 (n : Int) = (n : Int) := w64 (by omega) (by omega)
      constructor
      · refine u1.bind ?_
        simp only [if_true, if_neg h, if_pos (show (0 : Int) ≤ (n : Int) by omega), Int.toNat_natCast, if_pos (show n ≤ 8796093022208 by omega), Option.bind_some, List.length_replicate]
        have := Take_l0 b n (by omega) hb hs n 0 [] (uv n).length (by omega) rfl hnil hk
        simpa using this
      · refine u2.bind ?_
        simp only [if_true, if_neg h, if_pos (show (0 : Int) ≤ ((uv n).length : Int) by omega), if_pos (show ((uv n).length : Int) ≤ (b.length : Int) by omega), Int.toNat_natCast, e1]
        exact RTake_l0 b n (by omega) hs n 0 [] (b.drop (uv n).length) (by omega) rfl hnil (byt_drop hb _) (by rw [List.length_drop]; omega)
  · rw [hu] at u1 u2 ⊢
    simp only [if_neg he]
    constructor
    · refine u1.bind ?_
      simp only [if_neg he]
      exact Ev.now _
    · refine u2.bind ?_
      simp only [if_neg he]
      exact Ev.now _
end Go.Proofs.YtdckhaejhfkkbaaDoor.Pu
