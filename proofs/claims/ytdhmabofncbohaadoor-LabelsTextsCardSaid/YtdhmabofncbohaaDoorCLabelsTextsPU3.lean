import Derived.Test.YtdhmabofncbohaaDoorCLabelsTextsPLAx1
import Derived.Test.YtdhmabofncbohaaDoorCLabelsTextsPLBx2
import Derived.Test.YtdhmabofncbohaaDoorCLabelsTextsPLBx3
import Derived.Test.YtdhmabofncbohaaDoorCLabelsTextsPLBx4
import Derived.Test.YtdhmabofncbohaaDoorCLabelsTextsPLBx5
import Derived.Test.YtdhmabofncbohaaDoorCLabelsTextsPLBx6
import Derived.Test.YtdhmabofncbohaaDoorCLabelsTextsPLBx10
import Derived.Test.YtdhmabofncbohaaDoorCLabelsTextsPLBx13
import Derived.Test.YtdhmabofncbohaaDoorCLabelsTextsPLBx15
import Derived.Test.YtdhmabofncbohaaDoorCLabelsTextsPLBx7
import Derived.Test.YtdhmabofncbohaaDoorCLabelsTextsPLBx11
import Derived.Test.YtdhmabofncbohaaDoorCLabelsTextsPLBx1
import Derived.Test.YtdhmabofncbohaaDoorCLabelsTextsPU2
import Derived.Test.YtdhmabofncbohaaDoorCLabelsTextsPLBx9
section
namespace Go.Proofs.YtdhmabofncbohaaDoor.PLB
open Go.RowKit Go.Proofs.YtdhmabofncbohaaDoorW.PrintWords Go.Proofs.YtdhmabofncbohaaDoorW.PrintLast Go.Proofs.YtdhmabofncbohaaDoorW.PrintMore
attribute [local go_sem] max2_int min2_int max_two min_two max_three min_three max_four min_four
set_option linter.unusedVariables false
set_option linter.unusedSimpArgs false
end Go.Proofs.YtdhmabofncbohaaDoor.PLB
end
section
namespace Go.Proofs.YtdhmabofncbohaaDoor.PLB
open Go.RowKit Go.Proofs.YtdhmabofncbohaaDoorW.PrintWords Go.Proofs.YtdhmabofncbohaaDoorW.PrintLast Go.Proofs.YtdhmabofncbohaaDoorW.PrintMore
attribute [local go_sem] max2_int min2_int max_two min_two max_three min_three max_four min_four
set_option linter.unusedVariables false
set_option linter.unusedSimpArgs false
end Go.Proofs.YtdhmabofncbohaaDoor.PLB
end
section
namespace Go.Proofs.YtdhmabofncbohaaDoor.PLB
open Go.RowKit Go.Proofs.YtdhmabofncbohaaDoorW.PrintWords Go.Proofs.YtdhmabofncbohaaDoorW.PrintLast Go.Proofs.YtdhmabofncbohaaDoorW.PrintMore
attribute [local go_sem] max2_int min2_int max_two min_two max_three min_three max_four min_four
set_option linter.unusedVariables false
set_option linter.unusedSimpArgs false
end Go.Proofs.YtdhmabofncbohaaDoor.PLB
end
section
namespace Go.Proofs.YtdhmabofncbohaaDoor.PLB
open Go.RowKit Go.Proofs.YtdhmabofncbohaaDoorW.PrintWords Go.Proofs.YtdhmabofncbohaaDoorW.PrintLast Go.Proofs.YtdhmabofncbohaaDoorW.PrintMore
attribute [local go_sem] max2_int min2_int max_two min_two max_three min_three max_four min_four
set_option linter.unusedVariables false
set_option linter.unusedSimpArgs false
end Go.Proofs.YtdhmabofncbohaaDoor.PLB
end
section
namespace Go.Proofs.YtdhmabofncbohaaDoor.PLB
open Go.RowKit Go.Proofs.YtdhmabofncbohaaDoorW.PrintWords Go.Proofs.YtdhmabofncbohaaDoorW.PrintLast Go.Proofs.YtdhmabofncbohaaDoorW.PrintMore
attribute [local go_sem] max2_int min2_int max_two min_two max_three min_three max_four min_four
set_option linter.unusedVariables false
set_option linter.unusedSimpArgs false
attribute [local go_sem high] eqA44
end Go.Proofs.YtdhmabofncbohaaDoor.PLB
end
section
namespace Go.Proofs.YtdhmabofncbohaaDoor.Pu
open Go Go.RowKit Go.Proofs.YtdhmabofncbohaaDoor Go.Proofs.YtdhmabofncbohaaDoor.PLB Go.Proofs.YtdhmabofncbohaaDoorW.PrintWords Go.Proofs.YtdhmabofncbohaaDoorW.PrintLast Go.Proofs.YtdhmabofncbohaaDoorW.PrintMore
set_option linter.unusedVariables false
set_option linter.unusedSimpArgs false
def ints (l : Str) : List Int := l.map fun b => (b.toNat : Int)
theorem ints_length (l : Str) : (ints l).length = l.length := List.length_map _
theorem ints_append (a b : Str) : ints (a ++ b) = ints a ++ ints b := List.map_append
theorem B_nums (l : Str) : B (strOfNums (ints l)) = l := by
  unfold B strOfNums ints
  simp [Function.comp_def]
theorem strOf (l : Str) : strOfNums (ints l) = str l := B_inj (by rw [B_nums, B_str])
def unq (acc : Str) (n : Nat) : Str → Str × Nat × Int
  | [] => ([], 0, 6)
  | c :: r =>
    if c = 34 then (acc, n + 1, 0)
    else if c = 10 then ([], 0, 8)
    else if c = 92 then
      match r with
      | [] => ([], 0, 6)
      | d :: r' => if d = 34 ∨ d = 92 then unq (acc ++ [d]) (n + 2) r' else if d = 110 then unq (acc ++ [10]) (n + 2) r' else ([], 0, 8)
    else unq (acc ++ [c]) (n + 1) r
def told (x : Str × Nat × Int) : ByteArray × Int × Int := (str x.1, (x.2.1 : Int), x.2.2)
theorem u8eq (c : UInt8) (m : Nat) (hm : m < 256) : ((c.toNat : Int) = (m : Int)) ↔ c = UInt8.ofNat m := by
  constructor
  · intro h
    apply UInt8.toNat_inj.1
    simp
    omega
  · rintro rfl
    simp
    omega
theorem c34 (c : UInt8) : ((c.toNat : Int) = 34) ↔ c = 34 := u8eq c 34 (by decide)
theorem c10 (c : UInt8) : ((c.toNat : Int) = 10) ↔ c = 10 := u8eq c 10 (by decide)
theorem c92 (c : UInt8) : ((c.toNat : Int) = 92) ↔ c = 92 := u8eq c 92 (by decide)
theorem c110 (c : UInt8) : ((c.toNat : Int) = 110) ↔ c = 110 := u8eq c 110 (by decide)
theorem take_nums (acc : Str) (c : UInt8) : ints acc ++ [(c.toNat : Int)] = ints (acc ++ [c]) := by rw [ints_append]; rfl
theorem Unq_l0 (s : ByteArray) (hs : s.size ≤ 1000000000000) : ∀ (d n k : Nat) (acc : Str), n + d = s.size → acc.length ≤ n → 2 * d + 1 < k → labels_Unquote.l0 k s (ints acc) (n : Int) = some (told (unq acc n ((B s).drop n))) := by
  intro d
  induction d using Nat.strongRecOn with
  | _ d ih =>
    intro n k acc hd ha hk
    obtain ⟨k, rfl⟩ := succ_of hk
    have hl := B_length s
    have hil := ints_length acc
    by_cases hlt : n < s.size
    · have hdr := drop_cons (B s) n (by omega)
      rw [hdr]
      simp only [labels_Unquote.l0]
      rw [if_pos (by omega), if_pos (by omega), bt_B]
      generalize (B s).getD n 0 = c
      unfold unq
      by_cases h34 : c = 34
      · rw [if_pos ((c34 c).2 h34), if_pos h34, w1 n (by omega), strOf]
        rfl
      rw [if_neg (fun h => h34 ((c34 c).1 h)), if_neg h34]
      by_cases h10 : c = 10
      · rw [if_pos ((c10 c).2 h10), if_pos h10]
        rfl
      rw [if_neg (fun h => h10 ((c10 c).1 h)), if_neg h10]
      by_cases h92 : c = 92
      · rw [if_pos ((c92 c).2 h92), if_pos h92, w1 n (by omega)]
        by_cases hlt2 : n + 1 < s.size
        · have hdr2 := drop_cons (B s) (n + 1) (by omega)
          rw [hdr2, if_neg (by omega), if_pos (by omega), if_pos (by omega), bt_B]
          obtain ⟨e, he⟩ : ∃ e, e = (B s).getD (n + 1) 0 := ⟨_, rfl⟩
          have hbt := bt_B s (n + 1)
          rw [← he] at hbt ⊢
          have hA := ih (d - 2) (by omega) (n + 2) (k - 1) (acc ++ [e]) (by omega) (by rw [List.length_append]; simp; omega) (by omega)
          have hN := ih (d - 2) (by omega) (n + 2) (k - 1) (acc ++ [10]) (by omega) (by rw [List.length_append]; simp; omega) (by omega)
          obtain ⟨k, rfl⟩ : ∃ m, k = m + 1 := ⟨k - 1, by omega⟩
          rw [Nat.add_sub_cancel] at hA hN
          simp only [labels_Unquote.j1]
          have h10i : ints acc ++ [10] = ints (acc ++ [10]) := take_nums acc 10
          by_cases e34 : e = 34
          · have b1 : (((e.toNat : Int) == 34) = true) := beq_iff_eq.mpr ((c34 e).2 e34)
            rw [if_pos ((c34 e).2 e34), b1, if_pos rfl, if_pos (by omega), if_pos (by omega), if_pos (by omega), w2 n (by omega), hbt, take_nums, hA, if_pos (.inl e34)]
          · rw [if_neg (fun h => e34 ((c34 e).1 h))]
            by_cases e92 : e = 92
            · have b1 : (((e.toNat : Int) == 92) = true) := beq_iff_eq.mpr ((c92 e).2 e92)
              rw [b1, if_pos rfl, if_pos (by omega), if_pos (by omega), if_pos (by omega), w2 n (by omega), hbt, take_nums, hA, if_pos (.inr e92)]
            · have b1 : (((e.toNat : Int) == 92) = false) := beq_eq_false_iff_ne.mpr (fun h => e92 ((c92 e).1 h))
              rw [b1, if_neg (by decide), if_neg (c := e = 34 ∨ e = 92) (by rintro (h | h); exact e34 h; exact e92 h)]
              by_cases e110 : e = 110
              · rw [if_pos ((c110 e).2 e110), if_pos e110, if_pos (by omega), w2 n (by omega), h10i, hN]
              · rw [if_neg (fun h => e110 ((c110 e).1 h)), if_neg e110]
                rfl
        · have he : (B s).drop (n + 1) = [] := List.drop_of_length_le (by omega)
          rw [he, if_pos (by omega)]
          rfl
      · rw [if_neg (fun h => h92 ((c92 c).1 h)), if_neg h92, if_pos (by omega), w1 n (by omega), take_nums, ih (d - 1) (by omega) (n + 1) k (acc ++ [c]) (by omega) (by rw [List.length_append]; simp; omega) (by omega)]
    · have he : (B s).drop n = [] := List.drop_of_length_le (by omega)
      simp only [labels_Unquote.l0]
      rw [if_neg (by omega), he]
      rfl
theorem RUnq_l0 (s : ByteArray) (hs : s.size ≤ 1000000000000) : ∀ (d n k : Nat) (acc : Str), n + d = s.size → acc.length ≤ n → 2 * d + 1 < k → manometerref05_Unquote.l0 k s (ints acc) (n : Int) = some (told (unq acc n ((B s).drop n))) := by
  intro d
  induction d using Nat.strongRecOn with
  | _ d ih =>
    intro n k acc hd ha hk
    obtain ⟨k, rfl⟩ := succ_of hk
    have hl := B_length s
    have hil := ints_length acc
    by_cases hlt : n < s.size
    · have hdr := drop_cons (B s) n (by omega)
      rw [hdr]
      simp only [manometerref05_Unquote.l0]
      rw [if_pos (by omega), if_pos (by omega), bt_B]
      generalize (B s).getD n 0 = c
      unfold unq
      by_cases h34 : c = 34
      · rw [if_pos ((c34 c).2 h34), if_pos h34, w1 n (by omega), strOf]
        rfl
      rw [if_neg (fun h => h34 ((c34 c).1 h)), if_neg h34]
      by_cases h10 : c = 10
      · rw [if_pos ((c10 c).2 h10), if_pos h10]
        rfl
      rw [if_neg (fun h => h10 ((c10 c).1 h)), if_neg h10]
      by_cases h92 : c = 92
      · rw [if_pos ((c92 c).2 h92), if_pos h92, w1 n (by omega)]
        by_cases hlt2 : n + 1 < s.size
        · have hdr2 := drop_cons (B s) (n + 1) (by omega)
          rw [hdr2, if_neg (by omega), if_pos (by omega), if_pos (by omega), bt_B]
          obtain ⟨e, he⟩ : ∃ e, e = (B s).getD (n + 1) 0 := ⟨_, rfl⟩
          rw [← he]
          have hA := ih (d - 2) (by omega) (n + 2) (k - 1) (acc ++ [e]) (by omega) (by rw [List.length_append]; simp; omega) (by omega)
          have hN := ih (d - 2) (by omega) (n + 2) (k - 1) (acc ++ [10]) (by omega) (by rw [List.length_append]; simp; omega) (by omega)
          obtain ⟨k, rfl⟩ : ∃ m, k = m + 1 := ⟨k - 1, by omega⟩
          rw [Nat.add_sub_cancel] at hA hN
          simp only [manometerref05_Unquote.j1]
          have h10i : ints acc ++ [10] = ints (acc ++ [10]) := take_nums acc 10
          by_cases e34 : e = 34
          · have n110 : ¬ (e.toNat : Int) = 110 := by rw [e34]; decide
            rw [if_pos ((c34 e).2 e34), if_neg (by decide), if_neg n110, if_pos (by omega), w2 n (by omega), take_nums, hA, if_pos (.inl e34)]
          · rw [if_neg (fun h => e34 ((c34 e).1 h))]
            by_cases e92 : e = 92
            · have n110 : ¬ (e.toNat : Int) = 110 := by rw [e92]; decide
              rw [if_pos ((c92 e).2 e92), if_neg (by decide), if_neg n110, if_pos (by omega), w2 n (by omega), take_nums, hA, if_pos (.inr e92)]
            · rw [if_neg (fun h => e92 ((c92 e).1 h)), if_neg (c := e = 34 ∨ e = 92) (by rintro (h | h); exact e34 h; exact e92 h)]
              by_cases e110 : e = 110
              · have b1 : (((e.toNat : Int) != 110) = false) := bne_eq_false_iff_eq.mpr ((c110 e).2 e110)
                rw [b1, if_neg (by decide), if_pos ((c110 e).2 e110), if_pos e110, if_pos (by omega), w2 n (by omega), h10i, hN]
              · have b1 : (((e.toNat : Int) != 110) = true) := bne_iff_ne.mpr (fun h => e110 ((c110 e).1 h))
                rw [b1, if_pos rfl, if_neg e110]
                rfl
        · have he : (B s).drop (n + 1) = [] := List.drop_of_length_le (by omega)
          rw [he, if_pos (by omega)]
          rfl
      · rw [if_neg (fun h => h92 ((c92 c).1 h)), if_neg h92, if_pos (by omega), w1 n (by omega), take_nums, ih (d - 1) (by omega) (n + 1) k (acc ++ [c]) (by omega) (by rw [List.length_append]; simp; omega) (by omega)]
    · have he : (B s).drop n = [] := List.drop_of_length_le (by omega)
      simp only [manometerref05_Unquote.l0]
      rw [if_neg (by omega), he]
      rfl
def unquoteL : Str → Str × Nat × Int
  | [] => ([], 0, 6)
  | c :: r => if c = 34 then unq [] 1 r else ([], 0, 8)
theorem Unquote_ev (s : ByteArray) (hs : s.size ≤ 1000000000000) : Ev (fun k => labels_Unquote.f k s) (told (unquoteL (B s))) ∧ Ev (fun k => manometerref05_Unquote.f k s) (told (unquoteL (B s))) := by
  have hl := B_length s
  unfold labels_Unquote.f manometerref05_Unquote.f
  rw [toList_B]
  by_cases he : B s = []
  · simp only [if_pos he]
    rw [he]
    exact ⟨Ev.now _, Ev.now _⟩
  · have hp := List.length_pos_iff.2 he
    have h0 := bt_B s 0
    have hd := drop_cons (B s) 0 hp
    rw [List.drop_zero] at hd
    have e0 : bt s 0 = (((B s).getD 0 0).toNat : Int) := h0
    simp only [if_neg he, if_pos (show (0 : Int) < (s.size : Int) by omega), e0]
    generalize (B s).getD 0 0 = c at hd
    have h1 := Unq_l0 s hs (s.size - 1) 1
    have h2 := RUnq_l0 s hs (s.size - 1) 1
    have ed : (B s).drop 1 = (B s).tail := by rw [List.drop_one]
    rw [hd]
    unfold unquoteL
    by_cases h34 : c = 34
    · simp only [if_pos ((c34 c).2 h34), if_pos h34]
      exact ⟨Ev.at (2 * s.size + 2) (fun k hk => h1 k [] (by omega) (Nat.zero_le _) (by omega)), Ev.at (2 * s.size + 2) (fun k hk => h2 k [] (by omega) (Nat.zero_le _) (by omega))⟩
    · simp only [if_neg (fun h => h34 ((c34 c).1 h)), if_neg h34]
      exact ⟨Ev.now _, Ev.now _⟩
def esc (c : UInt8) : Str := if c = 34 ∨ c = 92 then [92, c] else if c = 10 then [92, 110] else [c]
def quoteL (l : Str) : Str := [34] ++ l.flatMap esc ++ [34]
theorem esc_length (c : UInt8) : (esc c).length ≤ 2 := by unfold esc; split <;> (try split) <;> simp
theorem Quote_l0 (s : ByteArray) (hs : s.size ≤ 1000000000000) : ∀ (d n k : Nat) (acc : Str), n + d = s.size → acc.length ≤ 2 * n + 1 → 2 * d + 1 < k → labels_Quote.l0 k s (ints acc) (s.size : Int) (n : Int) = some (str (acc ++ ((B s).drop n).flatMap esc ++ [34]))
  | d, n, k, acc, hd, ha, hk => by
    obtain ⟨k, rfl⟩ := succ_of hk
    have hl := B_length s
    have hil := ints_length acc
    by_cases hlt : n < s.size
    · obtain ⟨d, rfl⟩ : ∃ e, d = e + 1 := ⟨d - 1, by omega⟩
      obtain ⟨k, rfl⟩ : ∃ m, k = m + 1 := ⟨k - 1, by omega⟩
      have hdr := drop_cons (B s) n (by omega)
      have hbt := bt_B s n
      obtain ⟨c, hc⟩ : ∃ c, c = (B s).getD n 0 := ⟨_, rfl⟩
      rw [← hc] at hdr hbt
      have hec := esc_length c
      have ih := Quote_l0 s hs d (n + 1) k (acc ++ esc c) (by omega) (by rw [List.length_append]; omega) (by omega)
      rw [hdr, List.flatMap_cons, ← List.append_assoc acc, ← ih]
      simp only [labels_Quote.l0, labels_Quote.j1]
      rw [if_pos (by omega), if_pos (by omega), if_pos (by omega), hbt, w1 n (by omega)]
      by_cases h34 : c = 34
      · have b1 : ((c.toNat : Int) == 34) = true := beq_iff_eq.mpr ((c34 c).2 h34)
        have e1 : ints acc ++ [92, (c.toNat : Int)] = ints (acc ++ esc c) := by rw [ints_append]; unfold esc; rw [if_pos (.inl h34)]; rfl
        rw [if_pos ((c34 c).2 h34), b1, if_pos rfl, if_pos (by omega), if_pos (by omega)]
        simp only [Option.bind_some]
        rw [if_pos (by simp; omega), e1]
      rw [if_neg (fun h => h34 ((c34 c).1 h))]
      by_cases h92 : c = 92
      · have b1 : ((c.toNat : Int) == 92) = true := beq_iff_eq.mpr ((c92 c).2 h92)
        have e1 : ints acc ++ [92, (c.toNat : Int)] = ints (acc ++ esc c) := by rw [ints_append]; unfold esc; rw [if_pos (.inr h92)]; rfl
        rw [b1, if_pos rfl, if_pos (by omega), if_pos (by omega)]
        simp only [Option.bind_some]
        rw [if_pos (by simp; omega), e1]
      have b1 : ((c.toNat : Int) == 92) = false := beq_eq_false_iff_ne.mpr (fun h => h92 ((c92 c).1 h))
      rw [b1, if_neg (by decide)]
      by_cases h10 : c = 10
      · have e1 : ints acc ++ [92, 110] = ints (acc ++ esc c) := by rw [ints_append]; unfold esc; rw [if_neg (by rintro (h | h); exact h34 h; exact h92 h), if_pos h10]; rfl
        rw [if_pos ((c10 c).2 h10)]
        simp only [Option.bind_some]
        rw [if_pos (by simp; omega), e1]
      · have e1 : ints acc ++ [(c.toNat : Int)] = ints (acc ++ esc c) := by rw [ints_append]; unfold esc; rw [if_neg (by rintro (h | h); exact h34 h; exact h92 h), if_neg h10]; rfl
        rw [if_neg (fun h => h10 ((c10 c).1 h)), if_pos (by omega), if_pos (by omega), if_pos (by omega), e1]
    · obtain rfl : d = 0 := by omega
      have he : (B s).drop n = [] := List.drop_of_length_le (by omega)
      have e1 : ints acc ++ [34] = ints (acc ++ [34]) := take_nums acc 34
      simp only [labels_Quote.l0]
      rw [if_neg (by omega), he, if_pos (by omega), e1, strOf]
      simp
theorem B_size (s : ByteArray) (l : Str) (h : B s = l) : s.size = l.length := by rw [← h, B_length]
theorem RQuote_l0 (s : ByteArray) (hs : s.size ≤ 1000000000000) : ∀ (d n k : Nat) (acc : ByteArray), n + d = s.size → acc.size ≤ 2 * n + 1 → 2 * d + 1 < k → manometerref05_Quote.l0 k s acc (s.size : Int) (n : Int) = some (str (B acc ++ ((B s).drop n).flatMap esc ++ [34]))
  | d, n, k, acc, hd, ha, hk => by
    obtain ⟨k, rfl⟩ := succ_of hk
    have hl := B_length s
    by_cases hlt : n < s.size
    · obtain ⟨d, rfl⟩ : ∃ e, d = e + 1 := ⟨d - 1, by omega⟩
      obtain ⟨k, rfl⟩ : ∃ m, k = m + 1 := ⟨k - 1, by omega⟩
      have hdr := drop_cons (B s) n (by omega)
      have hbt := bt_B s n
      have hex : B (s.extract n (n + 1)) = [(B s).getD n 0] := by
        rw [B_extract, List.drop_take, hdr]
        simp
      obtain ⟨c, hc⟩ : ∃ c, c = (B s).getD n 0 := ⟨_, rfl⟩
      rw [← hc] at hdr hbt hex
      have hec := esc_length c
      have hxs := B_size _ _ hex
      simp only [List.length_cons, List.length_nil] at hxs
      have key : ∀ z : ByteArray, B z = esc c → z.size ≤ 2 ∧ manometerref05_Quote.l0 k s (acc ++ z) (s.size : Int) ((n + 1 : Nat) : Int) = some (str (B acc ++ ((B s).drop n).flatMap esc ++ [34])) := fun z hz => by
        have hzs := B_size _ _ hz
        refine ⟨by omega, ?_⟩
        rw [RQuote_l0 s hs d (n + 1) k (acc ++ z) (by omega) (by rw [ByteArray.size_append]; omega) (by omega), B_append, hz, hdr, List.flatMap_cons]
        simp
      simp only [manometerref05_Quote.l0, manometerref05_Quote.j1]
      rw [if_pos (by omega), if_pos (by omega), if_pos (by omega), hbt, w1 n (by omega)]
      simp only [Int.toNat_natCast]
      by_cases h2 : c = 34 ∨ c = 92
      · obtain ⟨k1, k2⟩ := key ((⟨#[92]⟩ : ByteArray) ++ s.extract n (n + 1)) (by rw [B_append, hex]; unfold esc; rw [if_pos h2]; rfl)
        have hgo : (if (true = true) then (if (0 : Int) ≤ (n : Int) then (if (n : Int) ≤ ((n + 1 : Nat) : Int) then (if ((n + 1 : Nat) : Int) ≤ (s.size : Int) then (if 1 + (s.extract n (n + 1)).size ≤ 9223372036854775807 then (if acc.size + ((⟨#[92]⟩ : ByteArray) ++ s.extract n (n + 1)).size ≤ 9223372036854775807 then (manometerref05_Quote.l0 k s (acc ++ ((⟨#[92]⟩ : ByteArray) ++ s.extract n (n + 1))) (s.size : Int) ((n + 1 : Nat) : Int)) else none) else none) else none) else none) else none) else none) = some (str (B acc ++ ((B s).drop n).flatMap esc ++ [34])) := by
          rw [if_pos rfl, if_pos (by omega), if_pos (by omega), if_pos (by omega), if_pos (by omega), if_pos (by omega), k2]
        rcases h2 with h34 | h92
        · have b1 : ((c.toNat : Int) == 34) = true := beq_iff_eq.mpr ((c34 c).2 h34)
          rw [if_pos ((c34 c).2 h34), b1, if_pos rfl]
          rw [if_pos rfl] at hgo
          exact hgo
        · have b1 : ((c.toNat : Int) == 92) = true := beq_iff_eq.mpr ((c92 c).2 h92)
          have n34 : ¬ (c.toNat : Int) = 34 := by rw [h92]; decide
          rw [if_neg n34, b1, if_pos rfl]
          rw [if_pos rfl] at hgo
          exact hgo
      · have n34 : ¬ (c.toNat : Int) = 34 := fun h => h2 (.inl ((c34 c).1 h))
        have b1 : ((c.toNat : Int) == 92) = false := beq_eq_false_iff_ne.mpr (fun h => h2 (.inr ((c92 c).1 h)))
        rw [if_neg n34, b1, if_neg (by decide)]
        by_cases h10 : c = 10
        · obtain ⟨k1, k2⟩ := key (⟨#[92, 110]⟩ : ByteArray) (by unfold esc; rw [if_neg h2, if_pos h10]; rfl)
          rw [if_pos ((c10 c).2 h10), if_pos (by omega), k2]
        · obtain ⟨k1, k2⟩ := key (s.extract n (n + 1)) (by rw [hex]; unfold esc; rw [if_neg h2, if_neg h10])
          rw [if_neg (fun h => h10 ((c10 c).1 h)), if_pos (by omega), if_pos (by omega), if_pos (by omega), if_pos (by omega), k2]
    · obtain rfl : d = 0 := by omega
      have he : (B s).drop n = [] := List.drop_of_length_le (by omega)
      simp only [manometerref05_Quote.l0]
      rw [if_neg (by omega), he, if_pos (by omega)]
      congr 1
      apply B_inj
      rw [B_append, B_str]
      simp [B]
theorem Quote_ev (s : ByteArray) (hs : s.size ≤ 1000000000000) : Ev (fun k => labels_Quote.f k s) (str (quoteL (B s))) ∧ Ev (fun k => manometerref05_Quote.f k s) (str (quoteL (B s))) :=
  ⟨Ev.at (2 * s.size + 1) (fun k hk => Quote_l0 s hs s.size 0 k [34] (by omega) (Nat.le_refl _) hk), Ev.at (2 * s.size + 1) (fun k hk => RQuote_l0 s hs s.size 0 k (⟨#[34]⟩ : ByteArray) (by omega) (by decide) hk)⟩
end Go.Proofs.YtdhmabofncbohaaDoor.Pu
end
