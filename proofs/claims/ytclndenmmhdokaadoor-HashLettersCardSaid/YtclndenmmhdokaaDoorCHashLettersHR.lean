import Derived.Test.YtclndenmmhdokaaDoorCHashLettersPU0
import Derived.Test.YtclndenmmhdokaaDoorCHashLettersH16
import Derived.Test.YtclndenmmhdokaaDoorCHashLettersPHBx3
import Derived.Test.YtclndenmmhdokaaDoorCHashLettersPHBx2
import Derived.Test.YtclndenmmhdokaaDoorCHashLettersPHBx1
import Derived.Test.YtclndenmmhdokaaDoorCHashLettersPHLx0
import Derived.Test.YtclndenmmhdokaaDoorCHashLettersHT
import Derived.Lib.LaidU8
import Derived.LaidMore
import Derived.Test.YtclndenmmhdokaaDoorRows
namespace Go.Proofs.YtclndenmmhdokaaDoor.Bq
end Go.Proofs.YtclndenmmhdokaaDoor.Bq
section
namespace Go.Proofs.YtclndenmmhdokaaDoor.Pu
open Go Go.RowKit Go.Proofs.YtclndenmmhdokaaDoor Go.Proofs.YtclndenmmhdokaaDoor.PHB Go.Proofs.YtclndenmmhdokaaDoorW.PrintWords Go.Proofs.YtclndenmmhdokaaDoorW.PrintLast Go.Proofs.YtclndenmmhdokaaDoorW.PrintMore Bq
set_option linter.unusedVariables false
set_option linter.unusedSimpArgs false
theorem rdI (xs : List Int) (n : Nat) : rd xs (n : Int) = xs.getD n 0 := by unfold rd; rw [Int.toNat_natCast]
theorem rdL (l : List (List Int)) (n : Nat) : rd_L2 l (n : Int) = l.getD n [] := by unfold rd_L2; rw [Int.toNat_natCast]
theorem short_l0 (X L : List (List Int)) (hL : L.length ≤ 1000000) : ∀ (d n : Nat), n + d = L.length → (∀ j, j < n → (L.getD j []).length ≤ 2000) →
    ∃ r, Ev (fun k => manometerlaw03_short.l0 k X L (L.length : Int) (n : Int)) r ∧ (r = true → ∀ x ∈ L, x.length ≤ 2000)
  | d, n, hd, hj => by
    by_cases hlt : n < L.length
    · obtain ⟨d, rfl⟩ : ∃ e, d = e + 1 := ⟨d - 1, by omega⟩
      have e1 : (n : Int) < (L.length : Int) := by omega
      have e2 : (0 : Int) ≤ (n : Int) := by omega
      by_cases h0 : (L.getD n []).length ≤ 2000
      · obtain ⟨r, hr, hp⟩ := short_l0 X L hL d (n + 1) (by omega) (fun j hjn => by
          by_cases he : j < n
          · exact hj j he
          · obtain rfl : j = n := by omega
            exact h0)
        refine ⟨r, Ev.step (f := _) (fun k => by simp only [manometerlaw03_short.l0]; rfl) ?_, hp⟩
        simp only [if_pos e1, if_pos e2, rdL, if_neg (show ¬ ((L.getD n []).length : Int) > 2000 by omega), w1 n (by omega)]
        exact hr
      · refine ⟨false, Ev.step (f := _) (fun k => by simp only [manometerlaw03_short.l0]; rfl) ?_, (fun h => by cases h)⟩
        simp only [if_pos e1, if_pos e2, rdL, if_pos (show ((L.getD n []).length : Int) > 2000 by omega)]
        exact Ev.now _
    · refine ⟨decide ((X.length : Int) ≤ 30), Ev.step (f := _) (fun k => by simp only [manometerlaw03_short.l0]; rfl) ?_, fun h x hx => ?_⟩
      · simp only [if_neg (show ¬ (n : Int) < (L.length : Int) by omega)]
        exact Ev.now _
      · obtain ⟨j, hjl, rfl⟩ := List.mem_iff_getElem.1 hx
        have := hj j (by omega)
        rwa [List.getD_eq_getElem?_getD, List.getElem?_eq_getElem hjl] at this
theorem short_ev (L : List (List Int)) (hL : L.length ≤ 1000000) : ∃ r, Ev (fun k => manometerlaw03_short.f k L) r ∧ (r = true → ∀ x ∈ L, x.length ≤ 2000) :=
  short_l0 L L hL L.length 0 (by omega) (fun j h => absurd h (Nat.not_lt_zero j))
theorem byt_at {xs : List Int} (h : Byts xs) (i : Nat) (hi : i < xs.length) : 0 ≤ xs.getD i 0 ∧ xs.getD i 0 < 256 := by
  rw [List.getD_eq_getElem?_getD, List.getElem?_eq_getElem hi]
  exact h _ (List.getElem_mem hi)
theorem and15 (x : Int) (h0 : 0 ≤ x) (h1 : x < 256) : bits .and .u8 x 15 = x % 16 := by
  obtain ⟨n, rfl⟩ := Int.eq_ofNat_of_zero_le h0
  have h := (bits_nat .u8 8 (by decide) (fun m a b => by rw [IntKind.wrap_u8]; omega) n 15 (by omega) (by decide)).1
  refine h.trans ?_
  rw [show n &&& 15 = n % 16 from Nat.and_two_pow_sub_one_eq_mod n 4]
  omega
theorem or16 (a b : Int) (ha : 0 ≤ a ∧ a ≤ 15) (hb : 0 ≤ b ∧ b ≤ 15) : bits .or .u8 ((a * 16) % 256) b = 16 * a + b := by
  obtain ⟨m, rfl⟩ := Int.eq_ofNat_of_zero_le ha.1
  obtain ⟨n, rfl⟩ := Int.eq_ofNat_of_zero_le hb.1
  have h := (bits_nat .u8 8 (by decide) (fun m a b => by rw [IntKind.wrap_u8]; omega) (m * 16) n (by omega) (by omega)).2
  rw [show ((m : Int) * 16) % 256 = ((m * 16 : Nat) : Int) by omega]
  refine h.trans ?_
  have h3 := Nat.two_pow_add_eq_or_of_lt (i := 4) (show n < 2 ^ 4 by omega) m
  rw [Nat.mul_comm m 16, show (16 : Nat) = 2 ^ 4 from rfl, ← h3]
  omega
theorem bt_hex : ∀ v : Fin 16, bt (⟨#[48, 49, 50, 51, 52, 53, 54, 55, 56, 57, 97, 98, 99, 100, 101, 102]⟩ : ByteArray) (v.val : Int) = hexD.getD v.val 0 := by decide +kernel
theorem bt_lett : ∀ v : Fin 64, bt (⟨#[65, 66, 67, 68, 69, 70, 71, 72, 73, 74, 75, 76, 77, 78, 79, 80, 81, 82, 83, 84, 85, 86, 87, 88, 89, 90, 97, 98, 99, 100, 101, 102, 103, 104, 105, 106, 107, 108, 109, 110, 111, 112, 113, 114, 115, 116, 117, 118, 119, 120, 121, 122, 48, 49, 50, 51, 52, 53, 54, 55, 56, 57, 45, 95]⟩ : ByteArray) (v.val : Int) = lett.getD v.val 0 := by decide +kernel
theorem Hex_l0 (xs : List Int) (hb : Byts xs) (hl : xs.length ≤ 1000000) : ∀ (d n : Nat), n + d = xs.length → Ev (fun k => hash_Hex.l0 k (hex (xs.take n)) xs (xs.length : Int) (n : Int)) (strOfNums (hex xs))
  | d, n, hd => by
    refine Ev.step (f := _) (fun k => by simp only [hash_Hex.l0]; rfl) ?_
    by_cases hlt : n < xs.length
    · obtain ⟨d, rfl⟩ : ∃ e, d = e + 1 := ⟨d - 1, by omega⟩
      have e1 : (n : Int) < (xs.length : Int) := by omega
      have e2 : (0 : Int) ≤ (n : Int) := by omega
      obtain ⟨x0, x1⟩ := byt_at hb n hlt
      have ha := and15 _ x0 x1
      have hn := hex_next xs n hlt
      unfold hex1 at hn
      obtain ⟨x, hx⟩ : ∃ x, x = xs.getD n 0 := ⟨_, rfl⟩
      rw [← hx] at x0 x1 ha hn
      have hlen := hex_length (xs.take n)
      have hq1 : (((x / 16).toNat : Nat) : Int) = x / 16 := by omega
      have hq2 : (((x % 16).toNat : Nat) : Int) = x % 16 := by omega
      have b1 := bt_hex ⟨(x / 16).toNat, by omega⟩
      have b2 := bt_hex ⟨(x % 16).toNat, by omega⟩
      simp only [hq1, hq2] at b1 b2
      simp only [if_pos e1, if_pos e2, rdI, ← hx, ha, if_pos (show (0 : Int) ≤ x / 16 by omega), if_pos (show x / 16 < 16 by omega), if_pos (show (0 : Int) ≤ x % 16 by omega), if_pos (show x % 16 < 16 by omega), Option.bind_some, b1, b2, w1 n (by omega), hn]
      have hc : (hex (xs.take n)).length + [hexD.getD (x / 16).toNat 0, hexD.getD (x % 16).toNat 0].length < 140737488355328 := by
        rw [hlen, List.length_take]
        simp only [List.length_cons, List.length_nil]
        omega
      simp only [if_pos hc]
      exact Hex_l0 xs hb hl d (n + 1) (by omega)
    · simp only [if_neg (show ¬ (n : Int) < (xs.length : Int) by omega)]
      rw [List.take_of_length_le (by omega)]
      exact Ev.now _
theorem Hex_ev (xs : List Int) (hb : Byts xs) (hl : xs.length ≤ 1000000) : Ev (fun k => hash_Hex.f k xs) (strOfNums (hex xs)) := by
  unfold hash_Hex.f
  rw [wn (n := 2 * xs.length) (by omega) (by omega)]
  simp only [if_pos (show (0 : Int) ≤ ((2 * xs.length : Nat) : Int) by omega), Int.toNat_natCast, if_pos (show 2 * xs.length ≤ 281474976710656 by omega)]
  exact Hex_l0 xs hb hl xs.length 0 (by omega)
theorem four_ev (c : Int) (h0 : 0 ≤ c) (h1 : c < 256) : Ev (fun k => hash_four.f k c) (nib c) := by
  refine Ev.at 1 (fun k hk => ?_)
  obtain ⟨m, rfl⟩ : ∃ m, k = m + 1 := ⟨k - 1, by omega⟩
  simp only [hash_four.f, hash_four.j0, decide_eq_true_eq, Bool.false_eq_true, if_false]
  unfold nib
  (repeat' split) <;> first
    | (exfalso; omega)
    | rfl
    | (rw [Option.some.injEq]; omega)
theorem bytesOf_byts (s : ByteArray) : Byts (bytesOf s) := fun x hx => by
  obtain ⟨b, _, rfl⟩ := List.mem_map.1 hx
  have := b.toNat_lt
  omega
theorem bt_of (s : ByteArray) (n : Nat) : bt s (n : Int) = (bytesOf s).getD n 0 := by rw [← rd_bytesOf, rdI]
theorem drop_at (xs : List Int) (n : Nat) (h : n < xs.length) : xs.drop n = xs.getD n 0 :: xs.drop (n + 1) := by
  rw [List.drop_eq_getElem_cons h, List.getD_eq_getElem?_getD, List.getElem?_eq_getElem h]
  rfl
def moreX (acc l : List Int) : List Int × Int := if l.length % 2 = 1 ∨ badN l = true then ([], 8) else (acc ++ pairs l, 0)
theorem moreX_odd {acc l : List Int} (h : l.length % 2 = 1) : moreX acc l = ([], 8) := if_pos (.inl h)
theorem moreX_bad {acc l : List Int} (h : badN l = true) : moreX acc l = ([], 8) := if_pos (.inr h)
theorem badN_cons (a : Int) (l : List Int) : badN (a :: l) = (decide (15 < nib a) || badN l) := rfl
theorem moreX_two {acc l : List Int} {a b : Int} (ha : ¬ 15 < nib a) (hb : ¬ 15 < nib b) : moreX acc (a :: b :: l) = moreX (acc ++ [16 * nib a + nib b]) l := by
  unfold moreX
  rw [badN_cons, badN_cons, decide_eq_false ha, decide_eq_false hb, Bool.false_or, Bool.false_or, List.length_cons, List.length_cons, show (l.length + 1 + 1) % 2 = l.length % 2 by omega]
  split
  · rfl
  · rw [List.append_assoc]
    rfl
theorem Unhex_l0 (s : ByteArray) (hs : s.size ≤ 1000000) (he : s.size % 2 = 0) : ∀ (d n : Nat) (acc : List Int), n + 2 * d = s.size → acc.length ≤ n → Ev (fun k => hash_Unhex.l0 k s acc (n : Int)) (moreX acc ((bytesOf s).drop n))
  | d, n, acc, hd, hl => by
    have hbl := bytesOf_length s
    refine Ev.step (f := _) (fun k => by simp only [hash_Unhex.l0]; rfl) ?_
    rcases d with _ | d
    · simp only [if_neg (show ¬ (n : Int) < (s.size : Int) by omega)]
      rw [List.drop_of_length_le (by omega)]
      show Ev (fun _ => some (acc, 0)) (moreX acc [])
      unfold moreX pairs badN
      simp only [List.length_nil, List.any_nil, List.append_nil]
      exact Ev.now _
    · have hlt : n < (bytesOf s).length := by omega
      have hlt2 : n + 1 < (bytesOf s).length := by omega
      obtain ⟨a0, a1⟩ := byt_at (bytesOf_byts s) n hlt
      obtain ⟨b0, b1⟩ := byt_at (bytesOf_byts s) (n + 1) hlt2
      rw [drop_at _ n hlt, drop_at _ (n + 1) hlt2]
      have fa := four_ev _ a0 a1
      have fb := four_ev _ b0 b1
      simp only [if_pos (show (n : Int) < (s.size : Int) by omega), if_pos (show (0 : Int) ≤ (n : Int) by omega), bt_of, w1 n (by omega), if_pos (show (0 : Int) ≤ ((n + 1 : Nat) : Int) by omega), if_pos (show ((n + 1 : Nat) : Int) < (s.size : Int) by omega)]
      generalize (bytesOf s).getD n 0 = a at *
      generalize (bytesOf s).getD (n + 1) 0 = b at *
      refine Ev.bind fa ?_
      refine Ev.bind fb ?_
      have ra := nib_range a
      have rb := nib_range b
      by_cases ha : nib a > 15
      · simp only [if_pos ha]
        rw [moreX_bad (by rw [badN_cons, decide_eq_true ha]; rfl)]
        exact Ev.now _
      · simp only [if_neg ha]
        by_cases hb : nib b > 15
        · simp only [if_pos hb]
          rw [moreX_bad (by rw [badN_cons, badN_cons, decide_eq_true hb, Bool.true_or, Bool.or_true])]
          exact Ev.now _
        · simp only [if_neg hb, if_pos (show acc.length < 140737488355328 by omega), or16 (nib a) (nib b) ⟨by omega, by omega⟩ ⟨by omega, by omega⟩, wn (x := (n : Int) + 2) (n := n + 2) (by omega) (by omega)]
          rw [moreX_two ha hb]
          exact Unhex_l0 s hs he d (n + 2) _ (by omega) (by rw [List.length_append, List.length_singleton]; omega)
theorem unhexP_more (l : List Int) : unhexP l = moreX [] l := by unfold unhexP moreX; rw [List.nil_append]
theorem Unhex_ev (s : ByteArray) (hs : s.size ≤ 1000000) : Ev (fun k => hash_Unhex.f k s) (unhexP (bytesOf s)) := by
  rw [unhexP_more]
  unfold hash_Unhex.f
  by_cases h : s.size % 2 = 0
  · simp only [if_neg (show ¬ (s.size : Int) % 2 > 0 by omega)]
    rw [wn (n := s.size / 2) (by omega) (by omega)]
    simp only [if_pos (show (0 : Int) ≤ ((s.size / 2 : Nat) : Int) by omega), Int.toNat_natCast, if_pos (show s.size / 2 ≤ 281474976710656 by omega)]
    exact Unhex_l0 s hs h (s.size / 2) 0 [] (by omega) (Nat.le_refl _)
  · simp only [if_pos (show (s.size : Int) % 2 > 0 by omega)]
    rw [moreX_odd (by rw [bytesOf_length]; omega)]
    exact Ev.now _
theorem nibble_l0 (c : Int) : ∀ (d n : Nat), n + d = 16 → (∀ j, j < n → hexD.getD j 0 ≠ c) → Ev (fun k => manometerref03_nibble.l0 k c (n : Int)) (nib c)
  | d, n, hd, hj => by
    refine Ev.step (f := _) (fun k => by simp only [manometerref03_nibble.l0]; rfl) ?_
    rcases d with _ | d
    · simp only [if_neg (show ¬ (n : Int) < 16 by omega)]
      have h : nib c = 16 := by
        have hr := nib_range c
        by_cases h15 : nib c ≤ 15
        · exact absurd (hex_nib c h15) (hj _ (by omega))
        · omega
      rw [h]
      exact Ev.now _
    · have hb := bt_hex ⟨n, by omega⟩
      simp only at hb
      simp only [if_pos (show (n : Int) < 16 by omega), if_pos (show (0 : Int) ≤ (n : Int) by omega), hb, w1 n (by omega)]
      by_cases he : hexD.getD n 0 = c
      · simp only [if_pos he]
        have h := (nib_hex ⟨n, by omega⟩).1
        simp only [he] at h
        rw [h, show (n : Int) % 256 = (n : Int) by omega]
        exact Ev.now _
      · simp only [if_neg he]
        exact nibble_l0 c d (n + 1) (by omega) (fun j hjn => by
          by_cases h : j < n
          · exact hj j h
          · obtain rfl : j = n := by omega
            exact he)
theorem nibble_ev (c : Int) : Ev (fun k => manometerref03_nibble.f k c) (nib c) := nibble_l0 c 16 0 (by omega) (fun j h => absurd h (Nat.not_lt_zero j))
theorem RUnhex_end (s : ByteArray) (hs : s.size ≤ 1000000) (n : Nat) (acc : List Int) (h : n = s.size) (h2 : n % 2 = 0) : Ev (fun k => manometerref03_Unhex.l0 k s acc (s.size : Int) (n : Int)) (moreX acc ((bytesOf s).drop n)) := by
  have hbl := bytesOf_length s
  refine Ev.step (f := _) (fun k => by simp only [manometerref03_Unhex.l0]; rfl) ?_
  simp only [if_neg (show ¬ (n : Int) < (s.size : Int) by omega), if_neg (show ¬ (s.size : Int) % 2 = 1 by omega)]
  rw [List.drop_of_length_le (by omega)]
  unfold moreX pairs badN
  simp only [List.length_nil, List.any_nil, List.append_nil]
  exact Ev.now _
theorem RUnhex_one (s : ByteArray) (hs : s.size ≤ 1000000) (n : Nat) (acc : List Int) (h : n + 1 = s.size) (h2 : n % 2 = 0) (hl : acc.length ≤ 1000000) : Ev (fun k => manometerref03_Unhex.l0 k s acc (s.size : Int) (n : Int)) (moreX acc ((bytesOf s).drop n)) := by
  have hbl := bytesOf_length s
  have hodd : moreX acc ((bytesOf s).drop n) = ([], 8) := moreX_odd (by rw [List.length_drop, hbl]; omega)
  rw [hodd]
  refine Ev.step (f := _) (fun k => by simp only [manometerref03_Unhex.l0]; rfl) ?_
  simp only [if_pos (show (n : Int) < (s.size : Int) by omega), if_pos (show (0 : Int) ≤ (n : Int) by omega), bt_of]
  refine Ev.bind (nibble_ev _) ?_
  generalize nib ((bytesOf s).getD n 0) = a
  by_cases ha : a > 15
  · simp only [if_pos ha]
    exact Ev.now _
  · simp only [if_neg ha, if_pos (show Int.tmod (n : Int) 2 = 0 by rw [Int.tmod_eq_emod_of_nonneg (by omega)]; omega), if_pos (show acc.length < 140737488355328 by omega), w1 n (by omega)]
    refine Ev.step (f := _) (fun k => by simp only [manometerref03_Unhex.l0]; rfl) ?_
    simp only [if_neg (show ¬ ((n + 1 : Nat) : Int) < (s.size : Int) by omega), if_pos (show (s.size : Int) % 2 = 1 by omega)]
    exact Ev.now _
theorem set_last (acc : List Int) (x y : Int) : (acc ++ [x]).set acc.length y = acc ++ [y] := by
  rw [List.set_append_right _ _ (Nat.le_refl _), Nat.sub_self, List.set_cons_zero]
theorem get_last (acc : List Int) (x : Int) : (acc ++ [x]).getD acc.length 0 = x := by
  rw [List.getD_eq_getElem?_getD, List.getElem?_append_right (Nat.le_refl _), Nat.sub_self]
  rfl
theorem RUnhex_two (s : ByteArray) (hs : s.size ≤ 1000000) (n : Nat) (acc : List Int) (h : n + 2 ≤ s.size) (h2 : n % 2 = 0) (hl : acc.length = n / 2)
    (ih : ∀ acc' : List Int, acc'.length = (n + 2) / 2 → Ev (fun k => manometerref03_Unhex.l0 k s acc' (s.size : Int) ((n + 2 : Nat) : Int)) (moreX acc' ((bytesOf s).drop (n + 2)))) :
    Ev (fun k => manometerref03_Unhex.l0 k s acc (s.size : Int) (n : Int)) (moreX acc ((bytesOf s).drop n)) := by
  have hbl := bytesOf_length s
  rw [drop_at _ n (by omega), drop_at _ (n + 1) (by omega)]
  refine Ev.step (f := _) (fun k => by simp only [manometerref03_Unhex.l0]; rfl) ?_
  simp only [if_pos (show (n : Int) < (s.size : Int) by omega), if_pos (show (0 : Int) ≤ (n : Int) by omega), bt_of]
  generalize (bytesOf s).getD n 0 = a
  have e3 : (bytesOf s).getD (n + 1) 0 = (bytesOf s).getD (n + 1) 0 := rfl
  refine Ev.bind (nibble_ev a) ?_
  have ra := nib_range a
  by_cases ha : nib a > 15
  · simp only [if_pos ha]
    rw [moreX_bad (by rw [badN_cons, decide_eq_true ha]; rfl)]
    exact Ev.now _
  · simp only [if_neg ha, if_pos (show Int.tmod (n : Int) 2 = 0 by rw [Int.tmod_eq_emod_of_nonneg (by omega)]; omega), if_pos (show acc.length < 140737488355328 by omega), show (16 * nib a) % 256 = 16 * nib a by omega, w1 n (by omega)]
    refine Ev.step (f := _) (fun k => by simp only [manometerref03_Unhex.l0]; rfl) ?_
    simp only [if_pos (show ((n + 1 : Nat) : Int) < (s.size : Int) by omega), if_pos (show (0 : Int) ≤ ((n + 1 : Nat) : Int) by omega), bt_of]
    generalize (bytesOf s).getD (n + 1) 0 = b
    refine Ev.bind (nibble_ev b) ?_
    have rb := nib_range b
    by_cases hb : nib b > 15
    · simp only [if_pos hb]
      rw [moreX_bad (by rw [badN_cons, badN_cons, decide_eq_true hb, Bool.true_or, Bool.or_true])]
      exact Ev.now _
    · have hz0 : (0 : Int) ≤ (acc.length : Int) := by omega
      have hz1 : n + 1 ≤ 9000000000000000000 := by omega
      have hz2 : ¬ Int.tmod ((n + 1 : Nat) : Int) 2 = 0 := by rw [Int.tmod_eq_emod_of_nonneg (by omega)]; omega
      have hc : (acc.length : Int) < ((acc ++ [16 * nib a]).length : Int) := by rw [List.length_append, List.length_singleton]; omega
      have hm : (16 * nib a + nib b) % 256 = 16 * nib a + nib b := by omega
      have hq : wrap64 (Int.tdiv ((n + 1 : Nat) : Int) 2) = (acc.length : Int) := by
        rw [Int.tdiv_eq_ediv_of_nonneg (by omega), hl]
        exact wn (by omega) (by omega)
      simp only [if_neg hb, if_neg hz2, hq, if_pos hz0, if_pos hc, rdI, Int.toNat_natCast, w1 (n + 1) hz1, get_last, set_last, hm]
      rw [moreX_two ha hb]
      exact ih _ (by rw [List.length_append, List.length_singleton, hl]; clear hq; omega)
theorem RUnhex_l0 (s : ByteArray) (hs : s.size ≤ 1000000) : ∀ (d n : Nat) (acc : List Int), n + 2 * d ≤ s.size → s.size ≤ n + 2 * d + 1 → n % 2 = 0 → acc.length = n / 2 → Ev (fun k => manometerref03_Unhex.l0 k s acc (s.size : Int) (n : Int)) (moreX acc ((bytesOf s).drop n))
  | 0, n, acc, h0, h1, h2, hl => by
    by_cases h : n = s.size
    · exact RUnhex_end s hs n acc h h2
    · exact RUnhex_one s hs n acc (by omega) h2 (by omega)
  | d + 1, n, acc, h0, h1, h2, hl => RUnhex_two s hs n acc (by omega) h2 hl (fun acc' ha => RUnhex_l0 s hs d (n + 2) acc' (by omega) (by omega) (by omega) ha)
theorem RUnhex_ev (s : ByteArray) (hs : s.size ≤ 1000000) : Ev (fun k => manometerref03_Unhex.f k s) (unhexP (bytesOf s)) := by
  rw [unhexP_more]
  unfold manometerref03_Unhex.f
  exact RUnhex_l0 s hs (s.size / 2) 0 [] (by omega) (by omega) rfl rfl
end Go.Proofs.YtclndenmmhdokaaDoor.Pu
end
section
namespace Go.Proofs.YtclndenmmhdokaaDoor.Pu
open Go Go.RowKit Go.Proofs.YtclndenmmhdokaaDoor Go.Proofs.YtclndenmmhdokaaDoor.PHB Go.Proofs.YtclndenmmhdokaaDoorW.PrintWords Go.Proofs.YtclndenmmhdokaaDoorW.PrintLast Go.Proofs.YtclndenmmhdokaaDoorW.PrintMore Bq
set_option linter.unusedVariables false
set_option linter.unusedSimpArgs false
theorem value_l0 (c : Int) : ∀ (d n : Nat), n + d = 64 → (∀ j, j < n → lett.getD j 0 ≠ c) → Ev (fun k => manometerref03_value.l0 k c (n : Int)) (((sixV c).getD 64 : Nat) : Int)
  | d, n, hd, hj => by
    refine Ev.step (f := _) (fun k => by simp only [manometerref03_value.l0]; rfl) ?_
    rcases d with _ | d
    · simp only [if_neg (show ¬ (n : Int) < 64 by omega)]
      have h : sixV c = none := by
        cases hv : sixV c with
        | none => rfl
        | some v => exact absurd (six_lett c v hv) (hj _ (by have := (sixV_lt hv).1; omega))
      rw [h]
      exact Ev.now _
    · have hb := bt_lett ⟨n, by omega⟩
      simp only at hb
      simp only [if_pos (show (n : Int) < 64 by omega), if_pos (show (0 : Int) ≤ (n : Int) by omega), hb, w1 n (by omega)]
      by_cases he : lett.getD n 0 = c
      · simp only [if_pos he]
        have h := (lett_six ⟨n, by omega⟩).1
        simp only [he] at h
        rw [h, show IntKind.u64.wrap (n : Int) = (n : Int) by rw [IntKind.wrap_u64]; omega]
        exact Ev.now _
      · simp only [if_neg he]
        exact value_l0 c d (n + 1) (by omega) (fun j hjn => by
          by_cases h : j < n
          · exact hj j h
          · obtain rfl : j = n := by omega
            exact he)
theorem value_ev (c : Int) : Ev (fun k => manometerref03_value.f k c) (((sixV c).getD 64 : Nat) : Int) := value_l0 c 64 0 (by omega) (fun j h => absurd h (Nat.not_lt_zero j))
theorem shr_bit (n i : Nat) (hi : i < 64) (hn : n < 18446744073709551616) : (bits .and .u64 (shr .u64 (n : Int) (i : Int)) 1 == 1) = n.testBit i := by
  have hs : shr .u64 (n : Int) (i : Int) = ((n / 2 ^ i : Nat) : Int) := by
    unfold shr
    rw [Int.toNat_natCast, Nat.min_eq_left (by show i ≤ 64; omega)]
    simp
  have hd : n / 2 ^ i < 18446744073709551616 := Nat.lt_of_le_of_lt (Nat.div_le_self _ _) hn
  have h := bit_eq n i
  rw [← h, hs]
  have e : ((n : Int) / 2 ^ i) = ((n / 2 ^ i : Nat) : Int) := by simp
  rw [e]
  generalize n / 2 ^ i = q at hd
  rw [and_one _ (by omega) (by omega)]
theorem Put_l0 (n : Nat) (hn : n < 18446744073709551616) : ∀ (j : Nat) (R : List Bool), j ≤ 64 → R.length + j ≤ 1000000000 → Ev (fun k => manometerref01_Put.l0 k R (n : Int) ((j : Int) - 1)) (R ++ nb n j)
  | 0, R, hj, hl => by
    refine Ev.step (f := _) (fun k => by simp only [manometerref01_Put.l0]; rfl) ?_
    simp only [if_neg (show ¬ ((0 : Nat) : Int) - 1 ≥ 0 by omega)]
    rw [nb_zero, List.append_nil]
    exact Ev.now _
  | j + 1, R, hj, hl => by
    refine Ev.step (f := _) (fun k => by simp only [manometerref01_Put.l0]; rfl) ?_
    have e : ((j + 1 : Nat) : Int) - 1 = (j : Int) := by omega
    have ew : IntKind.u64.wrap (j : Int) = (j : Int) := by rw [IntKind.wrap_u64]; omega
    have e2 : wrap64 ((j : Int) - 1) = (j : Int) - 1 := w64 (by omega) (by omega)
    simp only [e, if_pos (show (j : Int) ≥ 0 by omega), ew, if_pos (show (0 : Int) ≤ (j : Int) by omega), if_pos (show R.length < 140737488355328 by omega), shr_bit n j (by omega) hn, e2]
    have := Put_l0 n hn j (R ++ [n.testBit j]) (by omega) (by rw [List.length_append, List.length_singleton]; omega)
    rw [List.append_assoc] at this
    rw [nb_succ]
    exact this
theorem Put_ev (R : List Bool) (n j : Nat) (hn : n < 18446744073709551616) (hj : j ≤ 64) (hl : R.length + j ≤ 1000000000) : Ev (fun k => manometerref01_Put.f k R (n : Int) (j : Int)) (R ++ nb n j) := by
  unfold manometerref01_Put.f
  rw [show wrap64 ((j : Int) - 1) = (j : Int) - 1 from w64 (by omega) (by omega)]
  exact Put_l0 n hn j R hj hl
theorem cut_lett (n : Nat) (h : n < 64) : (⟨#[65, 66, 67, 68, 69, 70, 71, 72, 73, 74, 75, 76, 77, 78, 79, 80, 81, 82, 83, 84, 85, 86, 87, 88, 89, 90, 97, 98, 99, 100, 101, 102, 103, 104, 105, 106, 107, 108, 109, 110, 111, 112, 113, 114, 115, 116, 117, 118, 119, 120, 121, 122, 48, 49, 50, 51, 52, 53, 54, 55, 56, 57, 45, 95]⟩ : ByteArray).extract n (n + 1) = strOfNums [lett.getD n 0] := by
  have : ∀ k : Fin 64, (⟨#[65, 66, 67, 68, 69, 70, 71, 72, 73, 74, 75, 76, 77, 78, 79, 80, 81, 82, 83, 84, 85, 86, 87, 88, 89, 90, 97, 98, 99, 100, 101, 102, 103, 104, 105, 106, 107, 108, 109, 110, 111, 112, 113, 114, 115, 116, 117, 118, 119, 120, 121, 122, 48, 49, 50, 51, 52, 53, 54, 55, 56, 57, 45, 95]⟩ : ByteArray).extract k.val (k.val + 1) = strOfNums [lett.getD k.val 0] := by decide +kernel
  exact this ⟨n, h⟩
theorem arm_pad (R : List Bool) (h : R.length % 6 ≠ 0) : arm (R ++ [false]) = arm R := by
  obtain ⟨q, hq⟩ : ∃ q, q = R.length / 6 := ⟨_, rfl⟩
  have hd : (R.take (6 * q)).length = 6 * q := by rw [List.length_take]; omega
  have ht : (R.drop (6 * q)).length = R.length % 6 := by rw [List.length_drop]; omega
  have e : R ++ [false] = R.take (6 * q) ++ (R.drop (6 * q) ++ [false]) := by rw [← List.append_assoc, List.take_append_drop]
  have h1 : arm (R ++ [false]) = arm (R.take (6 * q)) ++ [six1 (R.drop (6 * q) ++ [false])] := by
    rw [e, arm_append q _ _ hd, arm_short (R.drop (6 * q) ++ [false]) (by simp) (by rw [List.length_append, List.length_singleton]; omega)]
  have h2 : arm R = arm (R.take (6 * q)) ++ [six1 (R.drop (6 * q))] := by
    rw [← arm_short (R.drop (6 * q)) (fun e => by rw [e] at ht; simp at ht; omega) (by omega), ← arm_append q _ _ hd, List.take_append_drop]
  rw [h1, h2]
  congr 2
  unfold six1
  rw [bnum_snoc, List.length_append, List.length_singleton, ht]
  congr 1
  have e2 : 6 - R.length % 6 = 6 - (R.length % 6 + 1) + 1 := by omega
  rw [e2, Nat.pow_succ]
  simp only [Bool.toNat_false, Nat.add_zero]
  rw [Nat.mul_comm 2, Nat.mul_assoc, Nat.mul_comm 2]
theorem RArmor_l1 : ∀ (q : Nat) (R : List Bool) (S : ByteArray), R.length = 6 * q → S.size + q ≤ 1000000000 → Ev (fun k => manometerref03_Armor.l1 k R S) (S ++ strOfNums (arm R))
  | 0, R, S, h, hs => by
    refine Ev.step (f := _) (fun k => by simp only [manometerref03_Armor.l1]; rfl) ?_
    have : R = [] := List.eq_nil_of_length_eq_zero (by omega)
    subst this
    simp only [if_neg (show ¬ ((([] : List Bool).length : Int)) > 0 by simp)]
    rw [arm_nil]
    have e : S ++ strOfNums [] = S := B_inj (by rw [B_append]; show B S ++ [] = B S; rw [List.append_nil])
    rw [e]
    exact Ev.now _
  | q + 1, R, S, h, hs => by
    refine Ev.step (f := _) (fun k => by simp only [manometerref03_Armor.l1]; rfl) ?_
    have ht : (R.take 6).length = 6 := by rw [List.length_take]; omega
    have hlt := bnum_lt (R.take 6)
    rw [ht] at hlt
    have hnum : manometerref01_Number.f (R.take 6) = some ((bnum (R.take 6) : Nat) : Int) := by
      unfold manometerref01_Number.f
      rw [if_pos (by omega)]
    simp only [if_pos (show (R.length : Int) > 0 by omega), if_pos (show (6 : Int) ≤ (R.length : Int) by omega)]
    refine Ev.bindc hnum ?_
    obtain ⟨v, hv⟩ : ∃ v, v = bnum (R.take 6) := ⟨_, rfl⟩
    rw [← hv] at hlt
    have e1 : IntKind.u64.wrap ((v : Int) + 1) = ((v + 1 : Nat) : Int) := by rw [IntKind.wrap_u64]; omega
    rw [← hv]
    simp only [e1, if_pos (show (0 : Int) ≤ (v : Int) by omega), if_pos (show (v : Int) ≤ ((v + 1 : Nat) : Int) by omega), if_pos (show ((v + 1 : Nat) : Int) ≤ 64 by omega), Int.toNat_natCast, cut_lett v (by omega), strOfNums_size, List.length_singleton, if_pos (show S.size + 1 ≤ 9223372036854775807 by omega)]
    have hR : R ≠ [] := fun e => by rw [e] at h; simp at h
    have ih := RArmor_l1 q (R.drop 6) (S ++ strOfNums [lett.getD v 0]) (by rw [List.length_drop]; omega) (by rw [ByteArray.size_append, strOfNums_size, List.length_singleton]; omega)
    rw [arm_cons R hR, six1_full _ ht, ← hv]
    have e2 : S ++ strOfNums (lett.getD v 0 :: arm (R.drop 6)) = S ++ strOfNums [lett.getD v 0] ++ strOfNums (arm (R.drop 6)) := by
      rw [show lett.getD v 0 :: arm (R.drop 6) = [lett.getD v 0] ++ arm (R.drop 6) from rfl, sN_append]
      exact B_inj (by rw [B_append, B_append, B_append, B_append, List.append_assoc])
    rw [e2]
    exact ih
theorem RArmor_l0 : ∀ (d : Nat) (R : List Bool), (R.length + d) % 6 = 0 → d < 6 → R.length + d ≤ 10000000 → Ev (fun k => manometerref03_Armor.l0 k R) (strOfNums (arm R))
  | d, R, h, hd, hl => by
    refine Ev.step (f := _) (fun k => by simp only [manometerref03_Armor.l0]; rfl) ?_
    by_cases h0 : R.length % 6 = 0
    · simp only [if_pos (show ((R.length : Int) % 6) = 0 by omega)]
      have h1 := RArmor_l1 (R.length / 6) R (⟨#[]⟩ : ByteArray) (by omega) (by show 0 + _ ≤ _; omega)
      have e : (⟨#[]⟩ : ByteArray) ++ strOfNums (arm R) = strOfNums (arm R) := B_inj (by rw [B_append]; rfl)
      rw [e] at h1
      exact h1
    · rcases d with _ | d
      · omega
      · simp only [if_neg (show ¬ ((R.length : Int) % 6) = 0 by omega), if_pos (show R.length < 140737488355328 by omega)]
        rw [← arm_pad R h0]
        exact RArmor_l0 d (R ++ [false]) (by rw [List.length_append, List.length_singleton]; omega) (by omega) (by rw [List.length_append, List.length_singleton]; omega)
theorem all_byts {xs : List Int} (h : Byts xs) : xs.all (fun x => decide (0 ≤ x ∧ x < 256)) = true := List.all_eq_true.2 (fun x hx => decide_eq_true (h x hx))
theorem RArmor_ev (xs : List Int) (hb : Byts xs) (hl : xs.length ≤ 1000000) : Ev (fun k => manometerref03_Armor.f k xs) (strOfNums (armor xs)) := by
  unfold manometerref03_Armor.f
  have e : wrap64 (8 * (xs.length : Int)) = ((8 * xs.length : Nat) : Int) := wn (by omega) (by omega)
  have hbits : manometerref01_Bits.f xs (wrap64 (8 * (xs.length : Int))) = some (bitsOf xs (8 * xs.length)) := by
    rw [e]
    unfold manometerref01_Bits.f
    rw [if_pos hl, if_pos (all_byts hb), if_pos (by omega), if_pos (by omega), Int.toNat_natCast]
  refine Ev.bindc hbits ?_
  unfold armor
  exact RArmor_l0 ((6 - (bitsOf xs (8 * xs.length)).length % 6) % 6) _ (by omega) (by omega) (by rw [bitsOf_length]; omega)
theorem sN_bytesOf (s : ByteArray) : strOfNums (bytesOf s) = s := by
  apply B_inj
  show (bytesOf s).map _ = s.data.toList
  unfold bytesOf
  rw [List.map_map]
  have : ((fun n : Int => UInt8.ofNat n.toNat) ∘ fun b : UInt8 => (b.toNat : Int)) = id := by
    funext b
    simp
  rw [this, List.map_id]
theorem u8_inj {x y : Int} (hx : 0 ≤ x ∧ x < 256) (hy : 0 ≤ y ∧ y < 256) (h : UInt8.ofNat x.toNat = UInt8.ofNat y.toNat) : x = y := by
  have := congrArg UInt8.toNat h
  rw [UInt8.toNat_ofNat', UInt8.toNat_ofNat'] at this
  omega
theorem sN_inj : ∀ {xs ys : List Int}, Byts xs → Byts ys → strOfNums xs = strOfNums ys → xs = ys
  | [], [], _, _, _ => rfl
  | [], y :: ys, _, _, h => by have := congrArg ByteArray.size h; rw [strOfNums_size, strOfNums_size] at this; simp at this
  | x :: xs, [], _, _, h => by have := congrArg ByteArray.size h; rw [strOfNums_size, strOfNums_size] at this; simp at this
  | x :: xs, y :: ys, hx, hy, h => by
    have h1 : B (strOfNums (x :: xs)) = B (strOfNums (y :: ys)) := by rw [h]
    have h2 : UInt8.ofNat x.toNat :: xs.map (fun x => UInt8.ofNat x.toNat) = UInt8.ofNat y.toNat :: ys.map (fun x => UInt8.ofNat x.toNat) := h1
    injection h2 with h3 h4
    have h5 : strOfNums xs = strOfNums ys := B_inj h4
    rw [u8_inj (hx x List.mem_cons_self) (hy y List.mem_cons_self) h3, sN_inj (fun z hz => hx z (List.mem_cons_of_mem _ hz)) (fun z hz => hy z (List.mem_cons_of_mem _ hz)) h5]
theorem bytesOf_sN {xs : List Int} (h : Byts xs) : bytesOf (strOfNums xs) = xs := sN_inj (bytesOf_byts _) h (sN_bytesOf _)
theorem six1_byt (l : List Bool) : 0 ≤ six1 l ∧ six1 l < 256 := by
  unfold six1
  rw [List.getD_eq_getElem?_getD]
  by_cases h : bnum l * 2 ^ (6 - l.length) < lett.length
  · rw [List.getElem?_eq_getElem h]
    have : ∀ x ∈ lett, 0 ≤ x ∧ x < 256 := by decide
    exact this _ (List.getElem_mem h)
  · rw [List.getElem?_eq_none (by omega)]
    decide
theorem arm_byts : ∀ (n : Nat) (l : List Bool), l.length ≤ n → Byts (arm l)
  | n, l, h => by
    by_cases he : l = []
    · subst he
      rw [arm_nil]
      exact fun x hx => by cases hx
    · rw [arm_cons l he]
      have hp := (List.length_pos_iff.2 he)
      intro x hx
      rcases List.mem_cons.1 hx with rfl | hx
      · exact six1_byt _
      · rcases n with _ | n
        · omega
        · exact arm_byts n (l.drop 6) (by rw [List.length_drop]; omega) x hx
theorem vals_bytes {s : ByteArray} {vs : List Nat} (h : (B s).map (fun c => sixV (c.toNat : Int)) = vs.map some) : bytesOf s = vs.map (fun v => lett.getD v 0) ∧ ∀ v ∈ vs, v < 64 := by
  unfold B at h
  unfold bytesOf
  generalize s.data.toList = l at h
  clear s
  induction l generalizing vs with
  | nil =>
    have : vs = [] := List.map_eq_nil_iff.1 (by rw [← h]; rfl)
    subst this
    exact ⟨rfl, fun v hv => by cases hv⟩
  | cons c l ih =>
    rcases vs with _ | ⟨v, vs⟩
    · cases h
    · rw [List.map_cons, List.map_cons] at h
      injection h with h1 h2
      obtain ⟨i1, i2⟩ := ih h2
      refine ⟨?_, fun u hu => ?_⟩
      · rw [List.map_cons, List.map_cons, i1, six_lett _ v h1]
      · rcases List.mem_cons.1 hu with rfl | hu
        · exact (sixV_lt h1).1
        · exact i2 u hu
theorem unR_text {s : ByteArray} {vs : List Nat} (h : (B s).map (fun c => sixV (c.toNat : Int)) = vs.map some) :
    (strOfNums (armor (packI (full8 (rowV vs)))) = s ↔ ¬ ((rowV vs).length % 8 = 6 ∨ bnum (rest8 (rowV vs)) ≠ 0)) := by
  obtain ⟨h1, h2⟩ := vals_bytes h
  rw [armor_pack (full8 (rowV vs)) _ (full8_length _), ← arm_full (rowV vs) vs.length (rowV_length vs), arm_row vs h2, ← h1]
  constructor
  · intro e
    rw [← e, bytesOf_sN (arm_byts _ _ (Nat.le_refl _))]
  · intro e
    rw [e, sN_bytesOf]
theorem RUnarmor_l0 (s : ByteArray) (hs : s.size ≤ 100000) : ∀ (d n : Nat) (vs : List Nat), n + d = s.size → ((B s).take n).map (fun c => sixV (c.toNat : Int)) = vs.map some →
    Ev (fun k => manometerref03_Unarmor.l0 k s (rowV vs) (s.size : Int) (n : Int)) (unL (B s) 0 0 [])
  | d, n, vs, hd, hv => by
    have hvl : vs.length = n := by
      have := congrArg List.length hv
      rw [List.length_map, List.length_map, List.length_take, B_length] at this
      omega
    have hrl := rowV_length vs
    refine Ev.step (f := _) (fun k => by simp only [manometerref03_Unarmor.l0]; rfl) ?_
    rcases d with _ | d
    · simp only [if_neg (show ¬ (n : Int) < (s.size : Int) by omega)]
      have hall : (B s).map (fun c => sixV (c.toNat : Int)) = vs.map some := by
        rwa [List.take_of_length_le (by rw [B_length]; omega)] at hv
      obtain ⟨R, hR⟩ : ∃ R, R = rowV vs := ⟨_, rfl⟩
      have e1 : wrap64 (wrap64 ((R.length : Int) / 8) * 8) = ((8 * (R.length / 8) : Nat) : Int) := by
        rw [hR, wn (x := ((rowV vs).length : Int) / 8) (n := (rowV vs).length / 8) (by omega) (by omega)]
        exact wn (by omega) (by omega)
      have hT : unR (rowV vs) = if strOfNums (armor (packI (full8 (rowV vs)))) = s then (packI (full8 (rowV vs)), 0) else ([], 8) := by
        unfold unR
        by_cases hc : (rowV vs).length % 8 = 6 ∨ bnum (rest8 (rowV vs)) ≠ 0
        · rw [if_pos hc, if_neg (fun e => (unR_text hall).1 e hc)]
        · rw [if_neg hc, if_pos ((unR_text hall).2 hc)]
      rw [unL_vals (B s) vs hall, hT]
      rw [← hR]
      have hbytes : manometerref01_Bytes.f (full8 R) = some (packI (full8 R)) := by
        unfold manometerref01_Bytes.f
        rw [if_pos (by rw [full8_length, hR]; omega)]
      have hpl : (packI (full8 R)).length ≤ 1000000 := by
        unfold packI
        rw [ints_length, pack_length, full8_length, hR]
        omega
      simp only [e1, if_pos (show (0 : Int) ≤ ((8 * (R.length / 8) : Nat) : Int) by omega), if_pos (show ((8 * (R.length / 8) : Nat) : Int) ≤ (R.length : Int) by omega), Int.toNat_natCast]
      refine Ev.bindc (a := packI (full8 R)) hbytes ?_
      refine Ev.bind (RArmor_ev _ (byts_packI _) hpl) ?_
      by_cases he : strOfNums (armor (packI (full8 R))) = s
      · rw [if_pos he]
        simp only [he]
        simp only [if_true]
        exact Ev.now _
      · rw [if_neg he]
        simp only [if_neg (fun e => he (B_inj (by rw [← toList_B, ← toList_B]; exact e)))]
        exact Ev.now _
    · have hlt : n < (bytesOf s).length := by rw [bytesOf_length]; omega
      simp only [if_pos (show (n : Int) < (s.size : Int) by omega), if_pos (show (0 : Int) ≤ (n : Int) by omega)]
      refine Ev.bind (value_ev _) ?_
      have hbn : n < (B s).length := by rw [B_length]; omega
      have hbt : bt s (n : Int) = (((B s)[n]'hbn).toNat : Int) := by
        rw [bt_B, List.getD_eq_getElem?_getD, List.getElem?_eq_getElem hbn]
        rfl
      rw [hbt]
      cases hc : sixV ((((B s)[n]'hbn).toNat : Nat) : Int) with
      | none =>
        simp only [Option.getD_none, if_pos (show (((64 : Nat) : Int)) > 63 by decide)]
        rw [unL_bad (B s) 0 0 [] ⟨_, List.getElem_mem hbn, hc⟩]
        exact Ev.now _
      | some v =>
        have hv64 := (sixV_lt hc).1
        simp only [Option.getD_some, if_neg (show ¬ ((v : Nat) : Int) > 63 by omega)]
        refine Ev.bind (Put_ev (rowV vs) v 6 (by omega) (by decide) (by omega)) ?_
        have e : rowV vs ++ nb v 6 = rowV (vs ++ [v]) := by
          rw [rowV_append, rowV_cons, show rowV [] = [] from rfl, List.append_nil]
        rw [e, w1 n (by omega)]
        exact RUnarmor_l0 s hs d (n + 1) (vs ++ [v]) (by omega) (by rw [List.take_succ_eq_append_getElem hbn, List.map_append, hv, List.map_append, List.map_cons, List.map_nil, hc]; rfl)
theorem RUnarmor_ev (s : ByteArray) (hs : s.size ≤ 100000) : Ev (fun k => manometerref03_Unarmor.f k s) (unL (B s) 0 0 []) := by
  unfold manometerref03_Unarmor.f
  exact RUnarmor_l0 s hs s.size 0 [] (by omega) rfl
end Go.Proofs.YtclndenmmhdokaaDoor.Pu
end
section
namespace Go.Proofs.YtclndenmmhdokaaDoor.PHB
open Go.RowKit Go.Proofs.YtclndenmmhdokaaDoorW.PrintWords Go.Proofs.YtclndenmmhdokaaDoorW.PrintLast Go.Proofs.YtclndenmmhdokaaDoorW.PrintMore
attribute [local go_sem] max2_int min2_int max_two min_two max_three min_three max_four min_four
set_option linter.unusedVariables false
set_option linter.unusedSimpArgs false
end Go.Proofs.YtclndenmmhdokaaDoor.PHB
end
section
namespace Go.Proofs.YtclndenmmhdokaaDoor.Pu
open Go Go.RowKit Go.Proofs.YtclndenmmhdokaaDoor Go.Proofs.YtclndenmmhdokaaDoor.PHB Go.Proofs.YtclndenmmhdokaaDoorW.PrintWords Go.Proofs.YtclndenmmhdokaaDoorW.PrintLast Go.Proofs.YtclndenmmhdokaaDoorW.PrintMore Bq
set_option linter.unusedVariables false
set_option linter.unusedSimpArgs false
theorem Unarmor_f (s : ByteArray) (hs : s.size ≤ 1000000) : hash_Unarmor.f s = some (unL (B s) 0 0 []) := by
  unfold hash_Unarmor.f
  rw [if_pos hs]
  rfl
theorem Armor_f (xs : List Int) (hb : Byts xs) (hl : xs.length ≤ 1000000) : hash_Armor.f xs = some (strOfNums (armor xs)) := by
  unfold hash_Armor.f
  rw [if_pos hl, if_pos (all_byts hb)]
theorem RHex_f (xs : List Int) (hb : Byts xs) (hl : xs.length ≤ 1000000) : manometerref03_Hex.f xs = some (strOfNums (hex xs)) := by
  unfold manometerref03_Hex.f
  rw [if_pos (by omega), if_pos (all_byts hb)]
theorem Equal_f (xs ys : List Int) (h1 : xs.length ≤ 1000000000000) (h2 : ys.length ≤ 1000000000000) : manometerref01_Equal.f xs ys = some (decide (xs = ys)) := by
  unfold manometerref01_Equal.f
  rw [if_pos h1, if_pos h2]
theorem unR_len (R : List Bool) (h : R.length ≤ 1000000) : (unR R).1.length ≤ 1000000 := by
  unfold unR
  split
  · exact Nat.zero_le _
  · unfold packI
    rw [ints_length, pack_length, full8_length]
    omega
theorem unL_len (s : ByteArray) (hs : s.size ≤ 100000) : (unL (B s) 0 0 []).1.length ≤ 1000000 := by
  rcases vals_or (B s) with h | ⟨vs, h⟩
  · rw [unL_bad (B s) 0 0 [] h]
    exact Nat.zero_le _
  · rw [unL_vals (B s) vs h]
    have hl := congrArg List.length h
    rw [List.length_map, List.length_map, B_length] at hl
    exact unR_len _ (by rw [rowV_length]; omega)
theorem pairs_len : ∀ l : List Int, (pairs l).length ≤ l.length
  | [] => Nat.le_refl _
  | [a] => Nat.zero_le _
  | a :: b :: l => by
    have := pairs_len l
    simp only [pairs, List.length_cons]
    omega
theorem unhexP_len (s : ByteArray) (hs : s.size ≤ 1000000) : (unhexP (bytesOf s)).1.length ≤ 1000000 := by
  unfold unhexP
  split
  · exact Nat.zero_le _
  · have := pairs_len (bytesOf s)
    rw [bytesOf_length] at this
    exact Nat.le_trans this hs
theorem Letters_j0 (x : List Int) (hb : Byts x) (s : ByteArray) (hx : x.length ≤ 2000) (hs : s.size ≤ 2000) : Ev (fun k => manometerlaw03_HashLetters.j0 k x s false) true := by
  refine Ev.step (f := _) (fun k => by simp only [manometerlaw03_HashLetters.j0]; rfl) ?_
  simp only [Bool.false_eq_true, if_false]
  refine Ev.bindc (Unarmor_f s (by omega)) ?_
  refine Ev.bind (RUnarmor_ev s (by omega)) ?_
  refine Ev.bind (Unhex_ev s (by omega)) ?_
  refine Ev.bind (RUnhex_ev s (by omega)) ?_
  refine Ev.bindc (Armor_f x hb (by omega)) ?_
  refine Ev.bind (RArmor_ev x hb (by omega)) ?_
  simp only [if_true]
  refine Ev.bind (Hex_ev x hb (by omega)) ?_
  refine Ev.bindc (RHex_f x hb (by omega)) ?_
  simp only [if_true]
  have l1 := unL_len s (by omega)
  have l2 := unhexP_len s (by omega)
  refine Ev.bindc (Equal_f _ _ (by omega) (by omega)) ?_
  simp only [decide_true, if_true]
  refine Ev.bindc (Equal_f _ _ (by omega) (by omega)) ?_
  simp only [decide_true, if_true, beq_self_eq_true]
  exact Ev.now _
theorem Letters_live (x : List Int) (s : ByteArray) : Ev (fun k => manometerlaw03_HashLetters.j0 k x s true) true := by
  refine Ev.step (f := _) (fun k => by simp only [manometerlaw03_HashLetters.j0]; rfl) ?_
  simp only [if_true]
  exact Ev.bindc (f := fun _ t => some t) (show manometerlaw03_live.f = some true from rfl) (Ev.now _)
theorem hashLetters (x : List Int) (s : ByteArray) (hb : Byts x) : ∃ k, manometerlaw03_HashLetters.f k x s = some true := by
  refine Ev.rounds (g := fun k => manometerlaw03_HashLetters.f k x s) ?_
  unfold manometerlaw03_HashLetters.f
  refine Ev.bindc (show manometerlaw03_live.f = some true from rfl) ?_
  simp only [if_true]
  obtain ⟨r, hr, hp⟩ := short_ev [x] (by simp)
  refine Ev.bind hr ?_
  cases r with
  | false =>
    simp only [Bool.false_eq_true, if_false]
    exact Letters_live x s
  | true =>
    simp only [if_true]
    have hx := hp rfl x (by simp)
    by_cases h : (s.size : Int) > 2000
    · rw [decide_eq_true h]
      exact Letters_live x s
    · rw [decide_eq_false h]
      exact Letters_j0 x hb s hx (by omega)
end Go.Proofs.YtclndenmmhdokaaDoor.Pu
end
section
namespace Go.Proofs.YtclndenmmhdokaaDoor
open Go.RowKit
set_option linter.unusedVariables false
theorem table_reads {P : Program} {w : World} {name : String} {g n : Nat} {t e : TypeId} {k : IntKind} {zs : List Int} (h : Lib.VarReads P w name (.agg (zs.map fun z => .lit (.int k z)))) (hg : P.globalNamed name = some g) (ht : (P.globals[g]?).map (·.type) = some t)
    (ha : P.underlying t = some (.array n e)) (he : P.underlying e = some (.int k)) (hc : P.cellsOf e = 1) : ∀ i, i < n → w.cell? ⟨g, i, none⟩ = some (.int k (zs.getD i 0)) := by
  obtain ⟨g', t', cs, fuel, p, h1, h2, h3, h4⟩ := h
  obtain rfl := Option.some.inj (hg.symm.trans h1)
  obtain rfl := Option.some.inj (ht.symm.trans h2)
  intro i hi
  obtain ⟨f2, d, q, hd, htr⟩ := Lib.array_elem ha h4 i hi
  obtain ⟨z, hz, hx, _⟩ := DataW.trod_int he htr
  rw [List.getElem?_map] at hd
  obtain ⟨z', hz', hzd⟩ := Option.map_eq_some_iff.1 hd
  have hzz : z' = z := by
    have h5 : d = .lit (.int k z) := congrArg Prod.fst hx
    rw [h5] at hzd
    injection hzd with h6
    injection h6
  subst hzz
  rw [hc, Nat.mul_one] at hz
  have h7 : cs.toList[i]? = some (.int k z') := by
    have := congrArg (·[0]?) hz
    simpa [List.getElem?_take, List.getElem?_drop] using this
  have h8 := World.var?_cell h1 h3 i
  rw [h8, List.getD_eq_getElem?_getD, hz']
  simpa using h7
theorem laid_plain {P : Program} {w : World} {l : List (String × DataW Unit)} (h : laidMetH P l w) (hf : (l.filter fun x => x.2.handleName?.isSome).isEmpty = true) : laidMet P l w := by
  unfold laidMetH at h
  split at h
  · exact h
  · rename_i h2
    rw [h2] at hf
    cases hf
end Go.Proofs.YtclndenmmhdokaaDoor
end
section
namespace Go.Proofs.YtclndenmmhdokaaDoor
open Go Go.RowKit Go.Shelf
set_option linter.unusedVariables false
theorem tab_of {w : World} (h : laidMetH Tryd.prog [("manometer/hash.rounds", Rows.laid_manometer_hash_rounds)] w) : Tab w := by
  intro j hj
  have hr := Lib.laidMet.reads (laid_plain h (by kernel_rfl)) (List.Mem.head _)
  exact table_reads (zs := Sha.K) (show Lib.VarReads _ w _ (.agg (Sha.K.map fun z => .lit (.int .u32 z))) from hr) (g := 0) (by kernel_rfl) (by kernel_rfl) Tryd.underlying77 Tryd.underlying43 (by kernel_rfl) j hj
end Go.Proofs.YtclndenmmhdokaaDoor
end
