import Derived.Test.YtdckhaejhfkkbaaDoorCRecordPutsPRTx0
import Derived.Test.YtdckhaejhfkkbaaDoorCRecordPutsPRTx21
import Derived.Test.YtdckhaejhfkkbaaDoorCRecordPutsPRTx6
import Derived.Test.YtdckhaejhfkkbaaDoorCRecordPutsPRTx9
import Derived.Test.YtdckhaejhfkkbaaDoorCRecordPutsPRTx14
import Derived.Test.YtdckhaejhfkkbaaDoorCRecordPutsG0
import Derived.Test.YtdckhaejhfkkbaaDoorCRecordPutsPRTx16
import Derived.Test.YtdckhaejhfkkbaaDoorCRecordPutsRL
namespace Go.Proofs.YtdckhaejhfkkbaaDoor.Bq
end Go.Proofs.YtdckhaejhfkkbaaDoor.Bq
section
namespace Go.Proofs.YtdckhaejhfkkbaaDoor.PRT
open Go.RowKit Go.Proofs.YtdckhaejhfkkbaaDoorW.PrintWords Go.Proofs.YtdckhaejhfkkbaaDoorW.PrintLast Go.Proofs.YtdckhaejhfkkbaaDoorW.PrintMore
attribute [local go_sem] max2_int min2_int max_two min_two max_three min_three max_four min_four
set_option linter.unusedVariables false
set_option linter.unusedSimpArgs false
attribute [local go_sem high] eqA45
end Go.Proofs.YtdckhaejhfkkbaaDoor.PRT
end
section
namespace Go.Proofs.YtdckhaejhfkkbaaDoor.PRT
open Go.RowKit Go.Proofs.YtdckhaejhfkkbaaDoorW.PrintWords Go.Proofs.YtdckhaejhfkkbaaDoorW.PrintLast Go.Proofs.YtdckhaejhfkkbaaDoorW.PrintMore
attribute [local go_sem] max2_int min2_int max_two min_two max_three min_three max_four min_four
set_option linter.unusedVariables false
set_option linter.unusedSimpArgs false
end Go.Proofs.YtdckhaejhfkkbaaDoor.PRT
end
section
namespace Go.Proofs.YtdckhaejhfkkbaaDoor.Pu
open Go Go.RowKit Go.Proofs.YtdckhaejhfkkbaaDoor Go.Proofs.YtdckhaejhfkkbaaDoor.PRT Go.Proofs.YtdckhaejhfkkbaaDoorW.PrintWords Go.Proofs.YtdckhaejhfkkbaaDoorW.PrintLast Go.Proofs.YtdckhaejhfkkbaaDoorW.PrintMore
set_option linter.unusedVariables false
set_option linter.unusedSimpArgs false
abbrev Ent := S45
theorem rdE (l : List Ent) (n : Nat) : rd_T45 l (n : Int) = l.getD n z45 := by unfold rd_T45; rw [Int.toNat_natCast]
theorem dropE (l : List Ent) (n : Nat) (h : n < l.length) : l.drop n = l.getD n z45 :: l.drop (n + 1) := by
  rw [List.drop_eq_getElem_cons h, List.getD_eq_getElem?_getD, List.getElem?_eq_getElem h]
  rfl
theorem if_pos_fun {α : Type} {c : Prop} [Decidable c] {f g : Nat → Option α} (h : c) : (fun k => if c then f k else g k) = f := by funext k; rw [if_pos h]
theorem few_l0 (a0 a1 : Int) (l2 Y : List Lab) (l : List Ent) (hY : Y.length ≤ 1000) : ∀ (d n : Nat), n + d = Y.length → ∃ r, Ev (fun k => manometerlaw13_few.l0 k Y (Y.length : Int) (n : Int) a0 a1 l2 l) r ∧ (r = true → (l2.length ≤ 40 ∧ l.length ≤ 400) ∧ ∀ j, n ≤ j → j < Y.length → (Y.getD j z52).f0.size ≤ 300 ∧ (Y.getD j z52).f1.size ≤ 300)
  | d, n, hd => by
    by_cases hlt : n < Y.length
    · obtain ⟨d, rfl⟩ : ∃ e, d = e + 1 := ⟨d - 1, by omega⟩
      have e1 : (n : Int) < (Y.length : Int) := by omega
      have e2 : (0 : Int) ≤ (n : Int) := by omega
      by_cases h0 : (Y.getD n z52).f0.size ≤ 300
      · by_cases h1 : (Y.getD n z52).f1.size ≤ 300
        · obtain ⟨r, hr, hp⟩ := few_l0 a0 a1 l2 Y l hY d (n + 1) (by omega)
          refine ⟨r, Ev.step (f := _) (fun k => by simp only [manometerlaw13_few.l0]; rfl) ?_, fun hh => ⟨(hp hh).1, fun j hj hjl => ?_⟩⟩
          · simp only [if_pos e1, if_pos e2, rdn, if_neg (show ¬ ((Y.getD n z52).f0.size : Int) > 300 by omega), if_neg (show ¬ ((Y.getD n z52).f1.size : Int) > 300 by omega), w1 n (by omega)]
            exact hr
          · by_cases hjn : j = n
            · subst hjn
              exact ⟨h0, h1⟩
            · exact (hp hh).2 j (by omega) hjl
        · refine ⟨false, Ev.step (f := _) (fun k => by simp only [manometerlaw13_few.l0]; rfl) ?_, (fun h => by cases h)⟩
          simp only [if_pos e1, if_pos e2, rdn, if_neg (show ¬ ((Y.getD n z52).f0.size : Int) > 300 by omega), if_pos (show ((Y.getD n z52).f1.size : Int) > 300 by omega)]
          exact Ev.now _
      · refine ⟨false, Ev.step (f := _) (fun k => by simp only [manometerlaw13_few.l0]; rfl) ?_, (fun h => by cases h)⟩
        simp only [if_pos e1, if_pos e2, rdn, if_pos (show ((Y.getD n z52).f0.size : Int) > 300 by omega)]
        exact Ev.now _
    · by_cases h40 : l2.length ≤ 40
      · refine ⟨decide ((l.length : Int) ≤ 400), Ev.step (f := _) (fun k => by simp only [manometerlaw13_few.l0]; rfl) ?_, fun hh => ⟨⟨h40, by have := of_decide_eq_true hh; omega⟩, fun j hj hjl => by omega⟩⟩
        simp only [if_neg (show ¬ (n : Int) < (Y.length : Int) by omega), if_pos (show (l2.length : Int) ≤ 40 by omega)]
        exact Ev.now _
      · refine ⟨false, Ev.step (f := _) (fun k => by simp only [manometerlaw13_few.l0]; rfl) ?_, (fun h => by cases h)⟩
        simp only [if_neg (show ¬ (n : Int) < (Y.length : Int) by omega), if_neg (show ¬ (l2.length : Int) ≤ 40 by omega)]
        exact Ev.now _
theorem few_ev (a0 a1 : Int) (l2 : List Lab) (l : List Ent) : ∃ r, Ev (fun k => manometerlaw13_few.f k a0 a1 l2 l) r ∧ (r = true → (l2.length ≤ 40 ∧ l.length ≤ 400) ∧ ∀ x ∈ l2, x.f0.size ≤ 300 ∧ x.f1.size ≤ 300) := by
  have hm : mn (l2.length : Int) 40 = ((min l2.length 40 : Nat) : Int) := by unfold mn; omega
  obtain ⟨r, hr, hp⟩ := few_l0 a0 a1 l2 (l2.take (min l2.length 40)) l (by rw [List.length_take]; omega) (l2.take (min l2.length 40)).length 0 (by omega)
  refine ⟨r, ?_, fun hh => ⟨(hp hh).1, fun x hx => ?_⟩⟩
  · unfold manometerlaw13_few.f
    rw [hm]
    simp only [if_pos (show (0 : Int) ≤ ((min l2.length 40 : Nat) : Int) by omega), if_pos (show ((min l2.length 40 : Nat) : Int) ≤ (l2.length : Int) by omega), Option.bind_some, Int.toNat_natCast]
    exact hr
  · obtain ⟨⟨h40, _⟩, h2⟩ := hp hh
    rw [List.take_of_length_le (by omega)] at h2
    obtain ⟨j, hjl, rfl⟩ := List.mem_iff_getElem.1 hx
    have := h2 j (Nat.zero_le _) hjl
    rwa [List.getD_eq_getElem?_getD, List.getElem?_eq_getElem hjl] at this
theorem live_60 : manometerlaw13_live.f 60 = some true := by kernel_rfl
theorem live_ev : Ev (fun k => manometerlaw13_live.f k) true := Ev.of manometerlaw13_live.mono live_60
end Go.Proofs.YtdckhaejhfkkbaaDoor.Pu
end
section
namespace Go.Proofs.YtdckhaejhfkkbaaDoor
open Bq
set_option linter.unusedVariables false
theorem nb_get (n w i : Nat) (h : i < w) : (nb n w)[i]? = some (n.testBit (w - 1 - i)) := by
  unfold nb
  rw [List.getElem?_map, List.getElem?_range h]
  rfl
theorem bnum_testBit (l : List Bool) (i : Nat) (h : i < l.length) : (bnum l).testBit (l.length - 1 - i) = l.getD i false := by
  have h1 := nb_get (bnum l) l.length i h
  rw [nb_bnum] at h1
  rw [List.getD_eq_getElem?_getD, h1]
  rfl
theorem byte8_testBit (l : List Bool) (h8 : l.length ≤ 8) (i : Nat) (h : i < 8) : (byte8 l).testBit (7 - i) = l.getD i false := by
  unfold byte8
  rw [Nat.testBit_mul_two_pow]
  by_cases hi : i < l.length
  · rw [← bnum_testBit l i hi, decide_eq_true (by omega), Bool.true_and]
    congr 1
    omega
  · rw [decide_eq_false (by omega), Bool.false_and, List.getD_eq_getElem?_getD, List.getElem?_eq_none (by omega)]
    rfl
theorem getD_drop8 (l : List Bool) (i : Nat) (h : 8 ≤ i) : (l.drop 8).getD (i - 8) false = l.getD i false := by
  rw [List.getD_eq_getElem?_getD, List.getD_eq_getElem?_getD, List.getElem?_drop]
  congr 2
  omega
theorem bitAt_pack : ∀ (m : Nat) (l : List Bool) (i : Nat), l.length ≤ m → i < 8 * ((l.length + 7) / 8) → bitAt (packI l) i = l.getD i false := by
  intro m
  induction m with
  | zero =>
    intro l i hm hi
    have : l.length = 0 := by omega
    omega
  | succ m ih =>
    intro l i hm hi
    have hl : l ≠ [] := by
      intro h
      subst h
      simp at hi
    have hpos : 0 < l.length := List.length_pos_iff.2 hl
    unfold packI
    rw [pack_cons l hl]
    by_cases h8 : i < 8
    · unfold bitAt
      have e1 : i / 8 = 0 := by omega
      have e2 : i % 8 = i := by omega
      rw [e1, e2]
      show ((byte8 (l.take 8) : Nat) : Int).toNat.testBit (7 - i) = _
      rw [Int.toNat_natCast, byte8_testBit _ (by rw [List.length_take]; omega) i h8]
      rw [List.getD_eq_getElem?_getD, List.getD_eq_getElem?_getD, List.getElem?_take]
      simp [h8]
    · have h1 := ih (l.drop 8) (i - 8) (by rw [List.length_drop]; omega) (by rw [List.length_drop]; omega)
      rw [getD_drop8 l i (by omega)] at h1
      rw [← h1]
      unfold bitAt
      have e1 : i / 8 = (i - 8) / 8 + 1 := by omega
      have e2 : (i - 8) % 8 = i % 8 := by omega
      rw [e1, e2]
      rfl
theorem byte_ext {x y : Int} (hx0 : 0 ≤ x) (hx : x < 256) (hy0 : 0 ≤ y) (hy : y < 256) (h : ∀ i, i < 8 → x.toNat.testBit (7 - i) = y.toNat.testBit (7 - i)) : x = y := by
  have e : x.toNat = y.toNat := by
    apply Nat.eq_of_testBit_eq
    intro j
    by_cases hj : j < 8
    · have := h (7 - j) (by omega)
      have e : 7 - (7 - j) = j := by omega
      rw [e] at this
      exact this
    · have hp : (256 : Nat) ≤ 2 ^ j := by
        have : (2 : Nat) ^ 8 ≤ 2 ^ j := Nat.pow_le_pow_right (by decide) (by omega)
        exact this
      rw [Nat.testBit_lt_two_pow (by omega), Nat.testBit_lt_two_pow (by omega)]
  omega
theorem bits_ext (xs ys : List Int) (hl : xs.length = ys.length) (hx : Byts xs) (hy : Byts ys) (h : ∀ i, i < 8 * xs.length → bitAt xs i = bitAt ys i) : xs = ys := by
  apply List.ext_getElem hl
  intro j h1 h2
  have hxj := hx _ (List.getElem_mem h1)
  have hyj := hy _ (List.getElem_mem h2)
  apply byte_ext hxj.1 hxj.2 hyj.1 hyj.2
  intro i hi
  have h3 := h (8 * j + i) (by omega)
  unfold bitAt at h3
  have e1 : (8 * j + i) / 8 = j := by omega
  have e2 : (8 * j + i) % 8 = i := by omega
  rw [e1, e2, List.getD_eq_getElem?_getD, List.getD_eq_getElem?_getD, List.getElem?_eq_getElem h1, List.getElem?_eq_getElem h2] at h3
  exact h3
theorem byts_packI (l : List Bool) : Byts (packI l) := by
  intro x hx
  obtain ⟨y, hy, rfl⟩ := List.mem_map.1 hx
  have := pack_lt l y hy
  omega
theorem bitAt_set (xs : List Int) (i j : Nat) (hx : Byts xs) (hi : i < 8 * xs.length) :
    bitAt (xs.set (i / 8) ((((xs.getD (i / 8) 0).toNat ||| 2 ^ (7 - i % 8)) : Nat) : Int)) j = (bitAt xs j || decide (j = i)) := by
  have hq : i / 8 < xs.length := by omega
  unfold bitAt
  by_cases hj : j / 8 = i / 8
  · rw [hj, List.getD_eq_getElem?_getD (l := xs.set _ _), List.getElem?_set_self hq]
    show ((((xs.getD (i / 8) 0).toNat ||| 2 ^ (7 - i % 8) : Nat) : Int)).toNat.testBit (7 - j % 8) = _
    rw [Int.toNat_natCast, Nat.testBit_or, Nat.testBit_two_pow]
    congr 1
    have : (7 - i % 8 = 7 - j % 8) = (j = i) := by
      apply propext
      constructor
      · intro h; omega
      · intro h; subst h; rfl
    simp only [this]
  · rw [List.getD_eq_getElem?_getD (l := xs.set _ _), List.getElem?_set_ne (fun h => hj h.symm), decide_eq_false (fun h => hj (by rw [h])), Bool.or_false, List.getD_eq_getElem?_getD]
end Go.Proofs.YtdckhaejhfkkbaaDoor
end
