import Derived.Test.YtdhmabofncbohaaDoorCLabelsToldPLBx13
import Derived.Test.YtdhmabofncbohaaDoorCLabelsToldPLBx5
import Derived.Test.YtdhmabofncbohaaDoorCLabelsToldPLBx6
import Derived.Test.YtdhmabofncbohaaDoorCLabelsToldPLBx14
import Derived.Test.YtdhmabofncbohaaDoorCLabelsToldL1
import Derived.Test.YtdhmabofncbohaaDoorCLabelsToldPLBx3
import Derived.Test.YtdhmabofncbohaaDoorCLabelsToldPLBx8
section
namespace Go.Proofs.YtdhmabofncbohaaDoor.Pu
open Go Go.RowKit Go.Proofs.YtdhmabofncbohaaDoor Go.Proofs.YtdhmabofncbohaaDoor.PLB Go.Proofs.YtdhmabofncbohaaDoorW.PrintWords Go.Proofs.YtdhmabofncbohaaDoorW.PrintLast Go.Proofs.YtdhmabofncbohaaDoorW.PrintMore
set_option linter.unusedVariables false
set_option linter.unusedSimpArgs false
abbrev Lab := S44
theorem rdn (l : List Lab) (n : Nat) : rd_T44 l (n : Int) = l.getD n z44 := by unfold rd_T44; rw [Int.toNat_natCast]
theorem dropS (l : List Lab) (n : Nat) (h : n < l.length) : l.drop n = l.getD n z44 :: l.drop (n + 1) := by
  rw [List.drop_eq_getElem_cons h, List.getD_eq_getElem?_getD, List.getElem?_eq_getElem h]
  rfl
def fewB (l : List Lab) : Bool := decide (l.length ≤ 60) && l.all (fun x => decide (x.f0.size ≤ 400) && decide (x.f1.size ≤ 400))
theorem few_l0 (l : List Lab) (hl : l.length ≤ 60) : ∀ (d n k : Nat), n + d = l.length → d < k → manometerlaw05_few.l0 k l (l.length : Int) (n : Int) = some ((l.drop n).all (fun x => decide (x.f0.size ≤ 400) && decide (x.f1.size ≤ 400)))
  | d, n, k, hd, hk => by
    obtain ⟨k, rfl⟩ := succ_of hk
    by_cases hlt : n < l.length
    · obtain ⟨d, rfl⟩ : ∃ e, d = e + 1 := ⟨d - 1, by omega⟩
      have ih := few_l0 l hl d (n + 1) k (by omega) (by omega)
      rw [dropS l n hlt, List.all_cons]
      simp only [manometerlaw05_few.l0]
      rw [if_pos (by omega), if_pos (by omega), if_pos (by omega), rdn, w1 n (by omega), ih]
      generalize l.getD n z44 = x
      by_cases h1 : x.f0.size ≤ 400
      · rw [if_neg (by omega), decide_eq_true h1, Bool.true_and]
        by_cases h2 : x.f1.size ≤ 400
        · rw [if_neg (by omega), decide_eq_true h2, Bool.true_and]
        · rw [if_pos (by omega), decide_eq_false h2]; rfl
      · rw [if_pos (by omega), decide_eq_false h1]; rfl
    · rw [List.drop_of_length_le (by omega)]
      simp only [manometerlaw05_few.l0]
      rw [if_neg (by omega)]
      rfl
theorem few_ev (l : List Lab) : Ev (fun k => manometerlaw05_few.f k l) (fewB l) := by
  unfold manometerlaw05_few.f fewB
  by_cases h : l.length ≤ 60
  · simp only [if_neg (show ¬ (l.length : Int) > 60 by omega), decide_eq_true h, Bool.true_and]
    exact Ev.at l.length (fun k hk => few_l0 l h l.length 0 k (by omega) hk)
  · simp only [if_pos (show (l.length : Int) > 60 by omega), decide_eq_false h, Bool.false_and]
    exact Ev.now _
theorem few_of {l : List Lab} (h : fewB l = true) : l.length ≤ 60 ∧ ∀ x ∈ l, x.f0.size ≤ 400 ∧ x.f1.size ≤ 400 := by
  unfold fewB at h
  simp only [Bool.and_eq_true, decide_eq_true_eq, List.all_eq_true] at h
  exact h
def pr (x : Lab) : Str × Str := (B x.f0, B x.f1)
theorem pr_inj {x y : Lab} (h : pr x = pr y) : x = y := by
  obtain ⟨a, b⟩ := x
  obtain ⟨c, d⟩ := y
  have h1 : a = c := B_inj (congrArg Prod.fst h)
  have h2 : b = d := B_inj (congrArg Prod.snd h)
  rw [h1, h2]
theorem prs_inj {a b : List Lab} (h : a.map pr = b.map pr) : a = b := by
  induction a generalizing b with
  | nil => cases b with
    | nil => rfl
    | cons _ _ => cases h
  | cons x a ih => cases b with
    | nil => cases h
    | cons y b =>
      injection h with h1 h2
      rw [pr_inj h1, ih h2]
def sameB (a b : List Lab) : Bool := decide (a.map pr = b.map pr)
theorem sameB_refl (a : List Lab) : sameB a a = true := decide_eq_true rfl
theorem ne_test (x y : Lab) : ((!(x.f0.toList == y.f0.toList) || (!(x.f1.toList == y.f1.toList))) = true) ↔ ¬ pr x = pr y := by
  rw [toList_B, toList_B, toList_B, toList_B]
  unfold pr
  rw [Prod.mk.injEq]
  simp only [Bool.or_eq_true, Bool.not_eq_true', beq_eq_false_iff_ne, ne_eq]
  exact Decidable.not_and_iff_or_not.symm
theorem Same_l0 (a b : List Lab) (hs : a.length ≤ 1000000000000) (hab : a.length = b.length) : ∀ (d n k : Nat), n + d = a.length → d < k →
    labels_Same.l0 k a b (a.length : Int) (n : Int) = some (decide ((a.drop n).map pr = (b.drop n).map pr)) ∧ manometerref05_Same.l0 k a b (a.length : Int) (n : Int) = some (decide ((a.drop n).map pr = (b.drop n).map pr))
  | d, n, k, hd, hk => by
    obtain ⟨k, rfl⟩ := succ_of hk
    by_cases hlt : n < a.length
    · obtain ⟨d, rfl⟩ : ∃ e, d = e + 1 := ⟨d - 1, by omega⟩
      obtain ⟨ih1, ih2⟩ := Same_l0 a b hs hab d (n + 1) k (by omega) (by omega)
      rw [dropS a n hlt, dropS b n (by omega), List.map_cons, List.map_cons]
      simp only [labels_Same.l0, manometerref05_Same.l0]
      rw [if_pos (by omega), if_pos (by omega), if_pos (by omega), if_pos (by omega), rdn, rdn, w1 n (by omega), ih1, ih2]
      rw [if_pos (show (n : Int) < (a.length : Int) by omega), if_pos (show (0 : Int) ≤ (n : Int) by omega), if_pos (show (n : Int) < (a.length : Int) by omega), if_pos (show (n : Int) < (b.length : Int) by omega)]
      generalize a.getD n z44 = x
      generalize b.getD n z44 = y
      by_cases h : pr x = pr y
      · have h1 := fun z => ((ne_test x y).1 z) h
        rw [if_neg h1, h]
        simp
      · rw [if_pos ((ne_test x y).2 h)]
        simp [h]
    · rw [List.drop_of_length_le (by omega), List.drop_of_length_le (by omega)]
      simp only [labels_Same.l0, manometerref05_Same.l0]
      rw [if_neg (by omega), if_neg (by omega)]
      exact ⟨rfl, rfl⟩
theorem Same_ev (a b : List Lab) (hs : a.length ≤ 1000000000000) : Ev (fun k => labels_Same.f k a b) (sameB a b) ∧ Ev (fun k => manometerref05_Same.f k a b) (sameB a b) := by
  unfold labels_Same.f manometerref05_Same.f
  by_cases h : a.length = b.length
  · simp only [if_pos (show (a.length : Int) = (b.length : Int) by omega)]
    exact ⟨Ev.at a.length (fun k hk => (Same_l0 a b hs h a.length 0 k (by omega) hk).1), Ev.at a.length (fun k hk => (Same_l0 a b hs h a.length 0 k (by omega) hk).2)⟩
  · have hf : sameB a b = false := decide_eq_false (fun he => h (by rw [prs_inj he]))
    simp only [if_neg (show ¬ (a.length : Int) = (b.length : Int) by omega), hf]
    exact ⟨Ev.now _, Ev.now _⟩
theorem less_irrefl : ∀ x : Str, Op.bytesLess x x = false
  | [] => rfl
  | a :: x => by
    simp only [Op.bytesLess, less_irrefl x]
    have h : ¬ a < a := by rw [UInt8.lt_iff_toNat_lt]; omega
    simp [h]
theorem less_trans : ∀ {x y z : Str}, Op.bytesLess x y = true → Op.bytesLess y z = true → Op.bytesLess x z = true
  | _, [], _, h, _ => by cases h' : (‹Str›) <;> simp [Op.bytesLess] at h
  | x, b :: y, [], _, h => by simp [Op.bytesLess] at h
  | [], b :: y, c :: z, _, _ => rfl
  | a :: x, b :: y, c :: z, h1, h2 => by
    simp only [Op.bytesLess, Bool.or_eq_true, decide_eq_true_eq, Bool.and_eq_true, beq_iff_eq] at h1 h2 ⊢
    rcases h1 with h1 | ⟨rfl, h1⟩
    · rcases h2 with h2 | ⟨rfl, h2⟩
      · left
        rw [UInt8.lt_iff_toNat_lt] at h1 h2 ⊢
        omega
      · exact .inl h1
    · rcases h2 with h2 | ⟨rfl, h2⟩
      · exact .inl h2
      · exact .inr ⟨rfl, less_trans h1 h2⟩
theorem less_asymm {x y : Str} (h : Op.bytesLess x y = true) : Op.bytesLess y x = false := by
  rw [less_gt x y, h]
  rfl
theorem less_total {x y : Str} (h1 : Op.bytesLess x y = false) (h2 : Op.bytesLess y x = false) : x = y := by
  rw [less_gt x y, h1] at h2
  simpa using h2
end Go.Proofs.YtdhmabofncbohaaDoor.Pu
end
section
namespace Go.Proofs.YtdhmabofncbohaaDoor.PLB
open Go.RowKit Go.Proofs.YtdhmabofncbohaaDoorW.PrintWords Go.Proofs.YtdhmabofncbohaaDoorW.PrintLast Go.Proofs.YtdhmabofncbohaaDoorW.PrintMore
attribute [local go_sem] max2_int min2_int max_two min_two max_three min_three max_four min_four
set_option linter.unusedVariables false
set_option linter.unusedSimpArgs false
mutual
def manometerref05_Right.l0 : Nat → List (S44) → List (S44) → Int → Int → Option (Int)
 | 0, _, _, _, _ => none
 | k + 1, x0, x8, x9, x10 => if x10 < x9 then (if 0 ≤ x10 then (if x10 < (x8.length : Int) then ((manometerref05_Named.f k ((rd_T44 x8 x10).f0)).bind fun t397 => (if t397 = true then ((manometerref05_Valued.f k ((rd_T44 x8 x10).f1)).bind fun t398 => (if t398 = true then (manometerref05_Right.j1 k x0 x10 x8 x9 x10 (((rd_T44 x8 x10).f1).toList == ([] : List UInt8)) ((rd_T44 x8 x10).f0) ((rd_T44 x8 x10).f1)) else (manometerref05_Right.j1 k x0 x10 x8 x9 x10 true ((rd_T44 x8 x10).f0) ((rd_T44 x8 x10).f1)))) else (some 50))) else (none)) else (none)) else (some 0)
def manometerref05_Right.j1 : Nat → List (S44) → Int → List (S44) → Int → Int → Bool → ByteArray → ByteArray → Option (Int)
 | 0, _, _, _, _, _, _, _, _ => none
 | k + 1, x0, x3, x8, x9, x10, x20, x397000, x397001 => if x20 = true then (some 51) else (if x3 > 0 then (if 0 ≤ (wrap64 (x3 - 1)) then (if (wrap64 (x3 - 1)) < (x0.length : Int) then (if (Op.bytesLess x397000.toList (((rd_T44 x0 (wrap64 (x3 - 1))).f0).toList)) = true then (some 53) else (if x397000.toList = ((rd_T44 x0 (wrap64 (x3 - 1))).f0).toList then (some 53) else (manometerref05_Right.l0 k x0 x8 x9 (wrap64 (x10 + 1))))) else (none)) else (none)) else (manometerref05_Right.l0 k x0 x8 x9 (wrap64 (x10 + 1))))
end
def manometerref05_Right.f (k : Nat) (l0 : List (S44)) : Option (Int) := if (l0.length : Int) > 16 then (some 3) else (manometerref05_Right.l0 k l0 l0 (l0.length : Int) 0)
end Go.Proofs.YtdhmabofncbohaaDoor.PLB
end
