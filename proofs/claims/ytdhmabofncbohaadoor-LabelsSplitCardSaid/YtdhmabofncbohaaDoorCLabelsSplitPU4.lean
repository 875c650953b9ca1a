import Derived.Test.YtdhmabofncbohaaDoorCLabelsSplitPU2
import Derived.Test.YtdhmabofncbohaaDoorCLabelsSplitPLBx10
import Derived.Test.YtdhmabofncbohaaDoorCLabelsSplitPLBx13
import Derived.Test.YtdhmabofncbohaaDoorCLabelsSplitPLBx5
import Derived.Test.YtdhmabofncbohaaDoorCLabelsSplitPLBx6
import Derived.Test.YtdhmabofncbohaaDoorCLabelsSplitPLBx14
namespace Go.Proofs.YtdhmabofncbohaaDoor.Pu
open Go Go.RowKit Go.Proofs.YtdhmabofncbohaaDoor Go.Proofs.YtdhmabofncbohaaDoor.PLB Go.Proofs.YtdhmabofncbohaaDoorW.PrintWords Go.Proofs.YtdhmabofncbohaaDoorW.PrintLast Go.Proofs.YtdhmabofncbohaaDoorW.PrintMore
set_option linter.unusedVariables false
set_option linter.unusedSimpArgs false
abbrev Lab := S44
theorem rdn (l : List Lab) (n : Nat) : rd_T44 l (n : Int) = l.getD n z44 := by unfold rd_T44; rw [Int.toNat_natCast]
theorem dropS (l : List Lab) (n : Nat) (h : n < l.length) : l.drop n = l.getD n z44 :: l.drop (n + 1) := by
  rw [List.drop_eq_getElem_cons h, List.getD_eq_getElem?_getD, List.getElem?_eq_getElem h]
  rfl
def fewB (l : List Lab) : Bool := decide (l.length ≤ 60) && l.all (fun x => decide (x.f0.size ≤ 400) && decide (x.f1.size ≤ 400))
theorem few_l0 (l : List Lab) (hl : l.length ≤ 60) : ∀ (d n k : Nat), n + d = l.length → d < k → manometerlaw05_few.l0 k l (l.length : Int) (n : Int) = some ((l.drop n).all (fun x => decide (x.f0.size ≤ 400) && decide (x.f1.size ≤ 400)))
  | d, n, k, hd, hk => by
    obtain ⟨k, rfl⟩ := succ_of hk
    by_cases hlt : n < l.length
    · obtain ⟨d, rfl⟩ : ∃ e, d = e + 1 := ⟨d - 1, by omega⟩
      have ih := few_l0 l hl d (n + 1) k (by omega) (by omega)
      rw [dropS l n hlt, List.all_cons]
      simp only [manometerlaw05_few.l0]
      rw [if_pos (by omega), if_pos (by omega), if_pos (by omega), rdn, w1 n (by omega), ih]
      generalize l.getD n z44 = x
      by_cases h1 : x.f0.size ≤ 400
      · rw [if_neg (by omega), decide_eq_true h1, Bool.true_and]
        by_cases h2 : x.f1.size ≤ 400
        · rw [if_neg (by omega), decide_eq_true h2, Bool.true_and]
        · rw [if_pos (by omega), decide_eq_false h2]; rfl
      · rw [if_pos (by omega), decide_eq_false h1]; rfl
    · rw [List.drop_of_length_le (by omega)]
      simp only [manometerlaw05_few.l0]
      rw [if_neg (by omega)]
      rfl
theorem few_ev (l : List Lab) : Ev (fun k => manometerlaw05_few.f k l) (fewB l) := by
  unfold manometerlaw05_few.f fewB
  by_cases h : l.length ≤ 60
  · simp only [if_neg (show ¬ (l.length : Int) > 60 by omega), decide_eq_true h, Bool.true_and]
    exact Ev.at l.length (fun k hk => few_l0 l h l.length 0 k (by omega) hk)
  · simp only [if_pos (show (l.length : Int) > 60 by omega), decide_eq_false h, Bool.false_and]
    exact Ev.now _
theorem few_of {l : List Lab} (h : fewB l = true) : l.length ≤ 60 ∧ ∀ x ∈ l, x.f0.size ≤ 400 ∧ x.f1.size ≤ 400 := by
  unfold fewB at h
  simp only [Bool.and_eq_true, decide_eq_true_eq, List.all_eq_true] at h
  exact h
def pr (x : Lab) : Str × Str := (B x.f0, B x.f1)
theorem pr_inj {x y : Lab} (h : pr x = pr y) : x = y := by
  obtain ⟨a, b⟩ := x
  obtain ⟨c, d⟩ := y
  have h1 : a = c := B_inj (congrArg Prod.fst h)
  have h2 : b = d := B_inj (congrArg Prod.snd h)
  rw [h1, h2]
theorem less_irrefl : ∀ x : Str, Op.bytesLess x x = false
  | [] => rfl
  | a :: x => by
    simp only [Op.bytesLess, less_irrefl x]
    have h : ¬ a < a := by rw [UInt8.lt_iff_toNat_lt]; omega
    simp [h]
theorem less_trans : ∀ {x y z : Str}, Op.bytesLess x y = true → Op.bytesLess y z = true → Op.bytesLess x z = true
  | _, [], _, h, _ => by cases h' : (‹Str›) <;> simp [Op.bytesLess] at h
  | x, b :: y, [], _, h => by simp [Op.bytesLess] at h
  | [], b :: y, c :: z, _, _ => rfl
  | a :: x, b :: y, c :: z, h1, h2 => by
    simp only [Op.bytesLess, Bool.or_eq_true, decide_eq_true_eq, Bool.and_eq_true, beq_iff_eq] at h1 h2 ⊢
    rcases h1 with h1 | ⟨rfl, h1⟩
    · rcases h2 with h2 | ⟨rfl, h2⟩
      · left
        rw [UInt8.lt_iff_toNat_lt] at h1 h2 ⊢
        omega
      · exact .inl h1
    · rcases h2 with h2 | ⟨rfl, h2⟩
      · exact .inl h2
      · exact .inr ⟨rfl, less_trans h1 h2⟩
theorem less_asymm {x y : Str} (h : Op.bytesLess x y = true) : Op.bytesLess y x = false := by
  rw [less_gt x y, h]
  rfl
theorem less_total {x y : Str} (h1 : Op.bytesLess x y = false) (h2 : Op.bytesLess y x = false) : x = y := by
  rw [less_gt x y, h1] at h2
  simpa using h2
end Go.Proofs.YtdhmabofncbohaaDoor.Pu
