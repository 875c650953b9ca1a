import Derived.Test.YtdhmabofncbohaaDoorCLabelsBackPLCx13
import Derived.Test.YtdhmabofncbohaaDoorCLabelsBackPLCx5
import Derived.Test.YtdhmabofncbohaaDoorCLabelsBackPLCx6
import Derived.Test.YtdhmabofncbohaaDoorCLabelsBackPLCx14
import Derived.Test.YtdhmabofncbohaaDoorCLabelsBackH19
import Derived.Test.YtdhmabofncbohaaDoorCLabelsBackPLCx3
import Derived.Test.YtdhmabofncbohaaDoorCLabelsBackPLCx8
import Derived.Laws.BitsAllLaws
import Derived.Laws.Bits64
import Derived.WalkArith
namespace Go.Proofs.YtdhmabofncbohaaDoor.Bq
end Go.Proofs.YtdhmabofncbohaaDoor.Bq
section
namespace Go.Proofs.YtdhmabofncbohaaDoor.Pu
open Go Go.RowKit Go.Proofs.YtdhmabofncbohaaDoor Go.Proofs.YtdhmabofncbohaaDoor.PLC Go.Proofs.YtdhmabofncbohaaDoorW.PrintWords Go.Proofs.YtdhmabofncbohaaDoorW.PrintLast Go.Proofs.YtdhmabofncbohaaDoorW.PrintMore
set_option linter.unusedVariables false
set_option linter.unusedSimpArgs false
abbrev Lab := S44
theorem rdn (l : List Lab) (n : Nat) : rd_T44 l (n : Int) = l.getD n z44 := by unfold rd_T44; rw [Int.toNat_natCast]
theorem dropS (l : List Lab) (n : Nat) (h : n < l.length) : l.drop n = l.getD n z44 :: l.drop (n + 1) := by
  rw [List.drop_eq_getElem_cons h, List.getD_eq_getElem?_getD, List.getElem?_eq_getElem h]
  rfl
def fewB (l : List Lab) : Bool := decide (l.length ≤ 60) && l.all (fun x => decide (x.f0.size ≤ 400) && decide (x.f1.size ≤ 400))
theorem few_l0 (l : List Lab) (hl : l.length ≤ 60) : ∀ (d n k : Nat), n + d = l.length → d < k → manometerlaw05_few.l0 k l (l.length : Int) (n : Int) = some ((l.drop n).all (fun x => decide (x.f0.size ≤ 400) && decide (x.f1.size ≤ 400)))
  | d, n, k, hd, hk => by
    obtain ⟨k, rfl⟩ := succ_of hk
    by_cases hlt : n < l.length
    · obtain ⟨d, rfl⟩ : ∃ e, d = e + 1 := ⟨d - 1, by omega⟩
      have ih := few_l0 l hl d (n + 1) k (by omega) (by omega)
      rw [dropS l n hlt, List.all_cons]
      simp only [manometerlaw05_few.l0]
      rw [if_pos (by omega), if_pos (by omega), if_pos (by omega), rdn, w1 n (by omega), ih]
      generalize l.getD n z44 = x
      by_cases h1 : x.f0.size ≤ 400
      · rw [if_neg (by omega), decide_eq_true h1, Bool.true_and]
        by_cases h2 : x.f1.size ≤ 400
        · rw [if_neg (by omega), decide_eq_true h2, Bool.true_and]
        · rw [if_pos (by omega), decide_eq_false h2]; rfl
      · rw [if_pos (by omega), decide_eq_false h1]; rfl
    · rw [List.drop_of_length_le (by omega)]
      simp only [manometerlaw05_few.l0]
      rw [if_neg (by omega)]
      rfl
theorem few_ev (l : List Lab) : Ev (fun k => manometerlaw05_few.f k l) (fewB l) := by
  unfold manometerlaw05_few.f fewB
  by_cases h : l.length ≤ 60
  · simp only [if_neg (show ¬ (l.length : Int) > 60 by omega), decide_eq_true h, Bool.true_and]
    exact Ev.at l.length (fun k hk => few_l0 l h l.length 0 k (by omega) hk)
  · simp only [if_pos (show (l.length : Int) > 60 by omega), decide_eq_false h, Bool.false_and]
    exact Ev.now _
theorem few_of {l : List Lab} (h : fewB l = true) : l.length ≤ 60 ∧ ∀ x ∈ l, x.f0.size ≤ 400 ∧ x.f1.size ≤ 400 := by
  unfold fewB at h
  simp only [Bool.and_eq_true, decide_eq_true_eq, List.all_eq_true] at h
  exact h
def pr (x : Lab) : Str × Str := (B x.f0, B x.f1)
theorem pr_inj {x y : Lab} (h : pr x = pr y) : x = y := by
  obtain ⟨a, b⟩ := x
  obtain ⟨c, d⟩ := y
  have h1 : a = c := B_inj (congrArg Prod.fst h)
  have h2 : b = d := B_inj (congrArg Prod.snd h)
  rw [h1, h2]
theorem prs_inj {a b : List Lab} (h : a.map pr = b.map pr) : a = b := by
  induction a generalizing b with
  | nil => cases b with
    | nil => rfl
    | cons _ _ => cases h
  | cons x a ih => cases b with
    | nil => cases h
    | cons y b =>
      injection h with h1 h2
      rw [pr_inj h1, ih h2]
def sameB (a b : List Lab) : Bool := decide (a.map pr = b.map pr)
theorem sameB_refl (a : List Lab) : sameB a a = true := decide_eq_true rfl
theorem ne_test (x y : Lab) : ((!(x.f0.toList == y.f0.toList) || (!(x.f1.toList == y.f1.toList))) = true) ↔ ¬ pr x = pr y := by
  rw [toList_B, toList_B, toList_B, toList_B]
  unfold pr
  rw [Prod.mk.injEq]
  simp only [Bool.or_eq_true, Bool.not_eq_true', beq_eq_false_iff_ne, ne_eq]
  exact Decidable.not_and_iff_or_not.symm
theorem Same_l0 (a b : List Lab) (hs : a.length ≤ 1000000000000) (hab : a.length = b.length) : ∀ (d n k : Nat), n + d = a.length → d < k →
    labels_Same.l0 k a b (a.length : Int) (n : Int) = some (decide ((a.drop n).map pr = (b.drop n).map pr)) ∧ manometerref05_Same.l0 k a b (a.length : Int) (n : Int) = some (decide ((a.drop n).map pr = (b.drop n).map pr))
  | d, n, k, hd, hk => by
    obtain ⟨k, rfl⟩ := succ_of hk
    by_cases hlt : n < a.length
    · obtain ⟨d, rfl⟩ : ∃ e, d = e + 1 := ⟨d - 1, by omega⟩
      obtain ⟨ih1, ih2⟩ := Same_l0 a b hs hab d (n + 1) k (by omega) (by omega)
      rw [dropS a n hlt, dropS b n (by omega), List.map_cons, List.map_cons]
      simp only [labels_Same.l0, manometerref05_Same.l0]
      rw [if_pos (by omega), if_pos (by omega), if_pos (by omega), if_pos (by omega), rdn, rdn, w1 n (by omega), ih1, ih2]
      rw [if_pos (show (n : Int) < (a.length : Int) by omega), if_pos (show (0 : Int) ≤ (n : Int) by omega), if_pos (show (n : Int) < (a.length : Int) by omega), if_pos (show (n : Int) < (b.length : Int) by omega)]
      generalize a.getD n z44 = x
      generalize b.getD n z44 = y
      by_cases h : pr x = pr y
      · have h1 := fun z => ((ne_test x y).1 z) h
        rw [if_neg h1, h]
        simp
      · rw [if_pos ((ne_test x y).2 h)]
        simp [h]
    · rw [List.drop_of_length_le (by omega), List.drop_of_length_le (by omega)]
      simp only [labels_Same.l0, manometerref05_Same.l0]
      rw [if_neg (by omega), if_neg (by omega)]
      exact ⟨rfl, rfl⟩
theorem Same_ev (a b : List Lab) (hs : a.length ≤ 1000000000000) : Ev (fun k => labels_Same.f k a b) (sameB a b) ∧ Ev (fun k => manometerref05_Same.f k a b) (sameB a b) := by
  unfold labels_Same.f manometerref05_Same.f
  by_cases h : a.length = b.length
  · simp only [if_pos (show (a.length : Int) = (b.length : Int) by omega)]
    exact ⟨Ev.at a.length (fun k hk => (Same_l0 a b hs h a.length 0 k (by omega) hk).1), Ev.at a.length (fun k hk => (Same_l0 a b hs h a.length 0 k (by omega) hk).2)⟩
  · have hf : sameB a b = false := decide_eq_false (fun he => h (by rw [prs_inj he]))
    simp only [if_neg (show ¬ (a.length : Int) = (b.length : Int) by omega), hf]
    exact ⟨Ev.now _, Ev.now _⟩
theorem less_irrefl : ∀ x : Str, Op.bytesLess x x = false
  | [] => rfl
  | a :: x => by
    simp only [Op.bytesLess, less_irrefl x]
    have h : ¬ a < a := by rw [UInt8.lt_iff_toNat_lt]; omega
    simp [h]
theorem less_trans : ∀ {x y z : Str}, Op.bytesLess x y = true → Op.bytesLess y z = true → Op.bytesLess x z = true
  | _, [], _, h, _ => by cases h' : (‹Str›) <;> simp [Op.bytesLess] at h
  | x, b :: y, [], _, h => by simp [Op.bytesLess] at h
  | [], b :: y, c :: z, _, _ => rfl
  | a :: x, b :: y, c :: z, h1, h2 => by
    simp only [Op.bytesLess, Bool.or_eq_true, decide_eq_true_eq, Bool.and_eq_true, beq_iff_eq] at h1 h2 ⊢
    rcases h1 with h1 | ⟨rfl, h1⟩
    · rcases h2 with h2 | ⟨rfl, h2⟩
      · left
        rw [UInt8.lt_iff_toNat_lt] at h1 h2 ⊢
        omega
      · exact .inl h1
    · rcases h2 with h2 | ⟨rfl, h2⟩
      · exact .inl h2
      · exact .inr ⟨rfl, less_trans h1 h2⟩
theorem less_asymm {x y : Str} (h : Op.bytesLess x y = true) : Op.bytesLess y x = false := by
  rw [less_gt x y, h]
  rfl
theorem less_total {x y : Str} (h1 : Op.bytesLess x y = false) (h2 : Op.bytesLess y x = false) : x = y := by
  rw [less_gt x y, h1] at h2
  simpa using h2
end Go.Proofs.YtdhmabofncbohaaDoor.Pu
end
section
namespace Go.Proofs.YtdhmabofncbohaaDoor.PLC
open Go.RowKit Go.Proofs.YtdhmabofncbohaaDoorW.PrintWords Go.Proofs.YtdhmabofncbohaaDoorW.PrintLast Go.Proofs.YtdhmabofncbohaaDoorW.PrintMore
attribute [local go_sem] max2_int min2_int max_two min_two max_three min_three max_four min_four
set_option linter.unusedVariables false
set_option linter.unusedSimpArgs false
mutual
def manometerref05_Right.l0 : Nat → List (S44) → List (S44) → Int → Int → Option (Int)
 | 0, _, _, _, _ => none
 | k + 1, x0, x8, x9, x10 => if x10 < x9 then (if 0 ≤ x10 then (if x10 < (x8.length : Int) then ((manometerref05_Named.f k ((rd_T44 x8 x10).f0)).bind fun t397 => (if t397 = true then ((manometerref05_Valued.f k ((rd_T44 x8 x10).f1)).bind fun t398 => (if t398 = true then (manometerref05_Right.j1 k x0 x10 x8 x9 x10 (((rd_T44 x8 x10).f1).toList == ([] : List UInt8)) ((rd_T44 x8 x10).f0) ((rd_T44 x8 x10).f1)) else (manometerref05_Right.j1 k x0 x10 x8 x9 x10 true ((rd_T44 x8 x10).f0) ((rd_T44 x8 x10).f1)))) else (some 50))) else (none)) else (none)) else (some 0)
def manometerref05_Right.j1 : Nat → List (S44) → Int → List (S44) → Int → Int → Bool → ByteArray → ByteArray → Option (Int)
 | 0, _, _, _, _, _, _, _, _ => none
 | k + 1, x0, x3, x8, x9, x10, x20, x397000, x397001 => if x20 = true then (some 51) else (if x3 > 0 then (if 0 ≤ (wrap64 (x3 - 1)) then (if (wrap64 (x3 - 1)) < (x0.length : Int) then (if (Op.bytesLess x397000.toList (((rd_T44 x0 (wrap64 (x3 - 1))).f0).toList)) = true then (some 53) else (if x397000.toList = ((rd_T44 x0 (wrap64 (x3 - 1))).f0).toList then (some 53) else (manometerref05_Right.l0 k x0 x8 x9 (wrap64 (x10 + 1))))) else (none)) else (none)) else (manometerref05_Right.l0 k x0 x8 x9 (wrap64 (x10 + 1))))
end
def manometerref05_Right.f (k : Nat) (l0 : List (S44)) : Option (Int) := if (l0.length : Int) > 16 then (some 3) else (manometerref05_Right.l0 k l0 l0 (l0.length : Int) 0)
end Go.Proofs.YtdhmabofncbohaaDoor.PLC
end
section
namespace Go.Proofs.YtdhmabofncbohaaDoor.Pu
open Go Go.RowKit Go.Proofs.YtdhmabofncbohaaDoor Go.Proofs.YtdhmabofncbohaaDoor.PLC Go.Proofs.YtdhmabofncbohaaDoorW.PrintWords Go.Proofs.YtdhmabofncbohaaDoorW.PrintLast Go.Proofs.YtdhmabofncbohaaDoorW.PrintMore
set_option linter.unusedVariables false
set_option linter.unusedSimpArgs false
def Sm (l : List Lab) : Prop := l.length ≤ 100000 ∧ ∀ x ∈ l, x.f0.size ≤ 100000 ∧ x.f1.size ≤ 100000
theorem Sm.at {l : List Lab} (h : Sm l) (n : Nat) (hn : n < l.length) : (l.getD n z44).f0.size ≤ 100000 ∧ (l.getD n z44).f1.size ≤ 100000 := by
  rw [List.getD_eq_getElem?_getD, List.getElem?_eq_getElem hn]
  exact h.2 _ (List.getElem_mem hn)
theorem few_sm {l : List Lab} (h : fewB l = true) : Sm l := ⟨by have := (few_of h).1; omega, fun x hx => by have := (few_of h).2 x hx; omega⟩
def wrongB (e : Bool) (x : Lab) : Int := if namedB (B x.f0) = true then (if valuedB (B x.f1) = true then (if e = true then 0 else (if B x.f1 = [] then 51 else 0)) else 51) else 50
theorem wrong_f (x : Lab) (e : Bool) (h0 : x.f0.size ≤ 100000) (h1 : x.f1.size ≤ 100000) : labels_wrong.f x.f0 x.f1 e = some (wrongB e x) := by
  unfold labels_wrong.f wrongB
  rw [pNamed_f _ (by omega), pValued_f _ (by omega), toList_B]
  simp only [Option.bind_some]
  split <;> (try rfl)
  split <;> (try rfl)
  split <;> (try rfl)
  split <;> rfl
def rgt : Option Str → List Lab → Int
  | _, [] => 0
  | p, x :: l => if wrongB false x = 0 then (if (match p with | none => false | some q => Op.bytesLess (B x.f0) q || decide (B x.f0 = q)) = true then 53 else rgt (some (B x.f0)) l) else wrongB false x
def pv (l : List Lab) (n : Nat) : Option Str := if n = 0 then none else some (B (l.getD (n - 1) z44).f0)
def rightB (l : List Lab) : Int := if l.length ≤ 16 then rgt none l else 3
theorem wm1 (n : Nat) (h : n ≤ 9000000000000000000) : wrap64 (((n + 1 : Nat) : Int) - 1) = (n : Int) := wn (by omega) (by omega)
theorem Right_l0 (l : List Lab) (hs : Sm l) : ∀ (d n : Nat), n + d = l.length →
    Ev (fun k => labels_Right.l0 k l l (l.length : Int) (n : Int)) (rgt (pv l n) (l.drop n))
  | d, n, hd => by
    have hl := hs.1
    refine Ev.step (f := _) (fun k => by simp only [labels_Right.l0]; rfl) ?_
    by_cases hlt : n < l.length
    · obtain ⟨d, rfl⟩ : ∃ e, d = e + 1 := ⟨d - 1, by omega⟩
      have ih := Right_l0 l hs d (n + 1) (by omega)
      obtain ⟨s0, s1⟩ := hs.at n hlt
      have hp : pv l (n + 1) = some (B (l.getD n z44).f0) := by unfold pv; rw [if_neg (by omega)]; rfl
      rw [hp] at ih
      rw [dropS l n hlt]
      have e1 : (n : Int) < (l.length : Int) := by omega
      have e2 : (0 : Int) ≤ (n : Int) := by omega
      simp only [if_pos e1, if_pos e2, rdn, w1 n (by omega), wrong_f _ _ s0 s1, Option.bind_some, rgt]
      by_cases hw : wrongB false (l.getD n z44) = 0
      · simp only [if_pos hw]
        cases n with
        | zero =>
          simp only [if_neg (show ¬ ((0 : Nat) : Int) > 0 by omega)]
          exact ih
        | succ m =>
          have hq : pv l (m + 1) = some (B (l.getD m z44).f0) := by unfold pv; rw [if_neg (by omega)]; rfl
          have e3 : ((m + 1 : Nat) : Int) > 0 := by omega
          have e4 : (0 : Int) ≤ (m : Int) := by omega
          have e5 : (m : Int) < (l.length : Int) := by omega
          simp only [if_pos e3, wm1 m (by omega), if_pos e4, if_pos e5, rdn, hq, toList_B]
          by_cases h1 : Op.bytesLess (B (l.getD (m + 1) z44).f0) (B (l.getD m z44).f0) = true
          · simp only [h1, if_true, Bool.true_or]
            exact Ev.now _
          · have h1' : Op.bytesLess (B (l.getD (m + 1) z44).f0) (B (l.getD m z44).f0) = false := by simpa using h1
            simp only [h1', Bool.false_eq_true, if_false, Bool.false_or, decide_eq_true_eq]
            by_cases h2 : B (l.getD (m + 1) z44).f0 = B (l.getD m z44).f0
            · simp only [if_pos h2]
              exact Ev.now _
            · simp only [if_neg h2]
              exact ih
      · simp only [if_neg hw]
        exact Ev.now _
    · rw [List.drop_of_length_le (by omega)]
      simp only [if_neg (show ¬ (n : Int) < (l.length : Int) by omega)]
      exact Ev.now _
theorem RRight_l0 (l : List Lab) (hs : Sm l) : ∀ (d n : Nat), n + d = l.length →
    Ev (fun k => manometerref05_Right.l0 k l l (l.length : Int) (n : Int)) (rgt (pv l n) (l.drop n))
  | d, n, hd => by
    have hl := hs.1
    refine Ev.step (f := _) (fun k => by simp only [manometerref05_Right.l0]; rfl) ?_
    by_cases hlt : n < l.length
    · obtain ⟨d, rfl⟩ : ∃ e, d = e + 1 := ⟨d - 1, by omega⟩
      have ih := RRight_l0 l hs d (n + 1) (by omega)
      obtain ⟨s0, s1⟩ := hs.at n hlt
      have hp : pv l (n + 1) = some (B (l.getD n z44).f0) := by unfold pv; rw [if_neg (by omega)]; rfl
      rw [hp] at ih
      rw [dropS l n hlt]
      have e1 : (n : Int) < (l.length : Int) := by omega
      have e2 : (0 : Int) ≤ (n : Int) := by omega
      simp only [if_pos e1, if_pos e2, rdn, rgt, wrongB]
      refine Ev.bind (Named_ev _ (by omega)) ?_
      by_cases hn : namedB (B (l.getD n z44).f0) = true
      · simp only [if_pos hn]
        refine Ev.bind (Valued_ev _ (by omega)) ?_
        have j1t : Ev (fun k => manometerref05_Right.j1 k l (n : Int) l (l.length : Int) (n : Int) true (l.getD n z44).f0 (l.getD n z44).f1) 51 := by
          refine Ev.step (f := _) (fun k => by simp only [manometerref05_Right.j1]; rfl) ?_
          simp only [if_true]
          exact Ev.now _
        by_cases hv : valuedB (B (l.getD n z44).f1) = true
        · simp only [if_pos hv, toList_B, Bool.false_eq_true, if_false]
          by_cases he : B (l.getD n z44).f1 = []
          · have : (B (l.getD n z44).f1 == ([] : Str)) = true := by rw [he]; rfl
            simp only [this, if_pos he, if_neg (show ¬ (51 : Int) = 0 by omega)]
            exact j1t
          · have : (B (l.getD n z44).f1 == ([] : Str)) = false := by simpa using he
            simp only [this, if_neg he, if_true]
            refine Ev.step (f := _) (fun k => by simp only [manometerref05_Right.j1]; rfl) ?_
            simp only [Bool.false_eq_true, if_false, w1 n (by omega)]
            cases n with
            | zero =>
              simp only [if_neg (show ¬ ((0 : Nat) : Int) > 0 by omega)]
              exact ih
            | succ m =>
              have hq : pv l (m + 1) = some (B (l.getD m z44).f0) := by unfold pv; rw [if_neg (by omega)]; rfl
              have e3 : ((m + 1 : Nat) : Int) > 0 := by omega
              have e4 : (0 : Int) ≤ (m : Int) := by omega
              have e5 : (m : Int) < (l.length : Int) := by omega
              simp only [if_pos e3, wm1 m (by omega), if_pos e4, if_pos e5, rdn, hq, toList_B]
              by_cases h1 : Op.bytesLess (B (l.getD (m + 1) z44).f0) (B (l.getD m z44).f0) = true
              · simp only [h1, if_true, Bool.true_or]
                exact Ev.now _
              · have h1' : Op.bytesLess (B (l.getD (m + 1) z44).f0) (B (l.getD m z44).f0) = false := by simpa using h1
                simp only [h1', Bool.false_eq_true, if_false, Bool.false_or, decide_eq_true_eq]
                by_cases h2 : B (l.getD (m + 1) z44).f0 = B (l.getD m z44).f0
                · simp only [if_pos h2]
                  exact Ev.now _
                · simp only [if_neg h2]
                  exact ih
        · simp only [if_neg hv, if_neg (show ¬ (51 : Int) = 0 by omega)]
          exact j1t
      · simp only [if_neg hn, if_neg (show ¬ (50 : Int) = 0 by omega)]
        exact Ev.now _
    · rw [List.drop_of_length_le (by omega)]
      simp only [if_neg (show ¬ (n : Int) < (l.length : Int) by omega)]
      exact Ev.now _
theorem Right_ev (l : List Lab) (hs : Sm l) : Ev (fun k => labels_Right.f k l) (rightB l) ∧ Ev (fun k => manometerref05_Right.f k l) (rightB l) := by
  unfold labels_Right.f manometerref05_Right.f rightB
  by_cases h : l.length ≤ 16
  · simp only [if_neg (show ¬ (l.length : Int) > 16 by omega), if_pos h]
    exact ⟨Right_l0 l hs l.length 0 (by omega), RRight_l0 l hs l.length 0 (by omega)⟩
  · simp only [if_pos (show (l.length : Int) > 16 by omega), if_neg h]
    exact ⟨Ev.now _, Ev.now _⟩
abbrev lt (a b : ByteArray) : Prop := Op.bytesLess (B a) (B b) = true
theorem lt_irrefl (a : ByteArray) : ¬ lt a a := by unfold lt; rw [less_irrefl]; decide
def P (nm : ByteArray) (z : Lab) : Bool := decide (B z.f0 = B nm) && !decide (B z.f1 = [])
end Go.Proofs.YtdhmabofncbohaaDoor.Pu
end
section
namespace Go.Proofs.YtdhmabofncbohaaDoor
namespace Bq
set_option linter.unusedVariables false
set_option linter.unusedSimpArgs false
def uv (n : Nat) : List Nat := if n < 128 then [n] else (n % 128 + 128) :: uv (n / 128)
termination_by n
decreasing_by omega
theorem uv_small (n : Nat) (h : n < 128) : uv n = [n] := by rw [uv, if_pos h]
theorem uv_big (n : Nat) (h : 128 ≤ n) : uv n = (n % 128 + 128) :: uv (n / 128) := by rw [uv, if_neg (by omega)]
theorem uv_pos (n : Nat) : 0 < (uv n).length := by
  by_cases h : n < 128
  · simp [uv_small n h]
  · simp [uv_big n (by omega)]
theorem uv_len (k : Nat) : ∀ n, n < 128 ^ (k + 1) → (uv n).length ≤ k + 1 := by
  induction k with
  | zero => intro n h; rw [uv_small n (by simpa using h)]; simp
  | succ k ih =>
    intro n h
    by_cases h1 : n < 128
    · rw [uv_small n h1]; simp
    · rw [uv_big n (by omega), List.length_cons]
      have := ih (n / 128) (by rw [Nat.div_lt_iff_lt_mul (by decide)]; rwa [Nat.pow_succ] at h)
      omega
theorem uv_len10 (n : Nat) (h : n < 18446744073709551616) : (uv n).length ≤ 10 := uv_len 9 n (Nat.lt_of_lt_of_le h (by decide))
theorem uv_lt (n : Nat) : ∀ x ∈ uv n, x < 256 := by
  induction n using Nat.strongRecOn with
  | _ n ih =>
    intro x hx
    by_cases h : n < 128
    · rw [uv_small n h] at hx
      have : x = n := by simpa using hx
      omega
    · rw [uv_big n (by omega)] at hx
      rcases List.mem_cons.1 hx with rfl | hx
      · omega
      · exact ih (n / 128) (by omega) x hx
def ug : Nat → Nat → List Int → Int × Int × Int
  | at_, acc, [] => if at_ < 10 then (0, 0, 6) else (0, 0, 9)
  | at_, acc, x :: xs =>
    if 10 ≤ at_ then (0, 0, 9)
    else if at_ = 9 ∧ 1 < x then (0, 0, 9)
    else if x < 128 then (if 0 < at_ ∧ x = 0 then (0, 0, 8) else ((acc : Int) + x * 128 ^ at_, (at_ : Int) + 1, 0))
    else ug (at_ + 1) (acc + (x.toNat - 128) * 128 ^ at_) xs
def uget (xs : List Int) : Int × Int × Int := ug 0 0 xs
theorem wrap_u64' (n : Int) : IntKind.u64.wrap n = n % 18446744073709551616 := by simp [IntKind.wrap, IntKind.bits, IntKind.signed]
end Bq
end Go.Proofs.YtdhmabofncbohaaDoor
end
section
namespace Go.Proofs.YtdhmabofncbohaaDoor
open Bq
set_option linter.unusedVariables false
theorem p128 (k : Nat) : 128 ^ (k + 1) = 128 * 128 ^ k := by rw [Nat.pow_succ, Nat.mul_comm]
theorem k_lt {n k : Nat} (h : n * 128 ^ k < 18446744073709551616) (hk : k = 0 ∨ 0 < n) : k < 10 := by
  rcases hk with rfl | hk
  · decide
  · apply Nat.lt_of_not_le
    intro h10
    have h1 : 128 ^ 10 ≤ 128 ^ k := Nat.pow_le_pow_right (by decide) h10
    have h2 : 1 * 128 ^ k ≤ n * 128 ^ k := Nat.mul_le_mul_right _ hk
    have h3 : (128 : Nat) ^ 10 = 1180591620717411303424 := by decide
    omega
theorem k9 {n k : Nat} (h : n * 128 ^ k < 18446744073709551616) (hk : k = 9) : n ≤ 1 := by
  subst hk
  have h3 : (128 : Nat) ^ 9 = 9223372036854775808 := by decide
  rw [h3] at h
  omega
theorem step128 {n k : Nat} (h : n * 128 ^ k < 18446744073709551616) : n / 128 * 128 ^ (k + 1) < 18446744073709551616 := by
  rw [p128, ← Nat.mul_assoc]
  exact Nat.lt_of_le_of_lt (Nat.mul_le_mul_right _ (Nat.div_mul_le_self n 128)) h
theorem sum128 (n k : Nat) : n % 128 * 128 ^ k + n / 128 * 128 ^ (k + 1) = n * 128 ^ k := by
  rw [p128, ← Nat.mul_assoc, ← Nat.add_mul]
  congr 1
  omega
theorem ug_uv (rest : List Int) : ∀ (b n k acc : Nat), n ≤ b → n * 128 ^ k < 18446744073709551616 → (k = 0 ∨ 0 < n) →
    ug k acc (ints (uv n) ++ rest) = (((acc + n * 128 ^ k : Nat) : Int), ((k + (uv n).length : Nat) : Int), 0) := by
  intro b
  induction b with
  | zero =>
    intro n k acc hb h hk
    have hn : n = 0 := by omega
    subst hn
    have hk0 : k = 0 := by omega
    subst hk0
    rw [uv_small 0 (by decide)]
    simp [ints, ug]
  | succ b ih =>
    intro n k acc hb h hk
    have hk10 := k_lt h hk
    by_cases hn : n < 128
    · rw [uv_small n hn]
      show ug k acc ((n : Int) :: rest) = _
      rw [ug, if_neg (by omega), if_neg (by
        rintro ⟨h9, h1⟩
        have := k9 h h9
        omega), if_pos (by omega), if_neg (by
        rintro ⟨h1, h2⟩
        omega)]
      simp
    · rw [uv_big n (by omega)]
      show ug k acc (((n % 128 + 128 : Nat) : Int) :: (ints (uv (n / 128)) ++ rest)) = _
      rw [ug, if_neg (by omega), if_neg (by
        rintro ⟨h9, h1⟩
        have := k9 h h9
        omega), if_neg (by omega)]
      have e : (((n % 128 + 128 : Nat) : Int).toNat - 128) = n % 128 := by omega
      rw [e, ih (n / 128) (k + 1) _ (by omega) (step128 h) (.inr (by omega)), Nat.add_assoc acc, sum128, List.length_cons, Nat.add_assoc k 1, Nat.add_comm 1]
theorem uget_uv (n : Nat) (h : n < 18446744073709551616) (rest : List Int) : uget (ints (uv n) ++ rest) = ((n : Int), ((uv n).length : Int), 0) := by
  have := ug_uv rest n n 0 0 (Nat.le_refl _) (by simpa using h) (.inl rfl)
  simpa [uget] using this
theorem ug_cut : ∀ (b n k acc i : Nat), n ≤ b → n * 128 ^ k < 18446744073709551616 → (k = 0 ∨ 0 < n) → i < (uv n).length →
    (ug k acc ((ints (uv n)).take i)).2.2 = 6 := by
  intro b
  induction b with
  | zero =>
    intro n k acc i hb h hk hi
    have hn : n = 0 := by omega
    subst hn
    have hk0 : k = 0 := by omega
    subst hk0
    rw [uv_small 0 (by decide)] at hi ⊢
    have hi0 : i = 0 := by simpa using hi
    subst hi0
    simp [ints, ug]
  | succ b ih =>
    intro n k acc i hb h hk hi
    have hk10 := k_lt h hk
    cases i with
    | zero => simp [ug, hk10]
    | succ i =>
      by_cases hn : n < 128
      · rw [uv_small n hn] at hi
        simp at hi
      · rw [uv_big n (by omega)] at hi ⊢
        show (ug k acc (((n % 128 + 128 : Nat) : Int) :: (ints (uv (n / 128))).take i)).2.2 = 6
        rw [ug, if_neg (by omega), if_neg (by
          rintro ⟨h9, h1⟩
          have := k9 h h9
          omega), if_neg (by omega)]
        exact ih (n / 128) (k + 1) _ i (by omega) (step128 h) (.inr (by omega)) (by simpa using hi)
theorem uget_cut (n : Nat) (h : n < 18446744073709551616) (i : Nat) (hi : i < (uv n).length) : (uget ((ints (uv n)).take i)).2.2 = 6 :=
  ug_cut n n 0 0 i (Nat.le_refl _) (by simpa using h) (.inl rfl) hi
theorem ug_back : ∀ (xs : List Int) (k acc : Nat), (∀ x ∈ xs, 0 ≤ x ∧ x < 256) → (ug k acc xs).2.2 = 0 →
    ∃ n : Nat, (ug k acc xs).1 = ((acc + n * 128 ^ k : Nat) : Int) ∧ (ug k acc xs).2.1 = ((k + (uv n).length : Nat) : Int) ∧ (uv n).length ≤ xs.length ∧ ints (uv n) = xs.take (uv n).length ∧ (k = 0 ∨ 0 < n)
  | [], k, acc, _, he => by
    unfold ug at he
    split at he <;> exact absurd he (by decide)
  | x :: xs, k, acc, hb, he => by
    obtain ⟨hx0, hx1⟩ := hb x (by simp)
    obtain ⟨y, rfl⟩ := Int.eq_ofNat_of_zero_le hx0
    rw [ug] at he ⊢
    split at he
    · exact absurd he (by decide)
    · rename_i h10
      rw [if_neg h10]
      split at he
      · exact absurd he (by decide)
      · rename_i h9
        rw [if_neg h9]
        split at he
        · rename_i h128
          rw [if_pos h128]
          split at he
          · exact absurd he (by decide)
          · rename_i hform
            rw [if_neg hform]
            refine ⟨y, ?_, ?_, ?_, ?_, by omega⟩
            · simp
            · rw [uv_small y (by omega)]; simp
            · rw [uv_small y (by omega)]; simp
            · rw [uv_small y (by omega)]; simp [ints]
        · rename_i h128
          rw [if_neg h128]
          obtain ⟨n, h1, h2, h3, h4, h5⟩ := ug_back xs _ _ (fun z hz => hb z (by simp [hz])) he
          have hn : 0 < n := by omega
          have e1 : ((y : Int).toNat - 128) = y - 128 := by omega
          have e2 : (128 * n + (y - 128)) % 128 + 128 = y := by omega
          have e3 : (128 * n + (y - 128)) / 128 = n := by omega
          refine ⟨128 * n + (y - 128), ?_, ?_, ?_, ?_, .inr (by omega)⟩
          · have e4 : acc + (y - 128) * 128 ^ k + n * (128 * 128 ^ k) = acc + (128 * n + (y - 128)) * 128 ^ k := by
              rw [Nat.add_mul, Nat.mul_comm 128 n, Nat.mul_assoc]
              omega
            rw [h1, e1, p128, e4]
          · rw [h2, uv_big (128 * n + (y - 128)) (by omega), e3, List.length_cons, Nat.add_assoc k 1, Nat.add_comm 1]
          · rw [uv_big (128 * n + (y - 128)) (by omega), e3]
            simpa using h3
          · rw [uv_big (128 * n + (y - 128)) (by omega), e3, e2, List.length_cons, List.take_succ_cons, ← h4]
            rfl
theorem uget_back (xs : List Int) (hb : ∀ x ∈ xs, 0 ≤ x ∧ x < 256) (he : (uget xs).2.2 = 0) :
    ∃ n : Nat, (uget xs).1 = (n : Int) ∧ (uget xs).2.1 = ((uv n).length : Int) ∧ (uv n).length ≤ xs.length ∧ ints (uv n) = xs.take (uv n).length := by
  obtain ⟨n, h1, h2, h3, h4, _⟩ := ug_back xs 0 0 hb he
  exact ⟨n, by simpa [uget] using h1, by simpa [uget] using h2, h3, h4⟩
end Go.Proofs.YtdhmabofncbohaaDoor
end
section
namespace Go.Proofs.YtdhmabofncbohaaDoor.Pu
open Go Go.Proofs.YtdhmabofncbohaaDoor Bq
set_option linter.unusedVariables false
theorem byt_get {xs : List Int} (h : Byts xs) (i : Nat) (hi : i < xs.length) : 0 ≤ xs.getD i 0 ∧ xs.getD i 0 < 256 := by
  rw [List.getD_eq_getElem?_getD, List.getElem?_eq_getElem hi]
  exact h _ (List.getElem_mem hi)
theorem byt_drop {xs : List Int} (h : Byts xs) (n : Nat) : Byts (xs.drop n) := fun x hx => h x (List.mem_of_mem_drop hx)
theorem byt_take {xs : List Int} (h : Byts xs) (n : Nat) : Byts (xs.take n) := fun x hx => h x (List.mem_of_mem_take hx)
theorem byt_app {xs ys : List Int} (h : Byts xs) (h' : Byts ys) : Byts (xs ++ ys) := fun x hx => by
  rcases List.mem_append.1 hx with hx | hx
  · exact h x hx
  · exact h' x hx
theorem byt_uv (n : Nat) : Byts (Bq.ints (uv n)) := fun x hx => by
  obtain ⟨y, hy, rfl⟩ := List.mem_map.1 hx
  have := uv_lt n y hy
  exact ⟨by omega, by omega⟩
theorem drop_rd (xs : List Int) (i : Nat) (hi : i < xs.length) : xs.drop i = xs.getD i 0 :: xs.drop (i + 1) := by
  rw [List.drop_eq_getElem_cons hi, List.getD_eq_getElem?_getD, List.getElem?_eq_getElem hi]
  rfl
theorem wraps_u64n (n : Int) (h0 : 0 ≤ n) (h1 : n < 2 ^ 64) : IntKind.u64.wrap n = n := by
  rw [wrap_u64']
  omega
theorem comm_or (k : IntKind) (x y : Int) : bits .or k x y = bits .or k y x := by simp only [bits, BitVec.or_comm]
theorem and127n (x : Int) (h0 : 0 ≤ x) (h1 : x < 256) : bits .and .u8 x 127 = x % 128 := by
  have := bits_mask .u8 8 (by decide) wraps_u8 7 (by omega) x h0 (by omega)
  simpa using this
theorem or128n (x : Nat) (h1 : x < 256) : bits .or .u8 (x : Int) 128 = ((x % 128 + 128 : Nat) : Int) := by
  have e : (128 : Int) = ((128 : Nat) : Int) := rfl
  rw [e, Go.u8_or_nat x 128 h1 (by decide)]
  have h : ∀ a : Fin 256, (a.val ||| 128) = a.val % 128 + 128 := by decide +kernel
  rw [h ⟨x, h1⟩]
theorem pow7 (k : Nat) : (2 : Int) ^ (7 * k) = 128 ^ k := by rw [Int.pow_mul]; rfl
theorem val_bd (k acc : Nat) (x : Int) (hk : k < 10) (hx0 : 0 ≤ x) (hx1 : x < 256) (h9 : ¬ (k = 9 ∧ 1 < x)) (ha : acc < 128 ^ k) :
    (acc + (x % 128).toNat * 128 ^ k < 128 ^ (k + 1)) ∧ (acc + (x % 128).toNat * 128 ^ k < 18446744073709551616) := by
  have h1 : (x % 128).toNat < 128 := by omega
  constructor
  · rw [Nat.pow_succ]
    have : (x % 128).toNat * 128 ^ k ≤ 127 * 128 ^ k := Nat.mul_le_mul_right _ (by omega)
    omega
  · have hp : (128 : Nat) ^ k ≤ 128 ^ 9 := Nat.pow_le_pow_right (by decide) (by omega)
    rcases Nat.lt_or_ge k 9 with h | h
    · have hp2 : (128 : Nat) ^ k ≤ 128 ^ 8 := Nat.pow_le_pow_right (by decide) (by omega)
      have : (x % 128).toNat * 128 ^ k ≤ 127 * 128 ^ 8 := Nat.mul_le_mul (by omega) hp2
      omega
    · have hk9 : k = 9 := by omega
      subst hk9
      have : (x % 128).toNat ≤ 1 := by omega
      have : (x % 128).toNat * 128 ^ 9 ≤ 1 * 128 ^ 9 := Nat.mul_le_mul_right _ this
      omega
theorem val_shl (k : Nat) (y : Nat) : ((y : Int) * 2 ^ (7 * k)) = ((y * 128 ^ k : Nat) : Int) := by rw [pow7]; simp
theorem or_val (k acc : Nat) (x : Int) (hk : k < 10) (hx0 : 0 ≤ x) (hx1 : x < 256) (h9 : ¬ (k = 9 ∧ 1 < x)) (ha : acc < 128 ^ k) :
    bits .or .u64 (acc : Int) (IntKind.u64.wrap (x % 128 * 2 ^ (7 * k))) = ((acc + (x % 128).toNat * 128 ^ k : Nat) : Int) := by
  obtain ⟨h1, h2⟩ := val_bd k acc x hk hx0 hx1 h9 ha
  obtain ⟨y, hy⟩ := Int.eq_ofNat_of_zero_le (show 0 ≤ x % 128 by omega)
  rw [hy, Int.toNat_natCast] at h1 h2 ⊢
  rw [val_shl, wraps_u64n _ (by omega) (by omega), comm_or]
  have e3 : (2 : Nat) ^ (7 * k) = 128 ^ k := by rw [Nat.pow_mul]
  have e2 := bits_join .u64 64 (by decide) wraps_u64n (7 * k) ((y * 128 ^ k : Nat) : Int) (acc : Int) (by omega) (by
    have : y * 128 ^ k % 2 ^ (7 * k) = 0 := by rw [e3]; exact Nat.mul_mod_left _ _
    exact_mod_cast this) (by omega) (by omega) (by
    have : acc < 2 ^ (7 * k) := by rw [e3]; exact ha
    exact_mod_cast this) (by omega)
  rw [e2]
  omega
theorem add_val (k acc : Nat) (x : Int) (hk : k < 10) (hx0 : 0 ≤ x) (hx1 : x < 256) (h9 : ¬ (k = 9 ∧ 1 < x)) (ha : acc < 128 ^ k) :
    IntKind.u64.wrap ((acc : Int) + IntKind.u64.wrap (x % 128 * 2 ^ (7 * k))) = ((acc + (x % 128).toNat * 128 ^ k : Nat) : Int) := by
  obtain ⟨h1, h2⟩ := val_bd k acc x hk hx0 hx1 h9 ha
  obtain ⟨y, hy⟩ := Int.eq_ofNat_of_zero_le (show 0 ≤ x % 128 by omega)
  rw [hy, Int.toNat_natCast] at h1 h2 ⊢
  rw [val_shl, wraps_u64n ((y * 128 ^ k : Nat) : Int) (by omega) (by omega), wraps_u64n _ (by omega) (by omega)]
  omega
theorem sum_val (k acc : Nat) (x : Int) (hx0 : 0 ≤ x) (hx1 : x < 128) : ((acc + (x % 128).toNat * 128 ^ k : Nat) : Int) = (acc : Int) + x * 128 ^ k := by
  obtain ⟨y, rfl⟩ := Int.eq_ofNat_of_zero_le hx0
  rw [show ((y : Int) % 128).toNat = y by omega]
  simp
theorem more_val (k acc : Nat) (x : Int) (hx0 : 128 ≤ x) (hx1 : x < 256) : acc + (x % 128).toNat * 128 ^ k = acc + (x.toNat - 128) * 128 ^ k := by
  rw [show (x % 128).toNat = x.toNat - 128 by omega]
theorem g_stop9 (acc : Nat) (x : Int) (xs : List Int) (h : 1 < x) : ug 9 acc (x :: xs) = (0, 0, 9) := by rw [ug, if_neg (by decide), if_pos ⟨rfl, h⟩]
theorem g_form (k acc : Nat) (xs : List Int) (hk : k < 10) (h0 : 0 < k) : ug k acc (0 :: xs) = (0, 0, 8) := by rw [ug, if_neg (by omega), if_neg (by omega), if_pos (by decide), if_pos ⟨h0, rfl⟩]
theorem g_end (k acc : Nat) (x : Int) (xs : List Int) (hk : k < 10) (h9 : ¬ (k = 9 ∧ 1 < x)) (h128 : x < 128) (h0 : ¬ (0 < k ∧ x = 0)) : ug k acc (x :: xs) = ((acc : Int) + x * 128 ^ k, (k : Int) + 1, 0) := by
  rw [ug, if_neg (by omega), if_neg h9, if_pos h128, if_neg h0]
theorem g_more (k acc : Nat) (x : Int) (xs : List Int) (hk : k < 10) (h9 : ¬ (k = 9 ∧ 1 < x)) (h128 : ¬ x < 128) : ug k acc (x :: xs) = ug (k + 1) (acc + (x.toNat - 128) * 128 ^ k) xs := by
  rw [ug, if_neg (by omega), if_neg h9, if_neg h128]
theorem ug_bound : ∀ (xs : List Int) (k acc : Nat), Byts xs → k ≤ 10 → acc < 128 ^ k → 0 ≤ (ug k acc xs).1 ∧ (ug k acc xs).1 < 18446744073709551616
  | [], k, acc, _, _, _ => by
    unfold ug
    split <;> decide
  | x :: xs, k, acc, hb, hk, ha => by
    obtain ⟨x0, x1⟩ := hb x (by simp)
    by_cases h10 : 10 ≤ k
    · rw [ug, if_pos h10]
      decide
    · by_cases h9 : k = 9 ∧ 1 < x
      · rw [ug, if_neg h10, if_pos h9]
        decide
      · obtain ⟨v1, v2⟩ := val_bd k acc x (by omega) x0 x1 h9 ha
        by_cases h128 : x < 128
        · by_cases h0 : 0 < k ∧ x = 0
          · rw [ug, if_neg h10, if_neg h9, if_pos h128, if_pos h0]
            decide
          · rw [ug, if_neg h10, if_neg h9, if_pos h128, if_neg h0, ← sum_val k acc x x0 h128]
            exact ⟨by omega, by omega⟩
        · rw [ug, if_neg h10, if_neg h9, if_neg h128, ← more_val k acc x (by omega) x1]
          exact ug_bound xs (k + 1) _ (fun y hy => hb y (by simp [hy])) (by omega) v1
theorem ug_err : ∀ (xs : List Int) (k acc : Nat), ¬ (ug k acc xs).2.2 = 0 → (ug k acc xs).1 = 0 ∧ (ug k acc xs).2.1 = 0
  | [], k, acc, h => by
    unfold ug
    split <;> exact ⟨rfl, rfl⟩
  | x :: xs, k, acc, h => by
    rw [ug] at h ⊢
    by_cases h10 : 10 ≤ k
    · rw [if_pos h10]; exact ⟨rfl, rfl⟩
    · rw [if_neg h10] at h ⊢
      by_cases h9 : k = 9 ∧ 1 < x
      · rw [if_pos h9]; exact ⟨rfl, rfl⟩
      · rw [if_neg h9] at h ⊢
        by_cases h128 : x < 128
        · rw [if_pos h128] at h ⊢
          by_cases h0 : 0 < k ∧ x = 0
          · rw [if_pos h0]; exact ⟨rfl, rfl⟩
          · rw [if_neg h0] at h
            exact absurd rfl h
        · rw [if_neg h128] at h ⊢
          exact ug_err xs _ _ h
theorem uget_cases (xs : List Int) (hb : Byts xs) :
    (∃ n : Nat, uget xs = ((n : Int), ((uv n).length : Int), 0) ∧ (uv n).length ≤ xs.length ∧ Bq.ints (uv n) = xs.take (uv n).length ∧ n < 18446744073709551616) ∨ (∃ e : Int, ¬ e = 0 ∧ uget xs = (0, 0, e)) := by
  by_cases he : (uget xs).2.2 = 0
  · obtain ⟨n, h1, h2, h3, h4⟩ := uget_back xs hb he
    have h5 := (ug_bound xs 0 0 hb (by decide) (by decide)).2
    refine .inl ⟨n, ?_, h3, h4, ?_⟩
    · rw [← h1, ← h2, ← he]
    · have : (uget xs).1 < 18446744073709551616 := h5
      omega
  · obtain ⟨h1, h2⟩ := ug_err xs 0 0 he
    exact .inr ⟨(uget xs).2.2, he, by
      rw [show uget xs = ((uget xs).1, (uget xs).2.1, (uget xs).2.2) from rfl, show (uget xs).1 = 0 from h1, show (uget xs).2.1 = 0 from h2]⟩
theorem g_short (k acc : Nat) (hk : k < 10) : ug k acc [] = (0, 0, 6) := by rw [ug, if_pos hk]
theorem g_over (k acc : Nat) (xs : List Int) (hk : 10 ≤ k) : ug k acc xs = (0, 0, 9) := by
  cases xs with
  | nil => rw [ug, if_neg (by omega)]
  | cons x xs => rw [ug, if_pos hk]
end Go.Proofs.YtdhmabofncbohaaDoor.Pu
end
