import Derived.Test.YtdhmabofncbohaaDoorCLabelsBytesPU1
import Derived.Test.YtdhmabofncbohaaDoorCLabelsBytesPLCx6
import Derived.Test.YtdhmabofncbohaaDoorCLabelsBytesPLCx13
import Derived.Test.YtdhmabofncbohaaDoorCLabelsBytesPLCx5
import Derived.Test.YtdhmabofncbohaaDoorCLabelsBytesPLCx14
import Derived.Test.YtdhmabofncbohaaDoorCLabelsBytesPLCx15
import Derived.Test.YtdhmabofncbohaaDoorCLabelsBytesPLCx3
import Derived.Test.YtdhmabofncbohaaDoorCLabelsBytesH17
import Derived.Laws.BitsAllLaws
import Derived.Laws.Bits64
import Derived.WalkArith
import Derived.Test.YtdhmabofncbohaaDoorCLabelsBytesPU0
import Derived.Test.YtdhmabofncbohaaDoorCLabelsBytesPLCx23
import Derived.Test.YtdhmabofncbohaaDoorCLabelsBytesPLCx21
import Derived.Test.YtdhmabofncbohaaDoorCLabelsBytesPLCx24
import Derived.Test.YtdhmabofncbohaaDoorCLabelsBytesPLCx22
import Derived.Test.YtdhmabofncbohaaDoorCLabelsBytesPLCx25
import Derived.Test.YtdhmabofncbohaaDoorCLabelsBytesPLCx2
import Derived.Test.YtdhmabofncbohaaDoorCLabelsBytesO2
import Derived.Lib.LaidU8
import Derived.LaidMore
import Derived.Test.YtdhmabofncbohaaDoorCLabelsBytesPLCx1
import Derived.Test.YtdhmabofncbohaaDoorRows
import Derived.Lib.LaidU8T
namespace Go.Proofs.YtdhmabofncbohaaDoor.Bq
end Go.Proofs.YtdhmabofncbohaaDoor.Bq
section
namespace Go.Proofs.YtdhmabofncbohaaDoor.Pu
open Go Go.RowKit Go.Proofs.YtdhmabofncbohaaDoor Go.Proofs.YtdhmabofncbohaaDoor.PLC Go.Proofs.YtdhmabofncbohaaDoorW.PrintWords Go.Proofs.YtdhmabofncbohaaDoorW.PrintLast Go.Proofs.YtdhmabofncbohaaDoorW.PrintMore
set_option linter.unusedVariables false
theorem live_60 : manometerlaw05_live.f 60 = some true := by kernel_rfl
theorem live_ev : Ev manometerlaw05_live.f true := Ev.of manometerlaw05_live.mono live_60
end Go.Proofs.YtdhmabofncbohaaDoor.Pu
end
section
namespace Go.Proofs.YtdhmabofncbohaaDoor.Pu
open Go Go.RowKit Go.Proofs.YtdhmabofncbohaaDoor Go.Proofs.YtdhmabofncbohaaDoor.PLC Go.Proofs.YtdhmabofncbohaaDoorW.PrintWords Go.Proofs.YtdhmabofncbohaaDoorW.PrintLast Go.Proofs.YtdhmabofncbohaaDoorW.PrintMore
set_option linter.unusedVariables false
set_option linter.unusedSimpArgs false
abbrev Lab := S44
theorem rdn (l : List Lab) (n : Nat) : rd_T44 l (n : Int) = l.getD n z44 := by unfold rd_T44; rw [Int.toNat_natCast]
theorem dropS (l : List Lab) (n : Nat) (h : n < l.length) : l.drop n = l.getD n z44 :: l.drop (n + 1) := by
  rw [List.drop_eq_getElem_cons h, List.getD_eq_getElem?_getD, List.getElem?_eq_getElem h]
  rfl
def fewB (l : List Lab) : Bool := decide (l.length ≤ 60) && l.all (fun x => decide (x.f0.size ≤ 400) && decide (x.f1.size ≤ 400))
theorem few_l0 (l : List Lab) (hl : l.length ≤ 60) : ∀ (d n k : Nat), n + d = l.length → d < k → manometerlaw05_few.l0 k l (l.length : Int) (n : Int) = some ((l.drop n).all (fun x => decide (x.f0.size ≤ 400) && decide (x.f1.size ≤ 400)))
  | d, n, k, hd, hk => by
    obtain ⟨k, rfl⟩ := succ_of hk
    by_cases hlt : n < l.length
    · obtain ⟨d, rfl⟩ : ∃ e, d = e + 1 := ⟨d - 1, by omega⟩
      have ih := few_l0 l hl d (n + 1) k (by omega) (by omega)
      rw [dropS l n hlt, List.all_cons]
      simp only [manometerlaw05_few.l0]
      rw [if_pos (by omega), if_pos (by omega), if_pos (by omega), rdn, w1 n (by omega), ih]
      generalize l.getD n z44 = x
      by_cases h1 : x.f0.size ≤ 400
      · rw [if_neg (by omega), decide_eq_true h1, Bool.true_and]
        by_cases h2 : x.f1.size ≤ 400
        · rw [if_neg (by omega), decide_eq_true h2, Bool.true_and]
        · rw [if_pos (by omega), decide_eq_false h2]; rfl
      · rw [if_pos (by omega), decide_eq_false h1]; rfl
    · rw [List.drop_of_length_le (by omega)]
      simp only [manometerlaw05_few.l0]
      rw [if_neg (by omega)]
      rfl
theorem few_ev (l : List Lab) : Ev (fun k => manometerlaw05_few.f k l) (fewB l) := by
  unfold manometerlaw05_few.f fewB
  by_cases h : l.length ≤ 60
  · simp only [if_neg (show ¬ (l.length : Int) > 60 by omega), decide_eq_true h, Bool.true_and]
    exact Ev.at l.length (fun k hk => few_l0 l h l.length 0 k (by omega) hk)
  · simp only [if_pos (show (l.length : Int) > 60 by omega), decide_eq_false h, Bool.false_and]
    exact Ev.now _
theorem few_of {l : List Lab} (h : fewB l = true) : l.length ≤ 60 ∧ ∀ x ∈ l, x.f0.size ≤ 400 ∧ x.f1.size ≤ 400 := by
  unfold fewB at h
  simp only [Bool.and_eq_true, decide_eq_true_eq, List.all_eq_true] at h
  exact h
def pr (x : Lab) : Str × Str := (B x.f0, B x.f1)
theorem pr_inj {x y : Lab} (h : pr x = pr y) : x = y := by
  obtain ⟨a, b⟩ := x
  obtain ⟨c, d⟩ := y
  have h1 : a = c := B_inj (congrArg Prod.fst h)
  have h2 : b = d := B_inj (congrArg Prod.snd h)
  rw [h1, h2]
theorem prs_inj {a b : List Lab} (h : a.map pr = b.map pr) : a = b := by
  induction a generalizing b with
  | nil => cases b with
    | nil => rfl
    | cons _ _ => cases h
  | cons x a ih => cases b with
    | nil => cases h
    | cons y b =>
      injection h with h1 h2
      rw [pr_inj h1, ih h2]
def sameB (a b : List Lab) : Bool := decide (a.map pr = b.map pr)
theorem sameB_refl (a : List Lab) : sameB a a = true := decide_eq_true rfl
theorem ne_test (x y : Lab) : ((!(x.f0.toList == y.f0.toList) || (!(x.f1.toList == y.f1.toList))) = true) ↔ ¬ pr x = pr y := by
  rw [toList_B, toList_B, toList_B, toList_B]
  unfold pr
  rw [Prod.mk.injEq]
  simp only [Bool.or_eq_true, Bool.not_eq_true', beq_eq_false_iff_ne, ne_eq]
  exact Decidable.not_and_iff_or_not.symm
theorem Same_l0 (a b : List Lab) (hs : a.length ≤ 1000000000000) (hab : a.length = b.length) : ∀ (d n k : Nat), n + d = a.length → d < k →
    labels_Same.l0 k a b (a.length : Int) (n : Int) = some (decide ((a.drop n).map pr = (b.drop n).map pr)) ∧ manometerref05_Same.l0 k a b (a.length : Int) (n : Int) = some (decide ((a.drop n).map pr = (b.drop n).map pr))
  | d, n, k, hd, hk => by
    obtain ⟨k, rfl⟩ := succ_of hk
    by_cases hlt : n < a.length
    · obtain ⟨d, rfl⟩ : ∃ e, d = e + 1 := ⟨d - 1, by omega⟩
      obtain ⟨ih1, ih2⟩ := Same_l0 a b hs hab d (n + 1) k (by omega) (by omega)
      rw [dropS a n hlt, dropS b n (by omega), List.map_cons, List.map_cons]
      simp only [labels_Same.l0, manometerref05_Same.l0]
      rw [if_pos (by omega), if_pos (by omega), if_pos (by omega), if_pos (by omega), rdn, rdn, w1 n (by omega), ih1, ih2]
      rw [if_pos (show (n : Int) < (a.length : Int) by omega), if_pos (show (0 : Int) ≤ (n : Int) by omega), if_pos (show (n : Int) < (a.length : Int) by omega), if_pos (show (n : Int) < (b.length : Int) by omega)]
      generalize a.getD n z44 = x
      generalize b.getD n z44 = y
      by_cases h : pr x = pr y
      · have h1 := fun z => ((ne_test x y).1 z) h
        rw [if_neg h1, h]
        simp
      · rw [if_pos ((ne_test x y).2 h)]
        simp [h]
    · rw [List.drop_of_length_le (by omega), List.drop_of_length_le (by omega)]
      simp only [labels_Same.l0, manometerref05_Same.l0]
      rw [if_neg (by omega), if_neg (by omega)]
      exact ⟨rfl, rfl⟩
theorem Same_ev (a b : List Lab) (hs : a.length ≤ 1000000000000) : Ev (fun k => labels_Same.f k a b) (sameB a b) ∧ Ev (fun k => manometerref05_Same.f k a b) (sameB a b) := by
  unfold labels_Same.f manometerref05_Same.f
  by_cases h : a.length = b.length
  · simp only [if_pos (show (a.length : Int) = (b.length : Int) by omega)]
    exact ⟨Ev.at a.length (fun k hk => (Same_l0 a b hs h a.length 0 k (by omega) hk).1), Ev.at a.length (fun k hk => (Same_l0 a b hs h a.length 0 k (by omega) hk).2)⟩
  · have hf : sameB a b = false := decide_eq_false (fun he => h (by rw [prs_inj he]))
    simp only [if_neg (show ¬ (a.length : Int) = (b.length : Int) by omega), hf]
    exact ⟨Ev.now _, Ev.now _⟩
theorem less_irrefl : ∀ x : Str, Op.bytesLess x x = false
  | [] => rfl
  | a :: x => by
    simp only [Op.bytesLess, less_irrefl x]
    have h : ¬ a < a := by rw [UInt8.lt_iff_toNat_lt]; omega
    simp [h]
end Go.Proofs.YtdhmabofncbohaaDoor.Pu
end
section
namespace Go.Proofs.YtdhmabofncbohaaDoor.Pu
open Go Go.RowKit Go.Proofs.YtdhmabofncbohaaDoor Go.Proofs.YtdhmabofncbohaaDoor.PLC Go.Proofs.YtdhmabofncbohaaDoorW.PrintWords Go.Proofs.YtdhmabofncbohaaDoorW.PrintLast Go.Proofs.YtdhmabofncbohaaDoorW.PrintMore
set_option linter.unusedVariables false
set_option linter.unusedSimpArgs false
def Sm (l : List Lab) : Prop := l.length ≤ 100000 ∧ ∀ x ∈ l, x.f0.size ≤ 100000 ∧ x.f1.size ≤ 100000
theorem Sm.at {l : List Lab} (h : Sm l) (n : Nat) (hn : n < l.length) : (l.getD n z44).f0.size ≤ 100000 ∧ (l.getD n z44).f1.size ≤ 100000 := by
  rw [List.getD_eq_getElem?_getD, List.getElem?_eq_getElem hn]
  exact h.2 _ (List.getElem_mem hn)
theorem few_sm {l : List Lab} (h : fewB l = true) : Sm l := ⟨by have := (few_of h).1; omega, fun x hx => by have := (few_of h).2 x hx; omega⟩
def wrongB (e : Bool) (x : Lab) : Int := if namedB (B x.f0) = true then (if valuedB (B x.f1) = true then (if e = true then 0 else (if B x.f1 = [] then 51 else 0)) else 51) else 50
theorem wrong_f (x : Lab) (e : Bool) (h0 : x.f0.size ≤ 100000) (h1 : x.f1.size ≤ 100000) : labels_wrong.f x.f0 x.f1 e = some (wrongB e x) := by
  unfold labels_wrong.f wrongB
  rw [pNamed_f _ (by omega), pValued_f _ (by omega), toList_B]
  simp only [Option.bind_some]
  split <;> (try rfl)
  split <;> (try rfl)
  split <;> (try rfl)
  split <;> rfl
def rgt : Option Str → List Lab → Int
  | _, [] => 0
  | p, x :: l => if wrongB false x = 0 then (if (match p with | none => false | some q => Op.bytesLess (B x.f0) q || decide (B x.f0 = q)) = true then 53 else rgt (some (B x.f0)) l) else wrongB false x
def pv (l : List Lab) (n : Nat) : Option Str := if n = 0 then none else some (B (l.getD (n - 1) z44).f0)
def rightB (l : List Lab) : Int := if l.length ≤ 16 then rgt none l else 3
theorem wm1 (n : Nat) (h : n ≤ 9000000000000000000) : wrap64 (((n + 1 : Nat) : Int) - 1) = (n : Int) := wn (by omega) (by omega)
theorem Right_l0 (l : List Lab) (hs : Sm l) : ∀ (d n : Nat), n + d = l.length →
    Ev (fun k => labels_Right.l0 k l l (l.length : Int) (n : Int)) (rgt (pv l n) (l.drop n))
  | d, n, hd => by
    have hl := hs.1
    refine Ev.step (f := _) (fun k => by simp only [labels_Right.l0]; rfl) ?_
    by_cases hlt : n < l.length
    · obtain ⟨d, rfl⟩ : ∃ e, d = e + 1 := ⟨d - 1, by omega⟩
      have ih := Right_l0 l hs d (n + 1) (by omega)
      obtain ⟨s0, s1⟩ := hs.at n hlt
      have hp : pv l (n + 1) = some (B (l.getD n z44).f0) := by unfold pv; rw [if_neg (by omega)]; rfl
      rw [hp] at ih
      rw [dropS l n hlt]
      have e1 : (n : Int) < (l.length : Int) := by omega
      have e2 : (0 : Int) ≤ (n : Int) := by omega
      simp only [if_pos e1, if_pos e2, rdn, w1 n (by omega), wrong_f _ _ s0 s1, Option.bind_some, rgt]
      by_cases hw : wrongB false (l.getD n z44) = 0
      · simp only [if_pos hw]
        cases n with
        | zero =>
          simp only [if_neg (show ¬ ((0 : Nat) : Int) > 0 by omega)]
          exact ih
        | succ m =>
          have hq : pv l (m + 1) = some (B (l.getD m z44).f0) := by unfold pv; rw [if_neg (by omega)]; rfl
          have e3 : ((m + 1 : Nat) : Int) > 0 := by omega
          have e4 : (0 : Int) ≤ (m : Int) := by omega
          have e5 : (m : Int) < (l.length : Int) := by omega
          simp only [if_pos e3, wm1 m (by omega), if_pos e4, if_pos e5, rdn, hq, toList_B]
          by_cases h1 : Op.bytesLess (B (l.getD (m + 1) z44).f0) (B (l.getD m z44).f0) = true
          · simp only [h1, if_true, Bool.true_or]
            exact Ev.now _
          · have h1' : Op.bytesLess (B (l.getD (m + 1) z44).f0) (B (l.getD m z44).f0) = false := by simpa using h1
            simp only [h1', Bool.false_eq_true, if_false, Bool.false_or, decide_eq_true_eq]
            by_cases h2 : B (l.getD (m + 1) z44).f0 = B (l.getD m z44).f0
            · simp only [if_pos h2]
              exact Ev.now _
            · simp only [if_neg h2]
              exact ih
      · simp only [if_neg hw]
        exact Ev.now _
    · rw [List.drop_of_length_le (by omega)]
      simp only [if_neg (show ¬ (n : Int) < (l.length : Int) by omega)]
      exact Ev.now _
theorem RRight_l0 (l : List Lab) (hs : Sm l) : ∀ (d n : Nat), n + d = l.length →
    Ev (fun k => manometerref05_Right.l0 k l l (l.length : Int) (n : Int)) (rgt (pv l n) (l.drop n))
  | d, n, hd => by
    have hl := hs.1
    refine Ev.step (f := _) (fun k => by simp only [manometerref05_Right.l0]; rfl) ?_
    by_cases hlt : n < l.length
    · obtain ⟨d, rfl⟩ : ∃ e, d = e + 1 := ⟨d - 1, by omega⟩
      have ih := RRight_l0 l hs d (n + 1) (by omega)
      obtain ⟨s0, s1⟩ := hs.at n hlt
      have hp : pv l (n + 1) = some (B (l.getD n z44).f0) := by unfold pv; rw [if_neg (by omega)]; rfl
      rw [hp] at ih
      rw [dropS l n hlt]
      have e1 : (n : Int) < (l.length : Int) := by omega
      have e2 : (0 : Int) ≤ (n : Int) := by omega
      simp only [if_pos e1, if_pos e2, rdn, rgt, wrongB]
      refine Ev.bind (Named_ev _ (by omega)) ?_
      by_cases hn : namedB (B (l.getD n z44).f0) = true
      · simp only [if_pos hn]
        refine Ev.bind (Valued_ev _ (by omega)) ?_
        have j1t : Ev (fun k => manometerref05_Right.j1 k l (n : Int) l (l.length : Int) (n : Int) true (l.getD n z44).f0 (l.getD n z44).f1) 51 := by
          refine Ev.step (f := _) (fun k => by simp only [manometerref05_Right.j1]; rfl) ?_
          simp only [if_true]
          exact Ev.now _
        by_cases hv : valuedB (B (l.getD n z44).f1) = true
        · simp only [if_pos hv, toList_B, Bool.false_eq_true, if_false]
          by_cases he : B (l.getD n z44).f1 = []
          · have : (B (l.getD n z44).f1 == ([] : Str)) = true := by rw [he]; rfl
            simp only [this, if_pos he, if_neg (show ¬ (51 : Int) = 0 by omega)]
            exact j1t
          · have : (B (l.getD n z44).f1 == ([] : Str)) = false := by simpa using he
            simp only [this, if_neg he, if_true]
            refine Ev.step (f := _) (fun k => by simp only [manometerref05_Right.j1]; rfl) ?_
            simp only [Bool.false_eq_true, if_false, w1 n (by omega)]
            cases n with
            | zero =>
              simp only [if_neg (show ¬ ((0 : Nat) : Int) > 0 by omega)]
              exact ih
            | succ m =>
              have hq : pv l (m + 1) = some (B (l.getD m z44).f0) := by unfold pv; rw [if_neg (by omega)]; rfl
              have e3 : ((m + 1 : Nat) : Int) > 0 := by omega
              have e4 : (0 : Int) ≤ (m : Int) := by omega
              have e5 : (m : Int) < (l.length : Int) := by omega
              simp only [if_pos e3, wm1 m (by omega), if_pos e4, if_pos e5, rdn, hq, toList_B]
              by_cases h1 : Op.bytesLess (B (l.getD (m + 1) z44).f0) (B (l.getD m z44).f0) = true
              · simp only [h1, if_true, Bool.true_or]
                exact Ev.now _
              · have h1' : Op.bytesLess (B (l.getD (m + 1) z44).f0) (B (l.getD m z44).f0) = false := by simpa using h1
                simp only [h1', Bool.false_eq_true, if_false, Bool.false_or, decide_eq_true_eq]
                by_cases h2 : B (l.getD (m + 1) z44).f0 = B (l.getD m z44).f0
                · simp only [if_pos h2]
                  exact Ev.now _
                · simp only [if_neg h2]
                  exact ih
        · simp only [if_neg hv, if_neg (show ¬ (51 : Int) = 0 by omega)]
          exact j1t
      · simp only [if_neg hn, if_neg (show ¬ (50 : Int) = 0 by omega)]
        exact Ev.now _
    · rw [List.drop_of_length_le (by omega)]
      simp only [if_neg (show ¬ (n : Int) < (l.length : Int) by omega)]
      exact Ev.now _
theorem Right_ev (l : List Lab) (hs : Sm l) : Ev (fun k => labels_Right.f k l) (rightB l) ∧ Ev (fun k => manometerref05_Right.f k l) (rightB l) := by
  unfold labels_Right.f manometerref05_Right.f rightB
  by_cases h : l.length ≤ 16
  · simp only [if_neg (show ¬ (l.length : Int) > 16 by omega), if_pos h]
    exact ⟨Right_l0 l hs l.length 0 (by omega), RRight_l0 l hs l.length 0 (by omega)⟩
  · simp only [if_pos (show (l.length : Int) > 16 by omega), if_neg h]
    exact ⟨Ev.now _, Ev.now _⟩
abbrev lt (a b : ByteArray) : Prop := Op.bytesLess (B a) (B b) = true
theorem lt_irrefl (a : ByteArray) : ¬ lt a a := by unfold lt; rw [less_irrefl]; decide
def P (nm : ByteArray) (z : Lab) : Bool := decide (B z.f0 = B nm) && !decide (B z.f1 = [])
end Go.Proofs.YtdhmabofncbohaaDoor.Pu
end
section
namespace Go.Proofs.YtdhmabofncbohaaDoor
namespace Bq
set_option linter.unusedVariables false
set_option linter.unusedSimpArgs false
def uv (n : Nat) : List Nat := if n < 128 then [n] else (n % 128 + 128) :: uv (n / 128)
termination_by n
decreasing_by omega
theorem uv_small (n : Nat) (h : n < 128) : uv n = [n] := by rw [uv, if_pos h]
theorem uv_big (n : Nat) (h : 128 ≤ n) : uv n = (n % 128 + 128) :: uv (n / 128) := by rw [uv, if_neg (by omega)]
theorem uv_pos (n : Nat) : 0 < (uv n).length := by
  by_cases h : n < 128
  · simp [uv_small n h]
  · simp [uv_big n (by omega)]
theorem uv_len (k : Nat) : ∀ n, n < 128 ^ (k + 1) → (uv n).length ≤ k + 1 := by
  induction k with
  | zero => intro n h; rw [uv_small n (by simpa using h)]; simp
  | succ k ih =>
    intro n h
    by_cases h1 : n < 128
    · rw [uv_small n h1]; simp
    · rw [uv_big n (by omega), List.length_cons]
      have := ih (n / 128) (by rw [Nat.div_lt_iff_lt_mul (by decide)]; rwa [Nat.pow_succ] at h)
      omega
theorem uv_len10 (n : Nat) (h : n < 18446744073709551616) : (uv n).length ≤ 10 := uv_len 9 n (Nat.lt_of_lt_of_le h (by decide))
def ug : Nat → Nat → List Int → Int × Int × Int
  | at_, acc, [] => if at_ < 10 then (0, 0, 6) else (0, 0, 9)
  | at_, acc, x :: xs =>
    if 10 ≤ at_ then (0, 0, 9)
    else if at_ = 9 ∧ 1 < x then (0, 0, 9)
    else if x < 128 then (if 0 < at_ ∧ x = 0 then (0, 0, 8) else ((acc : Int) + x * 128 ^ at_, (at_ : Int) + 1, 0))
    else ug (at_ + 1) (acc + (x.toNat - 128) * 128 ^ at_) xs
def uget (xs : List Int) : Int × Int × Int := ug 0 0 xs
theorem wrap_u64' (n : Int) : IntKind.u64.wrap n = n % 18446744073709551616 := by simp [IntKind.wrap, IntKind.bits, IntKind.signed]
end Bq
end Go.Proofs.YtdhmabofncbohaaDoor
end
section
namespace Go.Proofs.YtdhmabofncbohaaDoor
open Bq
set_option linter.unusedVariables false
theorem p128 (k : Nat) : 128 ^ (k + 1) = 128 * 128 ^ k := by rw [Nat.pow_succ, Nat.mul_comm]
theorem ug_back : ∀ (xs : List Int) (k acc : Nat), (∀ x ∈ xs, 0 ≤ x ∧ x < 256) → (ug k acc xs).2.2 = 0 →
    ∃ n : Nat, (ug k acc xs).1 = ((acc + n * 128 ^ k : Nat) : Int) ∧ (ug k acc xs).2.1 = ((k + (uv n).length : Nat) : Int) ∧ (uv n).length ≤ xs.length ∧ ints (uv n) = xs.take (uv n).length ∧ (k = 0 ∨ 0 < n)
  | [], k, acc, _, he => by
    unfold ug at he
    split at he <;> exact absurd he (by decide)
  | x :: xs, k, acc, hb, he => by
    obtain ⟨hx0, hx1⟩ := hb x (by simp)
    obtain ⟨y, rfl⟩ := Int.eq_ofNat_of_zero_le hx0
    rw [ug] at he ⊢
    split at he
    · exact absurd he (by decide)
    · rename_i h10
      rw [if_neg h10]
      split at he
      · exact absurd he (by decide)
      · rename_i h9
        rw [if_neg h9]
        split at he
        · rename_i h128
          rw [if_pos h128]
          split at he
          · exact absurd he (by decide)
          · rename_i hform
            rw [if_neg hform]
            refine ⟨y, ?_, ?_, ?_, ?_, by omega⟩
            · simp
            · rw [uv_small y (by omega)]; simp
            · rw [uv_small y (by omega)]; simp
            · rw [uv_small y (by omega)]; simp [ints]
        · rename_i h128
          rw [if_neg h128]
          obtain ⟨n, h1, h2, h3, h4, h5⟩ := ug_back xs _ _ (fun z hz => hb z (by simp [hz])) he
          have hn : 0 < n := by omega
          have e1 : ((y : Int).toNat - 128) = y - 128 := by omega
          have e2 : (128 * n + (y - 128)) % 128 + 128 = y := by omega
          have e3 : (128 * n + (y - 128)) / 128 = n := by omega
          refine ⟨128 * n + (y - 128), ?_, ?_, ?_, ?_, .inr (by omega)⟩
          · have e4 : acc + (y - 128) * 128 ^ k + n * (128 * 128 ^ k) = acc + (128 * n + (y - 128)) * 128 ^ k := by
              rw [Nat.add_mul, Nat.mul_comm 128 n, Nat.mul_assoc]
              omega
            rw [h1, e1, p128, e4]
          · rw [h2, uv_big (128 * n + (y - 128)) (by omega), e3, List.length_cons, Nat.add_assoc k 1, Nat.add_comm 1]
          · rw [uv_big (128 * n + (y - 128)) (by omega), e3]
            simpa using h3
          · rw [uv_big (128 * n + (y - 128)) (by omega), e3, e2, List.length_cons, List.take_succ_cons, ← h4]
            rfl
theorem uget_back (xs : List Int) (hb : ∀ x ∈ xs, 0 ≤ x ∧ x < 256) (he : (uget xs).2.2 = 0) :
    ∃ n : Nat, (uget xs).1 = (n : Int) ∧ (uget xs).2.1 = ((uv n).length : Int) ∧ (uv n).length ≤ xs.length ∧ ints (uv n) = xs.take (uv n).length := by
  obtain ⟨n, h1, h2, h3, h4, _⟩ := ug_back xs 0 0 hb he
  exact ⟨n, by simpa [uget] using h1, by simpa [uget] using h2, h3, h4⟩
end Go.Proofs.YtdhmabofncbohaaDoor
end
section
namespace Go.Proofs.YtdhmabofncbohaaDoor.Pu
open Go Go.Proofs.YtdhmabofncbohaaDoor Bq
set_option linter.unusedVariables false
theorem byt_get {xs : List Int} (h : Byts xs) (i : Nat) (hi : i < xs.length) : 0 ≤ xs.getD i 0 ∧ xs.getD i 0 < 256 := by
  rw [List.getD_eq_getElem?_getD, List.getElem?_eq_getElem hi]
  exact h _ (List.getElem_mem hi)
theorem byt_drop {xs : List Int} (h : Byts xs) (n : Nat) : Byts (xs.drop n) := fun x hx => h x (List.mem_of_mem_drop hx)
theorem byt_take {xs : List Int} (h : Byts xs) (n : Nat) : Byts (xs.take n) := fun x hx => h x (List.mem_of_mem_take hx)
theorem drop_rd (xs : List Int) (i : Nat) (hi : i < xs.length) : xs.drop i = xs.getD i 0 :: xs.drop (i + 1) := by
  rw [List.drop_eq_getElem_cons hi, List.getD_eq_getElem?_getD, List.getElem?_eq_getElem hi]
  rfl
theorem wraps_u64n (n : Int) (h0 : 0 ≤ n) (h1 : n < 2 ^ 64) : IntKind.u64.wrap n = n := by
  rw [wrap_u64']
  omega
theorem comm_or (k : IntKind) (x y : Int) : bits .or k x y = bits .or k y x := by simp only [bits, BitVec.or_comm]
theorem and127n (x : Int) (h0 : 0 ≤ x) (h1 : x < 256) : bits .and .u8 x 127 = x % 128 := by
  have := bits_mask .u8 8 (by decide) wraps_u8 7 (by omega) x h0 (by omega)
  simpa using this
theorem or128n (x : Nat) (h1 : x < 256) : bits .or .u8 (x : Int) 128 = ((x % 128 + 128 : Nat) : Int) := by
  have e : (128 : Int) = ((128 : Nat) : Int) := rfl
  rw [e, Go.u8_or_nat x 128 h1 (by decide)]
  have h : ∀ a : Fin 256, (a.val ||| 128) = a.val % 128 + 128 := by decide +kernel
  rw [h ⟨x, h1⟩]
theorem pow7 (k : Nat) : (2 : Int) ^ (7 * k) = 128 ^ k := by rw [Int.pow_mul]; rfl
theorem val_bd (k acc : Nat) (x : Int) (hk : k < 10) (hx0 : 0 ≤ x) (hx1 : x < 256) (h9 : ¬ (k = 9 ∧ 1 < x)) (ha : acc < 128 ^ k) :
    (acc + (x % 128).toNat * 128 ^ k < 128 ^ (k + 1)) ∧ (acc + (x % 128).toNat * 128 ^ k < 18446744073709551616) := by
  have h1 : (x % 128).toNat < 128 := by omega
  constructor
  · rw [Nat.pow_succ]
    have : (x % 128).toNat * 128 ^ k ≤ 127 * 128 ^ k := Nat.mul_le_mul_right _ (by omega)
    omega
  · have hp : (128 : Nat) ^ k ≤ 128 ^ 9 := Nat.pow_le_pow_right (by decide) (by omega)
    rcases Nat.lt_or_ge k 9 with h | h
    · have hp2 : (128 : Nat) ^ k ≤ 128 ^ 8 := Nat.pow_le_pow_right (by decide) (by omega)
      have : (x % 128).toNat * 128 ^ k ≤ 127 * 128 ^ 8 := Nat.mul_le_mul (by omega) hp2
      omega
    · have hk9 : k = 9 := by omega
      subst hk9
      have : (x % 128).toNat ≤ 1 := by omega
      have : (x % 128).toNat * 128 ^ 9 ≤ 1 * 128 ^ 9 := Nat.mul_le_mul_right _ this
      omega
theorem val_shl (k : Nat) (y : Nat) : ((y : Int) * 2 ^ (7 * k)) = ((y * 128 ^ k : Nat) : Int) := by rw [pow7]; simp
theorem or_val (k acc : Nat) (x : Int) (hk : k < 10) (hx0 : 0 ≤ x) (hx1 : x < 256) (h9 : ¬ (k = 9 ∧ 1 < x)) (ha : acc < 128 ^ k) :
    bits .or .u64 (acc : Int) (IntKind.u64.wrap (x % 128 * 2 ^ (7 * k))) = ((acc + (x % 128).toNat * 128 ^ k : Nat) : Int) := by
  obtain ⟨h1, h2⟩ := val_bd k acc x hk hx0 hx1 h9 ha
  obtain ⟨y, hy⟩ := Int.eq_ofNat_of_zero_le (show 0 ≤ x % 128 by omega)
  rw [hy, Int.toNat_natCast] at h1 h2 ⊢
  rw [val_shl, wraps_u64n _ (by omega) (by omega), comm_or]
  have e3 : (2 : Nat) ^ (7 * k) = 128 ^ k := by rw [Nat.pow_mul]
  have e2 := bits_join .u64 64 (by decide) wraps_u64n (7 * k) ((y * 128 ^ k : Nat) : Int) (acc : Int) (by omega) (by
    have : y * 128 ^ k % 2 ^ (7 * k) = 0 := by rw [e3]; exact Nat.mul_mod_left _ _
    exact_mod_cast this) (by omega) (by omega) (by
    have : acc < 2 ^ (7 * k) := by rw [e3]; exact ha
    exact_mod_cast this) (by omega)
  rw [e2]
  omega
theorem add_val (k acc : Nat) (x : Int) (hk : k < 10) (hx0 : 0 ≤ x) (hx1 : x < 256) (h9 : ¬ (k = 9 ∧ 1 < x)) (ha : acc < 128 ^ k) :
    IntKind.u64.wrap ((acc : Int) + IntKind.u64.wrap (x % 128 * 2 ^ (7 * k))) = ((acc + (x % 128).toNat * 128 ^ k : Nat) : Int) := by
  obtain ⟨h1, h2⟩ := val_bd k acc x hk hx0 hx1 h9 ha
  obtain ⟨y, hy⟩ := Int.eq_ofNat_of_zero_le (show 0 ≤ x % 128 by omega)
  rw [hy, Int.toNat_natCast] at h1 h2 ⊢
  rw [val_shl, wraps_u64n ((y * 128 ^ k : Nat) : Int) (by omega) (by omega), wraps_u64n _ (by omega) (by omega)]
  omega
theorem sum_val (k acc : Nat) (x : Int) (hx0 : 0 ≤ x) (hx1 : x < 128) : ((acc + (x % 128).toNat * 128 ^ k : Nat) : Int) = (acc : Int) + x * 128 ^ k := by
  obtain ⟨y, rfl⟩ := Int.eq_ofNat_of_zero_le hx0
  rw [show ((y : Int) % 128).toNat = y by omega]
  simp
theorem more_val (k acc : Nat) (x : Int) (hx0 : 128 ≤ x) (hx1 : x < 256) : acc + (x % 128).toNat * 128 ^ k = acc + (x.toNat - 128) * 128 ^ k := by
  rw [show (x % 128).toNat = x.toNat - 128 by omega]
theorem g_stop9 (acc : Nat) (x : Int) (xs : List Int) (h : 1 < x) : ug 9 acc (x :: xs) = (0, 0, 9) := by rw [ug, if_neg (by decide), if_pos ⟨rfl, h⟩]
theorem g_form (k acc : Nat) (xs : List Int) (hk : k < 10) (h0 : 0 < k) : ug k acc (0 :: xs) = (0, 0, 8) := by rw [ug, if_neg (by omega), if_neg (by omega), if_pos (by decide), if_pos ⟨h0, rfl⟩]
theorem g_end (k acc : Nat) (x : Int) (xs : List Int) (hk : k < 10) (h9 : ¬ (k = 9 ∧ 1 < x)) (h128 : x < 128) (h0 : ¬ (0 < k ∧ x = 0)) : ug k acc (x :: xs) = ((acc : Int) + x * 128 ^ k, (k : Int) + 1, 0) := by
  rw [ug, if_neg (by omega), if_neg h9, if_pos h128, if_neg h0]
theorem g_more (k acc : Nat) (x : Int) (xs : List Int) (hk : k < 10) (h9 : ¬ (k = 9 ∧ 1 < x)) (h128 : ¬ x < 128) : ug k acc (x :: xs) = ug (k + 1) (acc + (x.toNat - 128) * 128 ^ k) xs := by
  rw [ug, if_neg (by omega), if_neg h9, if_neg h128]
theorem ug_bound : ∀ (xs : List Int) (k acc : Nat), Byts xs → k ≤ 10 → acc < 128 ^ k → 0 ≤ (ug k acc xs).1 ∧ (ug k acc xs).1 < 18446744073709551616
  | [], k, acc, _, _, _ => by
    unfold ug
    split <;> decide
  | x :: xs, k, acc, hb, hk, ha => by
    obtain ⟨x0, x1⟩ := hb x (by simp)
    by_cases h10 : 10 ≤ k
    · rw [ug, if_pos h10]
      decide
    · by_cases h9 : k = 9 ∧ 1 < x
      · rw [ug, if_neg h10, if_pos h9]
        decide
      · obtain ⟨v1, v2⟩ := val_bd k acc x (by omega) x0 x1 h9 ha
        by_cases h128 : x < 128
        · by_cases h0 : 0 < k ∧ x = 0
          · rw [ug, if_neg h10, if_neg h9, if_pos h128, if_pos h0]
            decide
          · rw [ug, if_neg h10, if_neg h9, if_pos h128, if_neg h0, ← sum_val k acc x x0 h128]
            exact ⟨by omega, by omega⟩
        · rw [ug, if_neg h10, if_neg h9, if_neg h128, ← more_val k acc x (by omega) x1]
          exact ug_bound xs (k + 1) _ (fun y hy => hb y (by simp [hy])) (by omega) v1
theorem ug_err : ∀ (xs : List Int) (k acc : Nat), ¬ (ug k acc xs).2.2 = 0 → (ug k acc xs).1 = 0 ∧ (ug k acc xs).2.1 = 0
  | [], k, acc, h => by
    unfold ug
    split <;> exact ⟨rfl, rfl⟩
  | x :: xs, k, acc, h => by
    rw [ug] at h ⊢
    by_cases h10 : 10 ≤ k
    · rw [if_pos h10]; exact ⟨rfl, rfl⟩
    · rw [if_neg h10] at h ⊢
      by_cases h9 : k = 9 ∧ 1 < x
      · rw [if_pos h9]; exact ⟨rfl, rfl⟩
      · rw [if_neg h9] at h ⊢
        by_cases h128 : x < 128
        · rw [if_pos h128] at h ⊢
          by_cases h0 : 0 < k ∧ x = 0
          · rw [if_pos h0]; exact ⟨rfl, rfl⟩
          · rw [if_neg h0] at h
            exact absurd rfl h
        · rw [if_neg h128] at h ⊢
          exact ug_err xs _ _ h
theorem uget_cases (xs : List Int) (hb : Byts xs) :
    (∃ n : Nat, uget xs = ((n : Int), ((uv n).length : Int), 0) ∧ (uv n).length ≤ xs.length ∧ Bq.ints (uv n) = xs.take (uv n).length ∧ n < 18446744073709551616) ∨ (∃ e : Int, ¬ e = 0 ∧ uget xs = (0, 0, e)) := by
  by_cases he : (uget xs).2.2 = 0
  · obtain ⟨n, h1, h2, h3, h4⟩ := uget_back xs hb he
    have h5 := (ug_bound xs 0 0 hb (by decide) (by decide)).2
    refine .inl ⟨n, ?_, h3, h4, ?_⟩
    · rw [← h1, ← h2, ← he]
    · have : (uget xs).1 < 18446744073709551616 := h5
      omega
  · obtain ⟨h1, h2⟩ := ug_err xs 0 0 he
    exact .inr ⟨(uget xs).2.2, he, by
      rw [show uget xs = ((uget xs).1, (uget xs).2.1, (uget xs).2.2) from rfl, show (uget xs).1 = 0 from h1, show (uget xs).2.1 = 0 from h2]⟩
theorem g_short (k acc : Nat) (hk : k < 10) : ug k acc [] = (0, 0, 6) := by rw [ug, if_pos hk]
theorem g_over (k acc : Nat) (xs : List Int) (hk : 10 ≤ k) : ug k acc xs = (0, 0, 9) := by
  cases xs with
  | nil => rw [ug, if_neg (by omega)]
  | cons x xs => rw [ug, if_pos hk]
end Go.Proofs.YtdhmabofncbohaaDoor.Pu
end
section
namespace Go.Proofs.YtdhmabofncbohaaDoor.Pu
open Go Go.RowKit Go.Proofs.YtdhmabofncbohaaDoor Go.Proofs.YtdhmabofncbohaaDoor.PLC Go.Proofs.YtdhmabofncbohaaDoorW.PrintWords Go.Proofs.YtdhmabofncbohaaDoorW.PrintLast Go.Proofs.YtdhmabofncbohaaDoorW.PrintMore Bq
set_option linter.unusedVariables false
set_option linter.unusedSimpArgs false
theorem rdI (xs : List Int) (n : Nat) : rd xs (n : Int) = xs.getD n 0 := by unfold rd; rw [Int.toNat_natCast]
theorem w7 (n : Nat) (h : n < 10) : IntKind.u64.wrap (wrap64 (7 * (n : Int))) = ((7 * n : Nat) : Int) := by
  rw [wn (n := 7 * n) (by omega) (by omega), wraps_u64n _ (by omega) (by omega)]
theorem shl7 (v : Int) (n : Nat) (h : n < 10) : shl .u64 v ((7 * n : Nat) : Int) = IntKind.u64.wrap (v * 2 ^ (7 * n)) := by
  unfold shl
  rw [Int.toNat_natCast, Nat.min_eq_left (by show 7 * n ≤ 64; omega)]
theorem Uv_j1 (b : List Int) (hb : Byts b) (hs : b.length ≤ 1000000000000) (n acc : Nat) (hn : n < 10) (hlt : n < b.length) (h9 : ¬ (n = 9 ∧ 1 < b.getD n 0)) (ha : acc < 128 ^ n)
    (ih : ∀ acc' : Nat, acc' < 128 ^ (n + 1) → Ev (fun k => bits_Uvarint.l0 k b (acc' : Int) ((n + 1 : Nat) : Int)) (ug (n + 1) acc' (b.drop (n + 1)))) :
    Ev (fun k => bits_Uvarint.j1 k b (acc : Int) (n : Int)) (ug n acc (b.drop n)) := by
  obtain ⟨x0, x1⟩ := byt_get hb n hlt
  rw [drop_rd b n hlt]
  refine Ev.step (f := _) (fun k => by simp only [bits_Uvarint.j1]; rfl) ?_
  have e1 : (0 : Int) ≤ (n : Int) := by omega
  have e2 : (n : Int) < (b.length : Int) := by omega
  have e4 : (0 : Int) ≤ ((7 * n : Nat) : Int) := by omega
  obtain ⟨v1, v2⟩ := val_bd n acc _ hn x0 x1 h9 ha
  have hv := or_val n acc _ hn x0 x1 h9 ha
  have hw : IntKind.u64.wrap (b.getD n 0 % 128) = b.getD n 0 % 128 := wraps_u64n _ (by omega) (by omega)
  have hm := and127n _ x0 x1
  simp only [if_pos e1, if_pos e2, rdI, w7 n hn, if_pos e4, hm, hw, shl7 _ n hn, hv, w1 n (by omega)]
  clear hv hw hm
  generalize b.getD n 0 = x at *
  by_cases h128 : x < 128
  · simp only [if_pos h128]
    by_cases hp : 0 < n
    · simp only [if_pos (show (n : Int) > 0 by omega)]
      by_cases hx : x = 0
      · simp only [if_pos hx]
        rw [hx, g_form n acc _ hn hp]
        exact Ev.now _
      · simp only [if_neg hx]
        rw [g_end n acc x _ hn h9 h128 (by omega), sum_val n acc x x0 h128]
        exact Ev.now _
    · simp only [if_neg (show ¬ (n : Int) > 0 by omega)]
      rw [g_end n acc x _ hn h9 h128 (by omega), sum_val n acc x x0 h128]
      exact Ev.now _
  · simp only [if_neg h128]
    rw [g_more n acc x _ hn h9 h128, ← more_val n acc x (by omega) x1]
    exact ih _ v1
theorem Uv_l0 (b : List Int) (hb : Byts b) (hs : b.length ≤ 1000000000000) : ∀ (d n acc : Nat), n + d = 10 → acc < 128 ^ n → Ev (fun k => bits_Uvarint.l0 k b (acc : Int) (n : Int)) (ug n acc (b.drop n))
  | d, n, acc, hd, ha => by
    refine Ev.step (f := _) (fun k => by simp only [bits_Uvarint.l0]; rfl) ?_
    by_cases hn : n < 10
    · obtain ⟨d, rfl⟩ : ∃ e, d = e + 1 := ⟨d - 1, by omega⟩
      simp only [if_pos (show (n : Int) < 10 by omega)]
      by_cases hlt : n < b.length
      · have e1 : (0 : Int) ≤ (n : Int) := by omega
        have e2 : (n : Int) < (b.length : Int) := by omega
        have ih := fun (acc' : Nat) h => Uv_l0 b hb hs d (n + 1) acc' (by omega) h
        simp only [if_neg (show ¬ (n : Int) ≥ (b.length : Int) by omega), if_pos e1, if_pos e2, rdI]
        by_cases h9 : n = 9
        · simp only [if_pos (show (n : Int) = 9 by omega)]
          by_cases hx : b.getD n 0 > 1
          · simp only [if_pos hx]
            rw [drop_rd b n hlt]
            subst h9
            rw [g_stop9 acc _ _ hx]
            exact Ev.now _
          · simp only [if_neg hx]
            exact Uv_j1 b hb hs n acc hn hlt (fun h => hx h.2) ha ih
        · simp only [if_neg (show ¬ (n : Int) = 9 by omega)]
          exact Uv_j1 b hb hs n acc hn hlt (fun h => h9 h.1) ha ih
      · simp only [if_pos (show (n : Int) ≥ (b.length : Int) by omega)]
        rw [List.drop_of_length_le (by omega), g_short n acc hn]
        exact Ev.now _
    · simp only [if_neg (show ¬ (n : Int) < 10 by omega)]
      rw [g_over n acc _ (by omega)]
      exact Ev.now _
theorem RUv_j1 (b : List Int) (hb : Byts b) (hs : b.length ≤ 1000000000000) (n acc : Nat) (hn : n < 10) (hlt : n < b.length) (h9 : ¬ (n = 9 ∧ 1 < b.getD n 0)) (ha : acc < 128 ^ n)
    (ih : ∀ acc' : Nat, acc' < 128 ^ (n + 1) → Ev (fun k => manometerref01_Uvarint.l0 k b (acc' : Int) ((n + 1 : Nat) : Int)) (ug (n + 1) acc' (b.drop (n + 1)))) :
    Ev (fun k => manometerref01_Uvarint.j1 k b (acc : Int) (n : Int) (n : Int) false) (ug n acc (b.drop n)) := by
  obtain ⟨x0, x1⟩ := byt_get hb n hlt
  rw [drop_rd b n hlt]
  refine Ev.step (f := _) (fun k => by simp only [manometerref01_Uvarint.j1]; rfl) ?_
  have e1 : (0 : Int) ≤ (n : Int) := by omega
  have e2 : (n : Int) < (b.length : Int) := by omega
  have e4 : (0 : Int) ≤ ((7 * n : Nat) : Int) := by omega
  obtain ⟨v1, v2⟩ := val_bd n acc _ hn x0 x1 h9 ha
  have hv := add_val n acc _ hn x0 x1 h9 ha
  have hw : IntKind.u64.wrap (b.getD n 0 % 128) = b.getD n 0 % 128 := wraps_u64n _ (by omega) (by omega)
  have hm : Int.tmod (b.getD n 0) 128 = b.getD n 0 % 128 := Int.tmod_eq_emod_of_nonneg x0
  simp only [Bool.false_eq_true, if_false, if_pos e1, if_pos e2, rdI, w7 n hn, if_pos e4, hm, hw, shl7 _ n hn, hv, w1 n (by omega)]
  clear hv hw hm
  generalize b.getD n 0 = x at *
  by_cases h128 : x < 128
  · simp only [if_pos h128]
    by_cases hp : 0 < n
    · simp only [if_pos (show (n : Int) > 0 by omega)]
      by_cases hx : x = 0
      · simp only [if_pos hx]
        rw [hx, g_form n acc _ hn hp]
        exact Ev.now _
      · simp only [if_neg hx]
        rw [g_end n acc x _ hn h9 h128 (by omega), sum_val n acc x x0 h128]
        exact Ev.now _
    · simp only [if_neg (show ¬ (n : Int) > 0 by omega)]
      rw [g_end n acc x _ hn h9 h128 (by omega), sum_val n acc x x0 h128]
      exact Ev.now _
  · simp only [if_neg h128]
    rw [g_more n acc x _ hn h9 h128, ← more_val n acc x (by omega) x1]
    exact ih _ v1
theorem RUv_l0 (b : List Int) (hb : Byts b) (hs : b.length ≤ 1000000000000) : ∀ (d n acc : Nat), n + d = 10 → n ≤ b.length → acc < 128 ^ n → Ev (fun k => manometerref01_Uvarint.l0 k b (acc : Int) (n : Int)) (ug n acc (b.drop n))
  | d, n, acc, hd, hnb, ha => by
    refine Ev.step (f := _) (fun k => by simp only [manometerref01_Uvarint.l0]; rfl) ?_
    by_cases hn : n < 10
    · obtain ⟨d, rfl⟩ : ∃ e, d = e + 1 := ⟨d - 1, by omega⟩
      simp only [if_pos (show (n : Int) < 10 by omega)]
      by_cases hlt : n < b.length
      · have e1 : (0 : Int) ≤ (n : Int) := by omega
        have e2 : (n : Int) < (b.length : Int) := by omega
        have ih := fun (acc' : Nat) h => RUv_l0 b hb hs d (n + 1) acc' (by omega) (by omega) h
        simp only [if_neg (show ¬ (n : Int) = (b.length : Int) by omega), if_pos e1, if_pos e2, rdI]
        by_cases h9 : n = 9
        · simp only [if_pos (show (n : Int) = 9 by omega)]
          by_cases hx : b.getD n 0 > 1
          · rw [decide_eq_true hx]
            refine Ev.step (f := _) (fun k => by simp only [manometerref01_Uvarint.j1]; rfl) ?_
            simp only [if_true]
            rw [drop_rd b n hlt]
            subst h9
            rw [g_stop9 acc _ _ hx]
            exact Ev.now _
          · rw [decide_eq_false hx]
            exact RUv_j1 b hb hs n acc hn hlt (fun h => hx h.2) ha ih
        · simp only [if_neg (show ¬ (n : Int) = 9 by omega)]
          exact RUv_j1 b hb hs n acc hn hlt (fun h => h9 h.1) ha ih
      · simp only [if_pos (show (n : Int) = (b.length : Int) by omega)]
        rw [List.drop_of_length_le (by omega), g_short n acc hn]
        exact Ev.now _
    · simp only [if_neg (show ¬ (n : Int) < 10 by omega)]
      rw [g_over n acc _ (by omega)]
      exact Ev.now _
theorem Uvarint_ev (b : List Int) (hb : Byts b) (hs : b.length ≤ 1000000000000) : Ev (fun k => bits_Uvarint.f k b) (uget b) ∧ Ev (fun k => manometerref01_Uvarint.f k b) (uget b) :=
  ⟨Uv_l0 b hb hs 10 0 0 rfl (by decide), RUv_l0 b hb hs 10 0 0 rfl (Nat.zero_le _) (by decide)⟩
theorem PutU_l0 (n : Nat) : ∀ acc : List Int, acc.length + (uv n).length ≤ 1000000000000 → Ev (fun k => bits_PutUvarint.l0 k (n : Int) acc) (acc ++ Bq.ints (uv n)) := by
  induction n using Nat.strongRecOn with
  | _ n ih =>
    intro acc hl
    refine Ev.step (f := _) (fun k => by simp only [bits_PutUvarint.l0]; rfl) ?_
    have hp := uv_pos n
    simp only [if_pos (show acc.length < 140737488355328 by omega)]
    by_cases h : n < 128
    · simp only [if_neg (show ¬ (n : Int) > 127 by omega)]
      rw [uv_small n h, show (n : Int) % 256 = (n : Int) by omega]
      exact Ev.now _
    · simp only [if_pos (show (n : Int) > 127 by omega)]
      have e : (n : Int) % 256 = ((n % 256 : Nat) : Int) := by omega
      rw [uv_big n (by omega), List.length_cons] at hl
      rw [e, or128n _ (by omega), show n % 256 % 128 = n % 128 by omega, show (n : Int) / 128 = ((n / 128 : Nat) : Int) by omega]
      have := ih (n / 128) (by omega) (acc ++ [((n % 128 + 128 : Nat) : Int)]) (by rw [List.length_append, List.length_singleton]; omega)
      rw [List.append_assoc] at this
      rw [uv_big n (by omega)]
      exact this
theorem RPutU_l0 (n : Nat) : ∀ acc : List Int, n < 18446744073709551616 → acc.length + (uv n).length ≤ 1000000000000 → Ev (fun k => manometerref01_PutUvarint.l0 k (n : Int) acc) (acc ++ Bq.ints (uv n)) := by
  induction n using Nat.strongRecOn with
  | _ n ih =>
    intro acc hn hl
    refine Ev.step (f := _) (fun k => by simp only [manometerref01_PutUvarint.l0]; rfl) ?_
    have hp := uv_pos n
    simp only [if_pos (show acc.length < 140737488355328 by omega)]
    by_cases h : n < 128
    · simp only [if_neg (show ¬ (n : Int) ≥ 128 by omega)]
      rw [uv_small n h, show (n : Int) % 256 = (n : Int) by omega]
      exact Ev.now _
    · simp only [if_pos (show (n : Int) ≥ 128 by omega)]
      rw [uv_big n (by omega), List.length_cons] at hl
      rw [Int.tmod_eq_emod_of_nonneg (by omega), Int.tdiv_eq_ediv_of_nonneg (by omega), show ((n : Int) % 128 + 128) % 256 = ((n % 128 + 128 : Nat) : Int) by omega, show (n : Int) / 128 = ((n / 128 : Nat) : Int) by omega, wraps_u64n _ (by omega) (by omega)]
      have := ih (n / 128) (by omega) (acc ++ [((n % 128 + 128 : Nat) : Int)]) (by omega) (by rw [List.length_append, List.length_singleton]; omega)
      rw [List.append_assoc] at this
      rw [uv_big n (by omega)]
      exact this
theorem PutUvarint_ev (n : Nat) (hn : n < 18446744073709551616) : Ev (fun k => bits_PutUvarint.f k (n : Int)) (Bq.ints (uv n)) ∧ Ev (fun k => manometerref01_PutUvarint.f k (n : Int)) (Bq.ints (uv n)) := by
  have h := uv_len10 n hn
  have h1 := PutU_l0 n [] (by simp; omega)
  have h2 := RPutU_l0 n [] hn (by simp; omega)
  exact ⟨h1, h2⟩
theorem rdL (l : List (List Int)) (n : Nat) : rd_L5 l (n : Int) = l.getD n [] := by unfold rd_L5; rw [Int.toNat_natCast]
theorem Join_l0 (ps : List (List Int)) (hp : ps.length ≤ 1000000) : ∀ (d n : Nat) (acc : List Int), n + d = ps.length → acc.length + (ps.drop n).flatten.length ≤ 100000000000 → Ev (fun k => manometerref01_Join.l0 k acc ps (ps.length : Int) (n : Int)) (acc ++ (ps.drop n).flatten)
  | d, n, acc, hd, hl => by
    refine Ev.step (f := _) (fun k => by simp only [manometerref01_Join.l0]; rfl) ?_
    by_cases hlt : n < ps.length
    · obtain ⟨d, rfl⟩ : ∃ e, d = e + 1 := ⟨d - 1, by omega⟩
      have e1 : (n : Int) < (ps.length : Int) := by omega
      have e2 : (0 : Int) ≤ (n : Int) := by omega
      have e3 : ps.drop n = ps.getD n [] :: ps.drop (n + 1) := by
        rw [List.drop_eq_getElem_cons hlt, List.getD_eq_getElem?_getD, List.getElem?_eq_getElem hlt]
        rfl
      rw [e3, List.flatten_cons, List.length_append] at hl
      have e4 : acc.length + (ps.getD n []).length < 140737488355328 := by omega
      simp only [if_pos e1, if_pos e2, rdL, if_pos e4, w1 n (by omega)]
      rw [e3, List.flatten_cons, ← List.append_assoc]
      exact Join_l0 ps hp d (n + 1) _ (by omega) (by rw [List.length_append]; omega)
    · simp only [if_neg (show ¬ (n : Int) < (ps.length : Int) by omega)]
      rw [List.drop_of_length_le (by omega)]
      simp only [List.flatten_nil, List.append_nil]
      exact Ev.now _
theorem Join_ev (ps : List (List Int)) (hp : ps.length ≤ 1000000) (hl : ps.flatten.length ≤ 100000000000) : Ev (fun k => manometerref01_Join.f k ps) ps.flatten := by
  have := Join_l0 ps hp ps.length 0 [] (by omega) (by simpa using hl)
  simpa [manometerref01_Join.f] using this
theorem Equal_l0 (a b : List Int) (hs : a.length ≤ 1000000000000) (hab : a.length = b.length) : ∀ (d n : Nat), n + d = a.length → Ev (fun k => manometerref01_Equal.l0 k a b (a.length : Int) (n : Int)) (decide (a.drop n = b.drop n))
  | d, n, hd => by
    refine Ev.step (f := _) (fun k => by simp only [manometerref01_Equal.l0]; rfl) ?_
    by_cases hlt : n < a.length
    · obtain ⟨d, rfl⟩ : ∃ e, d = e + 1 := ⟨d - 1, by omega⟩
      have e1 : (n : Int) < (a.length : Int) := by omega
      have e2 : (0 : Int) ≤ (n : Int) := by omega
      have e3 : (n : Int) < (b.length : Int) := by omega
      simp only [if_pos e1, if_pos e2, if_pos e3, rdI, w1 n (by omega)]
      rw [drop_rd a n hlt, drop_rd b n (by omega)]
      by_cases hx : a.getD n 0 = b.getD n 0
      · simp only [if_pos hx]
        rw [show decide (a.getD n 0 :: a.drop (n + 1) = b.getD n 0 :: b.drop (n + 1)) = decide (a.drop (n + 1) = b.drop (n + 1)) by rw [hx]; simp]
        exact Equal_l0 a b hs hab d (n + 1) (by omega)
      · simp only [if_neg hx]
        rw [decide_eq_false (fun h => hx (List.cons.inj h).1)]
        exact Ev.now _
    · simp only [if_neg (show ¬ (n : Int) < (a.length : Int) by omega)]
      rw [List.drop_of_length_le (by omega), List.drop_of_length_le (by omega)]
      exact Ev.now _
theorem Equal_ev (a b : List Int) (hs : a.length ≤ 1000000000000) : Ev (fun k => manometerref01_Equal.f k a b) (decide (a = b)) := by
  unfold manometerref01_Equal.f
  by_cases h : a.length = b.length
  · simp only [if_pos (show (a.length : Int) = (b.length : Int) by omega)]
    have := Equal_l0 a b hs h a.length 0 (by omega)
    simpa using this
  · simp only [if_neg (show ¬ (a.length : Int) = (b.length : Int) by omega)]
    rw [decide_eq_false (fun e => h (by rw [e]))]
    exact Ev.now _
end Go.Proofs.YtdhmabofncbohaaDoor.Pu
end
section
namespace Go.Proofs.YtdhmabofncbohaaDoor.Pu
open Go Go.RowKit Go.Proofs.YtdhmabofncbohaaDoor Go.Proofs.YtdhmabofncbohaaDoor.PLC Go.Proofs.YtdhmabofncbohaaDoorW.PrintWords Go.Proofs.YtdhmabofncbohaaDoorW.PrintLast Go.Proofs.YtdhmabofncbohaaDoorW.PrintMore
set_option linter.unusedVariables false
set_option linter.unusedSimpArgs false
def hb (x : Lab) : List Int := bytesOf x.f0 ++ ([255] ++ (bytesOf x.f1 ++ [255]))
theorem byt_nil : Byts [] := fun x hx => by simp at hx
end Go.Proofs.YtdhmabofncbohaaDoor.Pu
end
section
namespace Go.Proofs.YtdhmabofncbohaaDoor.Pu
open Go Go.RowKit Go.Proofs.YtdhmabofncbohaaDoor Go.Proofs.YtdhmabofncbohaaDoor.PLC Go.Proofs.YtdhmabofncbohaaDoorW.PrintWords Go.Proofs.YtdhmabofncbohaaDoorW.PrintLast Go.Proofs.YtdhmabofncbohaaDoorW.PrintMore
set_option linter.unusedVariables false
set_option linter.unusedSimpArgs false
def ints (l : Str) : List Int := l.map fun b => (b.toNat : Int)
theorem ints_length (l : Str) : (ints l).length = l.length := List.length_map _
theorem B_nums (l : Str) : B (strOfNums (ints l)) = l := by
  unfold B strOfNums ints
  simp [Function.comp_def]
theorem u8eq (c : UInt8) (m : Nat) (hm : m < 256) : ((c.toNat : Int) = (m : Int)) ↔ c = UInt8.ofNat m := by
  constructor
  · intro h
    apply UInt8.toNat_inj.1
    simp
    omega
  · rintro rfl
    simp
    omega
theorem c34 (c : UInt8) : ((c.toNat : Int) = 34) ↔ c = 34 := u8eq c 34 (by decide)
theorem c10 (c : UInt8) : ((c.toNat : Int) = 10) ↔ c = 10 := u8eq c 10 (by decide)
end Go.Proofs.YtdhmabofncbohaaDoor.Pu
end
section
namespace Go.Proofs.YtdhmabofncbohaaDoor.Pu
open Go Go.RowKit Go.Proofs.YtdhmabofncbohaaDoor Go.Proofs.YtdhmabofncbohaaDoor.PLC Go.Proofs.YtdhmabofncbohaaDoorW.PrintWords Go.Proofs.YtdhmabofncbohaaDoorW.PrintLast Go.Proofs.YtdhmabofncbohaaDoorW.PrintMore Bq
set_option linter.unusedVariables false
set_option linter.unusedSimpArgs false
def sizedL (s : ByteArray) : List Int := Bq.ints (uv s.size) ++ bytesOf s
def labL (x : Lab) : List Int := sizedL x.f0 ++ sizedL x.f1
def putL (l : List Lab) : List Int := Bq.ints (uv l.length) ++ l.flatMap labL
def putB (l : List Lab) : List Int × Int := if rightB l = 0 then (putL l, 0) else ([], rightB l)
theorem sizedL_len (s : ByteArray) (hs : s.size ≤ 100000) : (sizedL s).length ≤ 10 + s.size := by
  unfold sizedL
  rw [List.length_append, Bq.ints_length, bytesOf_length]
  have := uv_len10 s.size (by omega)
  omega
theorem sized_ev (s : ByteArray) (acc : List Int) (hs : s.size ≤ 100000) (ha : acc.length ≤ 100000000000) :
    Ev (fun k => labels_sized.f k acc s) (acc ++ sizedL s) ∧ Ev (fun k => manometerref05_sized.f k s) (sizedL s) := by
  obtain ⟨h1, h2⟩ := PutUvarint_ev s.size (by omega)
  have hu := uv_len10 s.size (by omega)
  have hw : IntKind.u64.wrap (s.size : Int) = (s.size : Int) := wraps_u64n _ (by omega) (by omega)
  have b0 := bytesOf_length s
  have l0 := Bq.ints_length (uv s.size)
  unfold labels_sized.f manometerref05_sized.f
  rw [hw]
  constructor
  · refine h1.bind ?_
    have c1 : acc.length + (Bq.ints (uv s.size)).length < 140737488355328 := by omega
    have c2 : (acc ++ Bq.ints (uv s.size)).length + s.size < 140737488355328 := by rw [List.length_append]; omega
    simp only [if_pos c1, Option.bind_some, if_pos c2]
    unfold sizedL
    rw [← List.append_assoc]
    exact Ev.now _
  · refine h2.bind ?_
    have c1 : s.size ≤ 9223372036854775807 := by omega
    simp only [if_pos c1]
    have hj := Join_ev [Bq.ints (uv s.size), bytesOf s] (by simp) (by simp [b0, l0]; omega)
    have ej : [Bq.ints (uv s.size), bytesOf s].flatten = sizedL s := by unfold sizedL; simp
    rw [ej] at hj
    exact hj.bind (Ev.now _)
theorem labL_len (x : Lab) (h0 : x.f0.size ≤ 100000) (h1 : x.f1.size ≤ 100000) : (labL x).length ≤ 200020 := by
  unfold labL
  rw [List.length_append]
  have := sizedL_len x.f0 h0
  have := sizedL_len x.f1 h1
  omega
theorem Put_l0 (l : List Lab) (hs : Sm l) : ∀ (d n : Nat) (acc : List Int), n + d = l.length → acc.length ≤ 300000 * (n + 1) →
    Ev (fun k => labels_Put.l0 k acc l (l.length : Int) (n : Int)) (acc ++ (l.drop n).flatMap labL, 0) ∧ Ev (fun k => manometerref05_Put.l0 k acc l (l.length : Int) (n : Int)) (acc ++ (l.drop n).flatMap labL, 0)
  | d, n, acc, hd, ha => by
    have hl := hs.1
    by_cases hlt : n < l.length
    · obtain ⟨d, rfl⟩ : ∃ e, d = e + 1 := ⟨d - 1, by omega⟩
      obtain ⟨s0, s1⟩ := hs.at n hlt
      have hbl := labL_len _ s0 s1
      have ih := Put_l0 l hs d (n + 1) (acc ++ labL (l.getD n z44)) (by omega) (by rw [List.length_append]; omega)
      rw [dropS l n hlt, List.flatMap_cons, ← List.append_assoc]
      have e1 : (n : Int) < (l.length : Int) := by omega
      have e2 : (0 : Int) ≤ (n : Int) := by omega
      generalize hx : l.getD n z44 = x at *
      have q0 := sizedL_len x.f0 s0
      have q1 := sizedL_len x.f1 s1
      obtain ⟨a1, a2⟩ := sized_ev x.f0 acc s0 (by omega)
      obtain ⟨b1, b2⟩ := sized_ev x.f1 (acc ++ sizedL x.f0) s1 (by rw [List.length_append]; omega)
      constructor
      · refine Ev.step (f := _) (fun k => by simp only [labels_Put.l0]; rfl) ?_
        simp only [if_pos e1, if_pos e2, rdn, hx, w1 n (by omega)]
        refine a1.bind ?_
        refine b1.bind ?_
        have e : acc ++ sizedL x.f0 ++ sizedL x.f1 = acc ++ labL x := by unfold labL; simp
        rw [e]
        exact ih.1
      · refine Ev.step (f := _) (fun k => by simp only [manometerref05_Put.l0]; rfl) ?_
        simp only [if_pos e1, if_pos e2, rdn, hx, w1 n (by omega)]
        refine a2.bind ?_
        refine b2.bind ?_
        have hj := Join_ev [acc, sizedL x.f0, sizedL x.f1] (by simp) (by simp; omega)
        have ej : [acc, sizedL x.f0, sizedL x.f1].flatten = acc ++ labL x := by unfold labL; simp
        rw [ej] at hj
        exact hj.bind ih.2
    · have e1 : ¬ (n : Int) < (l.length : Int) := by omega
      rw [List.drop_of_length_le (by omega), List.flatMap_nil, List.append_nil]
      constructor
      · refine Ev.step (f := _) (fun k => by simp only [labels_Put.l0]; rfl) ?_
        simp only [if_neg e1]
        exact Ev.now _
      · refine Ev.step (f := _) (fun k => by simp only [manometerref05_Put.l0]; rfl) ?_
        simp only [if_neg e1]
        exact Ev.now _
theorem Put_ev (l : List Lab) (hs : Sm l) : Ev (fun k => labels_Put.f k l) (putB l) ∧ Ev (fun k => manometerref05_Put.f k l) (putB l) := by
  have hl := hs.1
  obtain ⟨r1, r2⟩ := Right_ev l hs
  obtain ⟨u1, u2⟩ := PutUvarint_ev l.length (by omega)
  have hu := uv_len10 l.length (by omega)
  obtain ⟨h1, h2⟩ := Put_l0 l hs l.length 0 (Bq.ints (uv l.length)) (by omega) (by rw [Bq.ints_length]; omega)
  have hw : IntKind.u64.wrap (l.length : Int) = (l.length : Int) := wraps_u64n _ (by omega) (by omega)
  unfold labels_Put.f manometerref05_Put.f putB putL
  rw [hw]
  constructor
  · refine r1.bind ?_
    by_cases e : rightB l = 0
    · simp only [if_pos e]
      exact u1.bind (by simpa using h1)
    · simp only [if_neg e]; exact Ev.now _
  · refine r2.bind ?_
    by_cases e : rightB l = 0
    · simp only [if_pos e]
      exact u2.bind (by simpa using h2)
    · simp only [if_neg e]; exact Ev.now _
theorem byt_str {xs : List Int} (h : Byts xs) : ∃ l : Str, xs = ints l := by
  refine ⟨xs.map fun x => UInt8.ofNat x.toNat, ?_⟩
  unfold ints
  rw [List.map_map]
  conv => lhs; rw [← List.map_id xs]
  apply List.map_congr_left
  intro x hx
  have := h x hx
  simp only [Function.comp, id, UInt8.toNat_ofNat']
  omega
theorem nums_size {xs : List Int} (h : Byts xs) : (strOfNums xs).size = xs.length := by
  obtain ⟨l, rfl⟩ := byt_str h
  rw [← B_length, B_nums, ints_length]
def tookL (r : List Int) (most : Nat) : ByteArray × List Int × Int :=
  if (uget r).2.2 = 0 then
    (if (uget r).1 > (most : Int) then ((⟨#[]⟩ : ByteArray), [], 3)
    else if (uget r).1 > (r.length : Int) - (uget r).2.1 then ((⟨#[]⟩ : ByteArray), [], 6)
    else (strOfNums ((r.drop (uget r).2.1.toNat).take (uget r).1.toNat), r.drop ((uget r).2.1.toNat + (uget r).1.toNat), 0))
  else ((⟨#[]⟩ : ByteArray), [], (uget r).2.2)
theorem took_err {r : List Int} {most : Nat} {e : Int} (he : ¬ e = 0) (h : uget r = (0, 0, e)) : tookL r most = ((⟨#[]⟩ : ByteArray), [], e) := by
  unfold tookL
  rw [h, if_neg he]
theorem took_num {r : List Int} {most n k : Nat} (h : uget r = ((n : Int), (k : Int), 0)) (hk : k ≤ r.length) :
    tookL r most = if most < n then ((⟨#[]⟩ : ByteArray), [], 3) else if r.length < k + n then ((⟨#[]⟩ : ByteArray), [], 6) else (strOfNums ((r.drop k).take n), r.drop (k + n), 0) := by
  unfold tookL
  rw [h]
  simp only [if_true, Int.toNat_natCast]
  by_cases h1 : most < n
  · rw [if_pos (by omega), if_pos h1]
  · rw [if_neg (by omega), if_neg h1]
    by_cases h2 : r.length < k + n
    · rw [if_pos (by omega), if_pos h2]
    · rw [if_neg (by omega), if_neg h2]
theorem took_ok (r : List Int) (hb : Byts r) (most : Nat) : (tookL r most).2.1.length ≤ r.length ∧ Byts (tookL r most).2.1 ∧ (tookL r most).1.size ≤ most := by
  rcases uget_cases r hb with ⟨n, hu, hk, _, _⟩ | ⟨e, he, hu⟩
  · rw [took_num hu hk]
    split
    · exact ⟨Nat.zero_le _, byt_nil, Nat.zero_le _⟩
    · split
      · exact ⟨Nat.zero_le _, byt_nil, Nat.zero_le _⟩
      · refine ⟨by rw [List.length_drop]; omega, byt_drop hb _, ?_⟩
        rw [nums_size (byt_take (byt_drop hb _) _), List.length_take]
        omega
  · rw [took_err he hu]
    exact ⟨Nat.zero_le _, byt_nil, Nat.zero_le _⟩
theorem took_ev (r : List Int) (hb : Byts r) (hs : r.length ≤ 1000000000) (most : Nat) (hm : most ≤ 1000000) : Ev (fun k => manometerref05_took.f k r (most : Int)) (tookL r most) := by
  unfold manometerref05_took.f
  refine (Uvarint_ev r hb (by omega)).2.bind ?_
  rcases uget_cases r hb with ⟨n, hu, hk, _, _⟩ | ⟨e, he, hu⟩
  · rw [took_num hu hk, hu]
    simp only [if_true]
    generalize (uv n).length = q at *
    by_cases h1 : most < n
    · simp only [if_pos (show (n : Int) > (most : Int) by omega), if_pos h1]
      exact Ev.now _
    · have e1 : IntKind.u64.wrap (wrap64 ((r.length : Int) - (q : Int))) = (r.length : Int) - (q : Int) := by rw [w64 (by omega) (by omega), wraps_u64n _ (by omega) (by omega)]
      have e2 : wrap64 ((q : Int) + wrap64 (n : Int)) = ((q + n : Nat) : Int) := by rw [w64 (x := (n : Int)) (by omega) (by omega)]; exact wn rfl (by omega)
      simp only [if_neg (show ¬ (n : Int) > (most : Int) by omega), if_neg h1, e1, e2]
      by_cases h2 : r.length < q + n
      · simp only [if_pos (show (n : Int) > (r.length : Int) - (q : Int) by omega), if_pos h2]
        exact Ev.now _
      · simp only [if_neg (show ¬ (n : Int) > (r.length : Int) - (q : Int) by omega), if_neg h2, if_pos (show (0 : Int) ≤ (q : Int) by omega), if_pos (show (q : Int) ≤ ((q + n : Nat) : Int) by omega), if_pos (show ((q + n : Nat) : Int) ≤ (r.length : Int) by omega), if_pos (show (0 : Int) ≤ ((q + n : Nat) : Int) by omega), Int.toNat_natCast]
        rw [List.drop_take, show q + n - q = n by omega]
        exact Ev.now _
  · rw [took_err he hu, hu]
    simp only [if_neg he]
    exact Ev.now _
theorem text_ev (b : List Int) (hb : Byts b) (hs : b.length ≤ 1000000000) (a : Nat) (ha : a ≤ b.length) (most : Nat) (hm : most ≤ 1000000) : Ev (fun k => labels_text.f k b (a : Int) (most : Int)) ((tookL (b.drop a) most).1, if (tookL (b.drop a) most).2.2 = 0 then ((b.length - (tookL (b.drop a) most).2.1.length : Nat) : Int) else 0, (tookL (b.drop a) most).2.2) := by
  unfold labels_text.f
  have hl : (b.drop a).length = b.length - a := List.length_drop ..
  simp only [if_pos (show (0 : Int) ≤ (a : Int) by omega), if_pos (show (a : Int) ≤ (b.length : Int) by omega), Int.toNat_natCast]
  have hwm : IntKind.u64.wrap (most : Int) = (most : Int) := wraps_u64n _ (by omega) (by omega)
  refine (Uvarint_ev (b.drop a) (byt_drop hb a) (by omega)).1.bind ?_
  rcases uget_cases (b.drop a) (byt_drop hb a) with ⟨n, hu, hk, _, _⟩ | ⟨e, he, hu⟩
  · rw [took_num hu hk, hu]
    simp only [if_true, hwm]
    generalize (uv n).length = q at *
    rw [hl] at hk ⊢
    by_cases h1 : most < n
    · simp only [if_pos (show (n : Int) > (most : Int) by omega), if_pos h1]
      exact Ev.now _
    · have e1 : wrap64 ((a : Int) + (q : Int)) = ((a + q : Nat) : Int) := wn rfl (by omega)
      have e2 : wrap64 (((a + q : Nat) : Int) + wrap64 (n : Int)) = ((a + q + n : Nat) : Int) := by rw [w64 (x := (n : Int)) (by omega) (by omega)]; exact wn rfl (by omega)
      simp only [if_neg (show ¬ (n : Int) > (most : Int) by omega), if_neg h1, e1, e2]
      by_cases h2 : b.length - a < q + n
      · simp only [if_pos (show ((a + q + n : Nat) : Int) > (b.length : Int) by omega), if_pos h2]
        exact Ev.now _
      · simp only [if_neg (show ¬ ((a + q + n : Nat) : Int) > (b.length : Int) by omega), if_neg h2, if_pos (show (0 : Int) ≤ ((a + q : Nat) : Int) by omega), if_pos (show ((a + q : Nat) : Int) ≤ ((a + q + n : Nat) : Int) by omega), if_pos (show ((a + q + n : Nat) : Int) ≤ (b.length : Int) by omega), Int.toNat_natCast, if_true]
        rw [List.drop_take, show a + q + n - (a + q) = n by omega, List.drop_drop, List.drop_drop, List.length_drop, show b.length - (b.length - (a + (q + n))) = a + q + n by omega]
        exact Ev.now _
  · rw [took_err he hu, hu]
    simp only [if_neg he]
    exact Ev.now _
theorem tookL_rest (b : List Int) (hb : Byts b) (a : Nat) (ha : a ≤ b.length) (most : Nat) (h : (tookL (b.drop a) most).2.2 = 0) : b.drop (b.length - (tookL (b.drop a) most).2.1.length) = (tookL (b.drop a) most).2.1 := by
  have hl : (b.drop a).length = b.length - a := List.length_drop ..
  rcases uget_cases (b.drop a) (byt_drop hb a) with ⟨n, hu, hk, _, _⟩ | ⟨e, he, hu⟩
  · rw [took_num hu hk] at h ⊢
    split at h
    · exact absurd h (by decide)
    · rename_i h1
      rw [if_neg h1]
      split at h
      · exact absurd h (by decide)
      · rename_i h2
        rw [if_neg h2]
        simp only [List.drop_drop, List.length_drop]
        congr 1
        omega
  · rw [took_err he hu] at h
    exact absurd h he
def takesL : Nat → List Int → List Lab → List Lab × List Int × Int
  | 0, r, acc => (acc, r, 0)
  | n + 1, r, acc =>
    if (tookL r 64).2.2 = 0 then
      (if (tookL (tookL r 64).2.1 128).2.2 = 0 then takesL n (tookL (tookL r 64).2.1 128).2.1 (acc ++ [⟨(tookL r 64).1, (tookL (tookL r 64).2.1 128).1⟩])
      else ([], [], (tookL (tookL r 64).2.1 128).2.2))
    else ([], [], (tookL r 64).2.2)
def takeEnd (b : List Int) (z : List Lab × List Int × Int) : List Lab × Int × Int :=
  if z.2.2 = 0 then (if rightB z.1 = 0 then (z.1, ((b.length - z.2.1.length : Nat) : Int), 0) else ([], 0, rightB z.1)) else ([], 0, z.2.2)
def takeB (b : List Int) : List Lab × Int × Int :=
  if (uget b).2.2 = 0 then (if (uget b).1 > 16 then ([], 0, 3) else takeEnd b (takesL (uget b).1.toNat (b.drop (uget b).2.1.toNat) [])) else ([], 0, (uget b).2.2)
theorem sm_more {acc : List Lab} {s t : ByteArray} (h : Sm acc) (hn : acc.length + 1 ≤ 100000) (h0 : s.size ≤ 64) (h1 : t.size ≤ 128) : Sm (acc ++ [⟨s, t⟩]) :=
  ⟨by rw [List.length_append, List.length_singleton]; exact hn, fun x hx => by
    rcases List.mem_append.1 hx with hx | hx
    · exact h.2 x hx
    · rw [List.mem_singleton.1 hx]
      exact ⟨by show s.size ≤ 100000; omega, by show t.size ≤ 100000; omega⟩⟩
theorem RTake_l0 (b : List Int) (n : Nat) (hn : n ≤ 16) (hs : b.length ≤ 1000000000) : ∀ (d i : Nat) (acc : List Lab) (r : List Int), i + d = n → acc.length = i → Sm acc → Byts r → r.length ≤ b.length →
    Ev (fun k => manometerref05_Take.l0 k b acc r (n : Int) (i : Int)) (takeEnd b (takesL d r acc))
  | d, i, acc, r, hd, hai, hsm, hr, hrl => by
    refine Ev.step (f := _) (fun k => by simp only [manometerref05_Take.l0]; rfl) ?_
    cases d with
    | zero =>
      have e1 : ¬ (i : Int) < (n : Int) := by omega
      simp only [if_neg e1]
      refine (Right_ev acc hsm).2.bind ?_
      unfold takesL takeEnd
      simp only [if_true]
      have e2 : wrap64 ((b.length : Int) - (r.length : Int)) = ((b.length - r.length : Nat) : Int) := wn (by omega) (by omega)
      by_cases h : rightB acc = 0
      · simp only [if_pos h, e2]; exact Ev.now _
      · simp only [if_neg h]; exact Ev.now _
    | succ d =>
      have e1 : (i : Int) < (n : Int) := by omega
      simp only [if_pos e1, w1 i (by omega)]
      refine (took_ev r hr (by omega) 64 (by omega)).bind ?_
      obtain ⟨t1, t2, t3⟩ := took_ok r hr 64
      unfold takesL
      generalize tookL r 64 = y at *
      by_cases h1 : y.2.2 = 0
      · simp only [if_pos h1]
        refine (took_ev y.2.1 t2 (by omega) 128 (by omega)).bind ?_
        obtain ⟨v1, v2, v3⟩ := took_ok y.2.1 t2 128
        generalize tookL y.2.1 128 = z at *
        by_cases h2 : z.2.2 = 0
        · simp only [if_pos h2, if_pos (show acc.length < 4398046511104 by omega)]
          exact RTake_l0 b n hn hs d (i + 1) _ _ (by omega) (by rw [List.length_append, hai]; rfl) (sm_more hsm (by omega) t3 v3) v2 (by omega)
        · simp only [if_neg h2]
          unfold takeEnd
          simp only [if_neg h2]
          exact Ev.now _
      · simp only [if_neg h1]
        unfold takeEnd
        simp only [if_neg h1]
        exact Ev.now _
theorem set_mid (acc R : List Lab) (z y : Lab) (i : Nat) (h : acc.length = i) : (acc ++ z :: R).set i y = acc ++ y :: R := by
  subst h
  rw [List.set_append_right _ _ (Nat.le_refl _), Nat.sub_self]
  rfl
theorem get_mid (acc R : List Lab) (z y : Lab) (i : Nat) (h : acc.length = i) : (acc ++ z :: R).getD i y = z := by
  subst h
  rw [List.getD_eq_getElem?_getD, List.getElem?_append_right (Nat.le_refl _), Nat.sub_self]
  rfl
theorem Take_l0 (b : List Int) (n : Nat) (hn : n ≤ 16) (hb : Byts b) (hs : b.length ≤ 1000000000) : ∀ (d i : Nat) (acc : List Lab) (a : Nat), i + d = n → acc.length = i → Sm acc → a ≤ b.length →
    Ev (fun k => labels_Take.l0 k b (a : Int) (acc ++ List.replicate d z44) (n : Int) (i : Int)) (takeEnd b (takesL d (b.drop a) acc))
  | d, i, acc, a, hd, hai, hsm, ha => by
    refine Ev.step (f := _) (fun k => by simp only [labels_Take.l0]; rfl) ?_
    cases d with
    | zero =>
      have e1 : ¬ (i : Int) < (n : Int) := by omega
      simp only [if_neg e1, List.replicate_zero, List.append_nil]
      refine (Right_ev acc hsm).1.bind ?_
      unfold takesL takeEnd
      simp only [if_true]
      rw [List.length_drop, show b.length - (b.length - a) = a by omega]
      by_cases h : rightB acc = 0
      · simp only [if_pos h]; exact Ev.now _
      · simp only [if_neg h]; exact Ev.now _
    | succ d =>
      have e1 : (i : Int) < (n : Int) := by omega
      have e2 : (0 : Int) ≤ (i : Int) := by omega
      have e3 : (i : Int) < ((acc ++ z44 :: List.replicate d z44).length : Int) := by rw [List.length_append, List.length_cons]; omega
      rw [List.replicate_succ]
      simp only [if_pos e1, w1 i (by omega)]
      refine (text_ev b hb hs a ha 64 (by omega)).bind ?_
      obtain ⟨t1, t2, t3⟩ := took_ok (b.drop a) (byt_drop hb a) 64
      have hdl : (b.drop a).length = b.length - a := List.length_drop ..
      have hrest : (tookL (b.drop a) 64).2.2 = 0 → b.drop (b.length - (tookL (b.drop a) 64).2.1.length) = (tookL (b.drop a) 64).2.1 := tookL_rest b hb a ha 64
      unfold takesL
      simp only [if_pos e2, if_pos e3, rdn, Int.toNat_natCast, Option.bind_some, set_mid acc _ _ _ i hai, get_mid acc _ _ _ i hai]
      generalize tookL (b.drop a) 64 = y at *
      by_cases h1 : y.2.2 = 0
      · simp only [if_pos h1]
        have hr := hrest h1
        obtain ⟨a', ha'⟩ : ∃ a', a' = b.length - y.2.1.length := ⟨_, rfl⟩
        rw [← ha'] at hr ⊢
        refine (text_ev b hb hs a' (by omega) 128 (by omega)).bind ?_
        obtain ⟨v1, v2, v3⟩ := took_ok (b.drop a') (byt_drop hb a') 128
        have hrest2 : (tookL (b.drop a') 128).2.2 = 0 → b.drop (b.length - (tookL (b.drop a') 128).2.1.length) = (tookL (b.drop a') 128).2.1 := tookL_rest b hb a' (by omega) 128
        rw [hr] at v1 v2 v3 hrest2 ⊢
        generalize tookL y.2.1 128 = z at *
        by_cases h2 : z.2.2 = 0
        · simp only [if_pos h2]
          have ih := Take_l0 b n hn hb hs d (i + 1) (acc ++ [⟨y.1, z.1⟩]) (b.length - z.2.1.length) (by omega) (by rw [List.length_append, hai]; rfl) (sm_more hsm (by omega) t3 v3) (by omega)
          rw [hrest2 h2, List.append_assoc] at ih
          exact ih
        · simp only [if_neg h2]
          unfold takeEnd
          simp only [if_neg h2]
          exact Ev.now _
      · simp only [if_neg h1]
        unfold takeEnd
        simp only [if_neg h1]
        exact Ev.now _
theorem Take_ev (b : List Int) (hb : Byts b) (hs : b.length ≤ 1000000000) : Ev (fun k => labels_Take.f k b) (takeB b) ∧ Ev (fun k => manometerref05_Take.f k b) (takeB b) := by
  obtain ⟨u1, u2⟩ := Uvarint_ev b hb (by omega)
  have hnil : Sm [] := ⟨by simp, fun x hx => by simp at hx⟩
  unfold labels_Take.f manometerref05_Take.f takeB
  rcases uget_cases b hb with ⟨n, hu, hk, _, hn⟩ | ⟨e, he, hu⟩
  · rw [hu] at u1 u2 ⊢
    simp only [if_true, Int.toNat_natCast]
    by_cases h : (n : Int) > 16
    · simp only [if_pos h]
      constructor
      · refine u1.bind ?_
        simp only [if_true, if_pos h]
        exact Ev.now _
      · refine u2.bind ?_
        simp only [if_true, if_pos h]
        exact Ev.now _
    · simp only [if_neg h]
      have e1 : wrap64 (n : Int) = (n : Int) := w64 (by omega) (by omega)
      constructor
      · refine u1.bind ?_
        simp only [if_true, if_neg h, if_pos (show (0 : Int) ≤ (n : Int) by omega), Int.toNat_natCast, if_pos (show n ≤ 8796093022208 by omega), Option.bind_some, List.length_replicate]
        have := Take_l0 b n (by omega) hb hs n 0 [] (uv n).length (by omega) rfl hnil hk
        simpa using this
      · refine u2.bind ?_
        simp only [if_true, if_neg h, if_pos (show (0 : Int) ≤ ((uv n).length : Int) by omega), if_pos (show ((uv n).length : Int) ≤ (b.length : Int) by omega), Int.toNat_natCast, e1]
        exact RTake_l0 b n (by omega) hs n 0 [] (b.drop (uv n).length) (by omega) rfl hnil (byt_drop hb _) (by rw [List.length_drop]; omega)
  · rw [hu] at u1 u2 ⊢
    simp only [if_neg he]
    constructor
    · refine u1.bind ?_
      simp only [if_neg he]
      exact Ev.now _
    · refine u2.bind ?_
      simp only [if_neg he]
      exact Ev.now _
theorem takes_len : ∀ (d : Nat) (r : List Int) (acc : List Lab), (takesL d r acc).1.length ≤ acc.length + d
  | 0, r, acc => Nat.le_refl _
  | d + 1, r, acc => by
    unfold takesL
    split
    · split
      · refine Nat.le_trans (takes_len d _ _) ?_
        rw [List.length_append, List.length_singleton]
        omega
      · exact Nat.zero_le _
    · exact Nat.zero_le _
theorem takeB_len (b : List Int) : (takeB b).1.length ≤ 16 := by
  unfold takeB
  split
  · split
    · exact Nat.zero_le _
    · unfold takeEnd
      have := takes_len (uget b).1.toNat (b.drop (uget b).2.1.toNat) []
      simp only [List.length_nil] at this
      split
      · split
        · exact Nat.le_trans this (by omega)
        · exact Nat.zero_le _
      · exact Nat.zero_le _
  · exact Nat.zero_le _
theorem putL_len (l : List Lab) (hs : Sm l) : (putL l).length ≤ 100000000000 := by
  unfold putL
  have hu := uv_len10 l.length (by have := hs.1; omega)
  have : ∀ m : List Lab, (∀ x ∈ m, x.f0.size ≤ 100000 ∧ x.f1.size ≤ 100000) → (m.flatMap labL).length ≤ 200020 * m.length := by
    intro m
    induction m with
    | nil => intro _; simp
    | cons x m ih =>
      intro h
      rw [List.flatMap_cons, List.length_append, List.length_cons]
      have h1 := ih (fun y hy => h y (by simp [hy]))
      have h2 := labL_len x (h x (by simp)).1 (h x (by simp)).2
      omega
  have h1 := this l hs.2
  have h2 := hs.1
  rw [List.length_append, Bq.ints_length]
  omega
theorem putB_len (l : List Lab) (hs : Sm l) : (putB l).1.length ≤ 100000000000 := by
  unfold putB
  split
  · exact putL_len l hs
  · exact Nat.zero_le _
end Go.Proofs.YtdhmabofncbohaaDoor.Pu
end
section
namespace Go.Proofs.YtdhmabofncbohaaDoor.Pu
open Go Go.RowKit Go.Proofs.YtdhmabofncbohaaDoor Go.Proofs.YtdhmabofncbohaaDoor.PLC Go.Proofs.YtdhmabofncbohaaDoorW.PrintWords Go.Proofs.YtdhmabofncbohaaDoorW.PrintLast Go.Proofs.YtdhmabofncbohaaDoorW.PrintMore
set_option linter.unusedVariables false
set_option linter.unusedSimpArgs false
theorem labelsBytes (l : List Lab) (b : List Int) (hb : Byts b) : ∃ k, manometerlaw05_LabelsBytes.f k l b = some true := by
  refine Ev.rounds (g := fun k => manometerlaw05_LabelsBytes.f k l b) ?_
  unfold manometerlaw05_LabelsBytes.f
  have hno : Ev (fun k => manometerlaw05_LabelsBytes.j0 k l b true) true := by
    refine Ev.step (f := _) (fun k => by simp only [manometerlaw05_LabelsBytes.j0]; rfl) ?_
    simp only [if_true]
    exact live_ev.bind (Ev.now _)
  refine live_ev.bind ?_
  simp only [if_true]
  refine (few_ev l).bind ?_
  by_cases h : fewB l = true
  · simp only [if_pos h]
    by_cases hl : (b.length : Int) > 6000
    · rw [decide_eq_true hl]
      exact hno
    · rw [decide_eq_false hl]
      refine Ev.step (f := _) (fun k => by simp only [manometerlaw05_LabelsBytes.j0]; rfl) ?_
      simp only [Bool.false_eq_true, if_false]
      have hs := few_sm h
      refine (Put_ev l hs).1.bind ?_
      refine (Put_ev l hs).2.bind ?_
      refine (Take_ev b hb (by omega)).1.bind ?_
      refine (Take_ev b hb (by omega)).2.bind ?_
      refine (Equal_ev _ _ (by have := putB_len l hs; omega)).bind ?_
      simp only [decide_true, if_true]
      refine (Same_ev _ _ (by have := takeB_len b; omega)).2.bind ?_
      simp only [sameB_refl, if_true, beq_self_eq_true]
      exact Ev.now _
  · simp only [if_neg h]
    exact hno
end Go.Proofs.YtdhmabofncbohaaDoor.Pu
end
section
namespace Go.Proofs.YtdhmabofncbohaaDoor
open Go.RowKit
set_option linter.unusedVariables false
theorem laid_plain {P : Program} {w : World} {l : List (String × DataW Unit)} (h : laidMetH P l w) (hf : (l.filter fun x => x.2.handleName?.isSome).isEmpty = true) : laidMet P l w := by
  unfold laidMetH at h
  split at h
  · exact h
  · rename_i h2
    rw [h2] at hf
    cases hf
end Go.Proofs.YtdhmabofncbohaaDoor
end
section
namespace Go.Proofs.YtdhmabofncbohaaDoor
open Go Go.RowKit Go.Shelf
set_option linter.unusedVariables false
theorem first_same : Go.Pinned.utf8First = Lib.firstData := by kernel_rfl
theorem accept_same : (Rows.laid_unicode_utf8_acceptRanges : DataW Unit) = Lib.acceptData := by kernel_rfl
theorem tab_of {w : World} (h : laidMetH Tryd.prog [("unicode/utf8.acceptRanges", Rows.laid_unicode_utf8_acceptRanges), ("unicode/utf8.first", Rows.laid_unicode_utf8_first)] w) : Tab w := by
  have hp := laid_plain h (by kernel_rfl)
  have h4 := Lib.laidMet.reads hp (List.Mem.head _)
  have h3 := Lib.laidMet.reads hp (List.Mem.tail _ (List.Mem.head _))
  rw [accept_same] at h4
  rw [show Rows.laid_unicode_utf8_first = Go.Pinned.utf8First from rfl, first_same] at h3
  exact utf8Tabs_of_readsT (U8Types.of196 Tryd.laysValid) ⟨by kernel_rfl, by kernel_rfl, by kernel_rfl, by kernel_rfl, by kernel_rfl, by kernel_rfl, by kernel_rfl⟩ h3 h4
end Go.Proofs.YtdhmabofncbohaaDoor
end
section
namespace Go.Proofs.YtdhmabofncbohaaDoor
open Go.RowKit Go.Proofs.YtdhmabofncbohaaDoorW.PrintWords Go.Proofs.YtdhmabofncbohaaDoorW.PrintMore Go.Proofs.YtdhmabofncbohaaDoorW.PrintLast Go.Deep
set_option linter.unusedVariables false
section
variable {H : Type} {enc : TypeId × Value → H} {P : Program} {w : World} {base : Nat} {spare : Nat → Bool} {held : Bool}
theorem opens_iso {α β : Type} {d : Kd α} {wf : α → Prop} {t : TypeId} (f : β → α) (g : α → β) (hg : ∀ y, f (g y) = y) (h : Opens enc P w base spare held t d wf) :
    Opens enc P w base spare held t (Kd.iso d f) (fun x => wf (f x)) := by
  intro fuel cs x hx
  obtain ⟨a, hK, hw⟩ := h fuel cs x hx
  refine ⟨g a, ?_, ?_⟩
  · show d.K w (f (g a)) cs
    rw [hg]
    exact hK
  · show wf (f (g a))
    rw [hg]
    exact hw
end
end Go.Proofs.YtdhmabofncbohaaDoor
end
