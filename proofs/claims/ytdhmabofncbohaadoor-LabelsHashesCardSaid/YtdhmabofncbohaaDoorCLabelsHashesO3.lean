import Derived.Test.YtdhmabofncbohaaDoorCLabelsHashesPU1
import Derived.Test.YtdhmabofncbohaaDoorCLabelsHashesPLCx6
import Derived.Test.YtdhmabofncbohaaDoorCLabelsHashesPLCx13
import Derived.Test.YtdhmabofncbohaaDoorCLabelsHashesPLCx5
import Derived.Test.YtdhmabofncbohaaDoorCLabelsHashesPLCx14
import Derived.Test.YtdhmabofncbohaaDoorCLabelsHashesPLCx15
import Derived.Test.YtdhmabofncbohaaDoorCLabelsHashesPLCx3
import Derived.Laws.BitsLemmas
import Derived.KernelRfl
import Derived.Laws.BitsAllLaws
import Derived.Laws.Bits64
import Derived.WalkArith
import Derived.Test.YtdhmabofncbohaaDoorCLabelsHashesH17
import Derived.Test.YtdhmabofncbohaaDoorCLabelsHashesH19
import Derived.Test.YtdhmabofncbohaaDoorCLabelsHashesPLCx1
import Derived.Test.YtdhmabofncbohaaDoorCLabelsHashesPLCx21
import Derived.Test.YtdhmabofncbohaaDoorCLabelsHashesPU0
import Derived.Test.YtdhmabofncbohaaDoorCLabelsHashesG0
import Derived.Lib.LaidU8
import Derived.LaidMore
import Derived.Test.YtdhmabofncbohaaDoorRows
import Derived.Lib.LaidU8T
namespace Go.Proofs.YtdhmabofncbohaaDoor.Bq
end Go.Proofs.YtdhmabofncbohaaDoor.Bq
section
namespace Go.Proofs.YtdhmabofncbohaaDoor.Pu
open Go Go.RowKit Go.Proofs.YtdhmabofncbohaaDoor Go.Proofs.YtdhmabofncbohaaDoor.PLC Go.Proofs.YtdhmabofncbohaaDoorW.PrintWords Go.Proofs.YtdhmabofncbohaaDoorW.PrintLast Go.Proofs.YtdhmabofncbohaaDoorW.PrintMore
set_option linter.unusedVariables false
theorem live_60 : manometerlaw05_live.f 60 = some true := by kernel_rfl
theorem live_ev : Ev manometerlaw05_live.f true := Ev.of manometerlaw05_live.mono live_60
end Go.Proofs.YtdhmabofncbohaaDoor.Pu
end
section
namespace Go.Proofs.YtdhmabofncbohaaDoor.Pu
open Go Go.RowKit Go.Proofs.YtdhmabofncbohaaDoor Go.Proofs.YtdhmabofncbohaaDoor.PLC Go.Proofs.YtdhmabofncbohaaDoorW.PrintWords Go.Proofs.YtdhmabofncbohaaDoorW.PrintLast Go.Proofs.YtdhmabofncbohaaDoorW.PrintMore
set_option linter.unusedVariables false
set_option linter.unusedSimpArgs false
abbrev Lab := S44
theorem rdn (l : List Lab) (n : Nat) : rd_T44 l (n : Int) = l.getD n z44 := by unfold rd_T44; rw [Int.toNat_natCast]
theorem dropS (l : List Lab) (n : Nat) (h : n < l.length) : l.drop n = l.getD n z44 :: l.drop (n + 1) := by
  rw [List.drop_eq_getElem_cons h, List.getD_eq_getElem?_getD, List.getElem?_eq_getElem h]
  rfl
def fewB (l : List Lab) : Bool := decide (l.length ≤ 60) && l.all (fun x => decide (x.f0.size ≤ 400) && decide (x.f1.size ≤ 400))
theorem few_l0 (l : List Lab) (hl : l.length ≤ 60) : ∀ (d n k : Nat), n + d = l.length → d < k → manometerlaw05_few.l0 k l (l.length : Int) (n : Int) = some ((l.drop n).all (fun x => decide (x.f0.size ≤ 400) && decide (x.f1.size ≤ 400)))
  | d, n, k, hd, hk => by
    obtain ⟨k, rfl⟩ := succ_of hk
    by_cases hlt : n < l.length
    · obtain ⟨d, rfl⟩ : ∃ e, d = e + 1 := ⟨d - 1, by omega⟩
      have ih := few_l0 l hl d (n + 1) k (by omega) (by omega)
      rw [dropS l n hlt, List.all_cons]
      simp only [manometerlaw05_few.l0]
      rw [if_pos (by omega), if_pos (by omega), if_pos (by omega), rdn, w1 n (by omega), ih]
      generalize l.getD n z44 = x
      by_cases h1 : x.f0.size ≤ 400
      · rw [if_neg (by omega), decide_eq_true h1, Bool.true_and]
        by_cases h2 : x.f1.size ≤ 400
        · rw [if_neg (by omega), decide_eq_true h2, Bool.true_and]
        · rw [if_pos (by omega), decide_eq_false h2]; rfl
      · rw [if_pos (by omega), decide_eq_false h1]; rfl
    · rw [List.drop_of_length_le (by omega)]
      simp only [manometerlaw05_few.l0]
      rw [if_neg (by omega)]
      rfl
theorem few_ev (l : List Lab) : Ev (fun k => manometerlaw05_few.f k l) (fewB l) := by
  unfold manometerlaw05_few.f fewB
  by_cases h : l.length ≤ 60
  · simp only [if_neg (show ¬ (l.length : Int) > 60 by omega), decide_eq_true h, Bool.true_and]
    exact Ev.at l.length (fun k hk => few_l0 l h l.length 0 k (by omega) hk)
  · simp only [if_pos (show (l.length : Int) > 60 by omega), decide_eq_false h, Bool.false_and]
    exact Ev.now _
theorem few_of {l : List Lab} (h : fewB l = true) : l.length ≤ 60 ∧ ∀ x ∈ l, x.f0.size ≤ 400 ∧ x.f1.size ≤ 400 := by
  unfold fewB at h
  simp only [Bool.and_eq_true, decide_eq_true_eq, List.all_eq_true] at h
  exact h
theorem less_irrefl : ∀ x : Str, Op.bytesLess x x = false
  | [] => rfl
  | a :: x => by
    simp only [Op.bytesLess, less_irrefl x]
    have h : ¬ a < a := by rw [UInt8.lt_iff_toNat_lt]; omega
    simp [h]
end Go.Proofs.YtdhmabofncbohaaDoor.Pu
end
section
namespace Go.Proofs.YtdhmabofncbohaaDoor.Pu
open Go Go.RowKit Go.Proofs.YtdhmabofncbohaaDoor Go.Proofs.YtdhmabofncbohaaDoor.PLC Go.Proofs.YtdhmabofncbohaaDoorW.PrintWords Go.Proofs.YtdhmabofncbohaaDoorW.PrintLast Go.Proofs.YtdhmabofncbohaaDoorW.PrintMore
set_option linter.unusedVariables false
set_option linter.unusedSimpArgs false
def Sm (l : List Lab) : Prop := l.length ≤ 100000 ∧ ∀ x ∈ l, x.f0.size ≤ 100000 ∧ x.f1.size ≤ 100000
theorem Sm.at {l : List Lab} (h : Sm l) (n : Nat) (hn : n < l.length) : (l.getD n z44).f0.size ≤ 100000 ∧ (l.getD n z44).f1.size ≤ 100000 := by
  rw [List.getD_eq_getElem?_getD, List.getElem?_eq_getElem hn]
  exact h.2 _ (List.getElem_mem hn)
theorem few_sm {l : List Lab} (h : fewB l = true) : Sm l := ⟨by have := (few_of h).1; omega, fun x hx => by have := (few_of h).2 x hx; omega⟩
def wrongB (e : Bool) (x : Lab) : Int := if namedB (B x.f0) = true then (if valuedB (B x.f1) = true then (if e = true then 0 else (if B x.f1 = [] then 51 else 0)) else 51) else 50
theorem wrong_f (x : Lab) (e : Bool) (h0 : x.f0.size ≤ 100000) (h1 : x.f1.size ≤ 100000) : labels_wrong.f x.f0 x.f1 e = some (wrongB e x) := by
  unfold labels_wrong.f wrongB
  rw [pNamed_f _ (by omega), pValued_f _ (by omega), toList_B]
  simp only [Option.bind_some]
  split <;> (try rfl)
  split <;> (try rfl)
  split <;> (try rfl)
  split <;> rfl
def rgt : Option Str → List Lab → Int
  | _, [] => 0
  | p, x :: l => if wrongB false x = 0 then (if (match p with | none => false | some q => Op.bytesLess (B x.f0) q || decide (B x.f0 = q)) = true then 53 else rgt (some (B x.f0)) l) else wrongB false x
def pv (l : List Lab) (n : Nat) : Option Str := if n = 0 then none else some (B (l.getD (n - 1) z44).f0)
def rightB (l : List Lab) : Int := if l.length ≤ 16 then rgt none l else 3
theorem wm1 (n : Nat) (h : n ≤ 9000000000000000000) : wrap64 (((n + 1 : Nat) : Int) - 1) = (n : Int) := wn (by omega) (by omega)
theorem Right_l0 (l : List Lab) (hs : Sm l) : ∀ (d n : Nat), n + d = l.length →
    Ev (fun k => labels_Right.l0 k l l (l.length : Int) (n : Int)) (rgt (pv l n) (l.drop n))
  | d, n, hd => by
    have hl := hs.1
    refine Ev.step (f := _) (fun k => by simp only [labels_Right.l0]; rfl) ?_
    by_cases hlt : n < l.length
    · obtain ⟨d, rfl⟩ : ∃ e, d = e + 1 := ⟨d - 1, by omega⟩
      have ih := Right_l0 l hs d (n + 1) (by omega)
      obtain ⟨s0, s1⟩ := hs.at n hlt
      have hp : pv l (n + 1) = some (B (l.getD n z44).f0) := by unfold pv; rw [if_neg (by omega)]; rfl
      rw [hp] at ih
      rw [dropS l n hlt]
      have e1 : (n : Int) < (l.length : Int) := by omega
      have e2 : (0 : Int) ≤ (n : Int) := by omega
      simp only [if_pos e1, if_pos e2, rdn, w1 n (by omega), wrong_f _ _ s0 s1, Option.bind_some, rgt]
      by_cases hw : wrongB false (l.getD n z44) = 0
      · simp only [if_pos hw]
        cases n with
        | zero =>
          simp only [if_neg (show ¬ ((0 : Nat) : Int) > 0 by omega)]
          exact ih
        | succ m =>
          have hq : pv l (m + 1) = some (B (l.getD m z44).f0) := by unfold pv; rw [if_neg (by omega)]; rfl
          have e3 : ((m + 1 : Nat) : Int) > 0 := by omega
          have e4 : (0 : Int) ≤ (m : Int) := by omega
          have e5 : (m : Int) < (l.length : Int) := by omega
          simp only [if_pos e3, wm1 m (by omega), if_pos e4, if_pos e5, rdn, hq, toList_B]
          by_cases h1 : Op.bytesLess (B (l.getD (m + 1) z44).f0) (B (l.getD m z44).f0) = true
          · simp only [h1, if_true, Bool.true_or]
            exact Ev.now _
          · have h1' : Op.bytesLess (B (l.getD (m + 1) z44).f0) (B (l.getD m z44).f0) = false := by simpa using h1
            simp only [h1', Bool.false_eq_true, if_false, Bool.false_or, decide_eq_true_eq]
            by_cases h2 : B (l.getD (m + 1) z44).f0 = B (l.getD m z44).f0
            · simp only [if_pos h2]
              exact Ev.now _
            · simp only [if_neg h2]
              exact ih
      · simp only [if_neg hw]
        exact Ev.now _
    · rw [List.drop_of_length_le (by omega)]
      simp only [if_neg (show ¬ (n : Int) < (l.length : Int) by omega)]
      exact Ev.now _
theorem RRight_l0 (l : List Lab) (hs : Sm l) : ∀ (d n : Nat), n + d = l.length →
    Ev (fun k => manometerref05_Right.l0 k l l (l.length : Int) (n : Int)) (rgt (pv l n) (l.drop n))
  | d, n, hd => by
    have hl := hs.1
    refine Ev.step (f := _) (fun k => by simp only [manometerref05_Right.l0]; rfl) ?_
    by_cases hlt : n < l.length
    · obtain ⟨d, rfl⟩ : ∃ e, d = e + 1 := ⟨d - 1, by omega⟩
      have ih := RRight_l0 l hs d (n + 1) (by omega)
      obtain ⟨s0, s1⟩ := hs.at n hlt
      have hp : pv l (n + 1) = some (B (l.getD n z44).f0) := by unfold pv; rw [if_neg (by omega)]; rfl
      rw [hp] at ih
      rw [dropS l n hlt]
      have e1 : (n : Int) < (l.length : Int) := by omega
      have e2 : (0 : Int) ≤ (n : Int) := by omega
      simp only [if_pos e1, if_pos e2, rdn, rgt, wrongB]
      refine Ev.bind (Named_ev _ (by omega)) ?_
      by_cases hn : namedB (B (l.getD n z44).f0) = true
      · simp only [if_pos hn]
        refine Ev.bind (Valued_ev _ (by omega)) ?_
        have j1t : Ev (fun k => manometerref05_Right.j1 k l (n : Int) l (l.length : Int) (n : Int) true (l.getD n z44).f0 (l.getD n z44).f1) 51 := by
          refine Ev.step (f := _) (fun k => by simp only [manometerref05_Right.j1]; rfl) ?_
          simp only [if_true]
          exact Ev.now _
        by_cases hv : valuedB (B (l.getD n z44).f1) = true
        · simp only [if_pos hv, toList_B, Bool.false_eq_true, if_false]
          by_cases he : B (l.getD n z44).f1 = []
          · have : (B (l.getD n z44).f1 == ([] : Str)) = true := by rw [he]; rfl
            simp only [this, if_pos he, if_neg (show ¬ (51 : Int) = 0 by omega)]
            exact j1t
          · have : (B (l.getD n z44).f1 == ([] : Str)) = false := by simpa using he
            simp only [this, if_neg he, if_true]
            refine Ev.step (f := _) (fun k => by simp only [manometerref05_Right.j1]; rfl) ?_
            simp only [Bool.false_eq_true, if_false, w1 n (by omega)]
            cases n with
            | zero =>
              simp only [if_neg (show ¬ ((0 : Nat) : Int) > 0 by omega)]
              exact ih
            | succ m =>
              have hq : pv l (m + 1) = some (B (l.getD m z44).f0) := by unfold pv; rw [if_neg (by omega)]; rfl
              have e3 : ((m + 1 : Nat) : Int) > 0 := by omega
              have e4 : (0 : Int) ≤ (m : Int) := by omega
              have e5 : (m : Int) < (l.length : Int) := by omega
              simp only [if_pos e3, wm1 m (by omega), if_pos e4, if_pos e5, rdn, hq, toList_B]
              by_cases h1 : Op.bytesLess (B (l.getD (m + 1) z44).f0) (B (l.getD m z44).f0) = true
              · simp only [h1, if_true, Bool.true_or]
                exact Ev.now _
              · have h1' : Op.bytesLess (B (l.getD (m + 1) z44).f0) (B (l.getD m z44).f0) = false := by simpa using h1
                simp only [h1', Bool.false_eq_true, if_false, Bool.false_or, decide_eq_true_eq]
                by_cases h2 : B (l.getD (m + 1) z44).f0 = B (l.getD m z44).f0
                · simp only [if_pos h2]
                  exact Ev.now _
                · simp only [if_neg h2]
                  exact ih
        · simp only [if_neg hv, if_neg (show ¬ (51 : Int) = 0 by omega)]
          exact j1t
      · simp only [if_neg hn, if_neg (show ¬ (50 : Int) = 0 by omega)]
        exact Ev.now _
    · rw [List.drop_of_length_le (by omega)]
      simp only [if_neg (show ¬ (n : Int) < (l.length : Int) by omega)]
      exact Ev.now _
theorem Right_ev (l : List Lab) (hs : Sm l) : Ev (fun k => labels_Right.f k l) (rightB l) ∧ Ev (fun k => manometerref05_Right.f k l) (rightB l) := by
  unfold labels_Right.f manometerref05_Right.f rightB
  by_cases h : l.length ≤ 16
  · simp only [if_neg (show ¬ (l.length : Int) > 16 by omega), if_pos h]
    exact ⟨Right_l0 l hs l.length 0 (by omega), RRight_l0 l hs l.length 0 (by omega)⟩
  · simp only [if_pos (show (l.length : Int) > 16 by omega), if_neg h]
    exact ⟨Ev.now _, Ev.now _⟩
abbrev lt (a b : ByteArray) : Prop := Op.bytesLess (B a) (B b) = true
theorem lt_irrefl (a : ByteArray) : ¬ lt a a := by unfold lt; rw [less_irrefl]; decide
def P (nm : ByteArray) (z : Lab) : Bool := decide (B z.f0 = B nm) && !decide (B z.f1 = [])
end Go.Proofs.YtdhmabofncbohaaDoor.Pu
end
section
namespace Go.Proofs.YtdhmabofncbohaaDoor
namespace Bq
set_option linter.unusedVariables false
set_option linter.unusedSimpArgs false
theorem wrap_u64' (n : Int) : IntKind.u64.wrap n = n % 18446744073709551616 := by simp [IntKind.wrap, IntKind.bits, IntKind.signed]
end Bq
end Go.Proofs.YtdhmabofncbohaaDoor
end
section
namespace Go.Proofs.YtdhmabofncbohaaDoor.Pu
open Go Go.Proofs.YtdhmabofncbohaaDoor Bq
set_option linter.unusedVariables false
theorem byt_app {xs ys : List Int} (h : Byts xs) (h' : Byts ys) : Byts (xs ++ ys) := fun x hx => by
  rcases List.mem_append.1 hx with hx | hx
  · exact h x hx
  · exact h' x hx
theorem wraps_u64n (n : Int) (h0 : 0 ≤ n) (h1 : n < 2 ^ 64) : IntKind.u64.wrap n = n := by
  rw [wrap_u64']
  omega
end Go.Proofs.YtdhmabofncbohaaDoor.Pu
end
section
namespace Go.Proofs.YtdhmabofncbohaaDoor.PLC
open Go.RowKit Go.Proofs.YtdhmabofncbohaaDoorW.PrintWords Go.Proofs.YtdhmabofncbohaaDoorW.PrintLast Go.Proofs.YtdhmabofncbohaaDoorW.PrintMore
attribute [local go_sem] max2_int min2_int max_two min_two max_three min_three max_four min_four
set_option linter.unusedVariables false
set_option linter.unusedSimpArgs false
end Go.Proofs.YtdhmabofncbohaaDoor.PLC
end
section
namespace Go.Proofs.YtdhmabofncbohaaDoor.PLC
open Go.RowKit Go.Proofs.YtdhmabofncbohaaDoorW.PrintWords Go.Proofs.YtdhmabofncbohaaDoorW.PrintLast Go.Proofs.YtdhmabofncbohaaDoorW.PrintMore
attribute [local go_sem] max2_int min2_int max_two min_two max_three min_three max_four min_four
set_option linter.unusedVariables false
set_option linter.unusedSimpArgs false
end Go.Proofs.YtdhmabofncbohaaDoor.PLC
end
section
namespace Go.Proofs.YtdhmabofncbohaaDoor.PLC
open Go.RowKit Go.Proofs.YtdhmabofncbohaaDoorW.PrintWords Go.Proofs.YtdhmabofncbohaaDoorW.PrintLast Go.Proofs.YtdhmabofncbohaaDoorW.PrintMore
attribute [local go_sem] max2_int min2_int max_two min_two max_three min_three max_four min_four
set_option linter.unusedVariables false
set_option linter.unusedSimpArgs false
end Go.Proofs.YtdhmabofncbohaaDoor.PLC
end
section
namespace Go.Proofs.YtdhmabofncbohaaDoor.PLC
open Go.RowKit Go.Proofs.YtdhmabofncbohaaDoorW.PrintWords Go.Proofs.YtdhmabofncbohaaDoorW.PrintLast Go.Proofs.YtdhmabofncbohaaDoorW.PrintMore
attribute [local go_sem] max2_int min2_int max_two min_two max_three min_three max_four min_four
set_option linter.unusedVariables false
set_option linter.unusedSimpArgs false
end Go.Proofs.YtdhmabofncbohaaDoor.PLC
end
section
namespace Go.Proofs.YtdhmabofncbohaaDoor.Pu
open Go Go.RowKit Go.Proofs.YtdhmabofncbohaaDoor Go.Proofs.YtdhmabofncbohaaDoor.PLC Go.Proofs.YtdhmabofncbohaaDoorW.PrintWords Go.Proofs.YtdhmabofncbohaaDoorW.PrintLast Go.Proofs.YtdhmabofncbohaaDoorW.PrintMore Bq
set_option linter.unusedVariables false
set_option linter.unusedSimpArgs false
theorem w7 (n : Nat) (h : n < 10) : IntKind.u64.wrap (wrap64 (7 * (n : Int))) = ((7 * n : Nat) : Int) := by
  rw [wn (n := 7 * n) (by omega) (by omega), wraps_u64n _ (by omega) (by omega)]
theorem rdL (l : List (List Int)) (n : Nat) : rd_L5 l (n : Int) = l.getD n [] := by unfold rd_L5; rw [Int.toNat_natCast]
theorem Join_l0 (ps : List (List Int)) (hp : ps.length ≤ 1000000) : ∀ (d n : Nat) (acc : List Int), n + d = ps.length → acc.length + (ps.drop n).flatten.length ≤ 100000000000 → Ev (fun k => manometerref01_Join.l0 k acc ps (ps.length : Int) (n : Int)) (acc ++ (ps.drop n).flatten)
  | d, n, acc, hd, hl => by
    refine Ev.step (f := _) (fun k => by simp only [manometerref01_Join.l0]; rfl) ?_
    by_cases hlt : n < ps.length
    · obtain ⟨d, rfl⟩ : ∃ e, d = e + 1 := ⟨d - 1, by omega⟩
      have e1 : (n : Int) < (ps.length : Int) := by omega
      have e2 : (0 : Int) ≤ (n : Int) := by omega
      have e3 : ps.drop n = ps.getD n [] :: ps.drop (n + 1) := by
        rw [List.drop_eq_getElem_cons hlt, List.getD_eq_getElem?_getD, List.getElem?_eq_getElem hlt]
        rfl
      rw [e3, List.flatten_cons, List.length_append] at hl
      have e4 : acc.length + (ps.getD n []).length < 140737488355328 := by omega
      simp only [if_pos e1, if_pos e2, rdL, if_pos e4, w1 n (by omega)]
      rw [e3, List.flatten_cons, ← List.append_assoc]
      exact Join_l0 ps hp d (n + 1) _ (by omega) (by rw [List.length_append]; omega)
    · simp only [if_neg (show ¬ (n : Int) < (ps.length : Int) by omega)]
      rw [List.drop_of_length_le (by omega)]
      simp only [List.flatten_nil, List.append_nil]
      exact Ev.now _
theorem Join_ev (ps : List (List Int)) (hp : ps.length ≤ 1000000) (hl : ps.flatten.length ≤ 100000000000) : Ev (fun k => manometerref01_Join.f k ps) ps.flatten := by
  have := Join_l0 ps hp ps.length 0 [] (by omega) (by simpa using hl)
  simpa [manometerref01_Join.f] using this
end Go.Proofs.YtdhmabofncbohaaDoor.Pu
end
section
namespace Go.Proofs.YtdhmabofncbohaaDoor.Pu
open Go Go.RowKit Go.Proofs.YtdhmabofncbohaaDoor Go.Proofs.YtdhmabofncbohaaDoor.PLC Go.Proofs.YtdhmabofncbohaaDoorW.PrintWords Go.Proofs.YtdhmabofncbohaaDoorW.PrintLast Go.Proofs.YtdhmabofncbohaaDoorW.PrintMore
set_option linter.unusedVariables false
set_option linter.unusedSimpArgs false
theorem byt_of (s : ByteArray) : Byts (bytesOf s) := fun x hx => by
  obtain ⟨b, hb, rfl⟩ := List.mem_map.1 hx
  have := b.toNat_lt
  exact ⟨by omega, by omega⟩
theorem byt_255 : Byts [255] := fun x hx => by rw [List.mem_singleton.1 hx]; decide
def hb (x : Lab) : List Int := bytesOf x.f0 ++ ([255] ++ (bytesOf x.f1 ++ [255]))
theorem hb_length (x : Lab) : (hb x).length = x.f0.size + x.f1.size + 2 := by
  unfold hb
  simp only [List.length_append, bytesOf_length, List.length_cons, List.length_nil]
  omega
theorem byt_hb (x : Lab) : Byts (hb x) := byt_app (byt_of _) (byt_app byt_255 (byt_app (byt_of _) byt_255))
theorem xx_ok (acc : List Int) (hl : acc.length ≤ 1000000) (hb' : Byts acc) : hash_XX.f acc = some (Xx.xx acc) ∧ manometerref03_XX.f acc = some (Xx.xx acc) := by
  have h : acc.all (fun x => decide (0 ≤ x ∧ x < 256)) = true := List.all_eq_true.2 (fun x hx => decide_eq_true (hb' x hx))
  unfold hash_XX.f manometerref03_XX.f
  rw [if_pos (by omega), if_pos h]
  exact ⟨rfl, rfl⟩
theorem Hash_l0 (l : List Lab) (hl : l.length ≤ 60) (hs : ∀ x ∈ l, x.f0.size ≤ 400 ∧ x.f1.size ≤ 400) : ∀ (d n : Nat) (acc : List Int), n + d = l.length → acc.length ≤ 802 * n → Byts acc →
    Ev (fun k => labels_Hash.l0 k acc l (l.length : Int) (n : Int)) (Xx.xx (acc ++ (l.drop n).flatMap hb), 0) ∧ Ev (fun k => manometerref05_Hash.l0 k acc l (l.length : Int) (n : Int)) (Xx.xx (acc ++ (l.drop n).flatMap hb), 0)
  | d, n, acc, hd, ha, hby => by
    by_cases hlt : n < l.length
    · obtain ⟨d, rfl⟩ : ∃ e, d = e + 1 := ⟨d - 1, by omega⟩
      have hm : l.getD n z44 ∈ l := by rw [List.getD_eq_getElem?_getD, List.getElem?_eq_getElem hlt]; exact List.getElem_mem hlt
      obtain ⟨s0, s1⟩ := hs _ hm
      have hbl := hb_length (l.getD n z44)
      have ih := Hash_l0 l hl hs d (n + 1) (acc ++ hb (l.getD n z44)) (by omega) (by rw [List.length_append]; omega) (byt_app hby (byt_hb _))
      rw [dropS l n hlt, List.flatMap_cons, ← List.append_assoc]
      have e1 : (n : Int) < (l.length : Int) := by omega
      have e2 : (0 : Int) ≤ (n : Int) := by omega
      generalize hx : l.getD n z44 = x at *
      have b0 := bytesOf_length x.f0
      have b1 := bytesOf_length x.f1
      constructor
      · refine Ev.step (f := _) (fun k => by simp only [labels_Hash.l0]; rfl) ?_
        have c1 : acc.length + x.f0.size < 140737488355328 := by omega
        have c2 : (acc ++ bytesOf x.f0).length < 140737488355328 := by rw [List.length_append]; omega
        have c3 : ((acc ++ bytesOf x.f0) ++ [255]).length + x.f1.size < 140737488355328 := by simp only [List.length_append, List.length_singleton]; omega
        have c4 : (((acc ++ bytesOf x.f0) ++ [255]) ++ bytesOf x.f1).length < 140737488355328 := by simp only [List.length_append, List.length_singleton]; omega
        simp only [if_pos e1, if_pos e2, rdn, hx, if_pos c1, Option.bind_some, if_pos c2, if_pos c3, if_pos c4, w1 n (by omega)]
        have e : acc ++ bytesOf x.f0 ++ [255] ++ bytesOf x.f1 ++ [255] = acc ++ hb x := by unfold hb; simp
        rw [e]
        exact ih.1
      · refine Ev.step (f := _) (fun k => by simp only [manometerref05_Hash.l0]; rfl) ?_
        have c1 : x.f0.size ≤ 9223372036854775807 := by omega
        have c2 : x.f1.size ≤ 9223372036854775807 := by omega
        simp only [if_pos e1, if_pos e2, rdn, hx, if_pos c1, if_pos c2, w1 n (by omega)]
        have hj := Join_ev [acc, bytesOf x.f0, [255], bytesOf x.f1, [255]] (by simp) (by simp [b0, b1]; omega)
        have ej : [acc, bytesOf x.f0, [255], bytesOf x.f1, [255]].flatten = acc ++ hb x := by unfold hb; simp
        rw [ej] at hj
        refine hj.bind ?_
        exact ih.2
    · have e1 : ¬ (n : Int) < (l.length : Int) := by omega
      rw [List.drop_of_length_le (by omega), List.flatMap_nil, List.append_nil]
      obtain ⟨x1, x2⟩ := xx_ok acc (by omega) hby
      constructor
      · refine Ev.step (f := _) (fun k => by simp only [labels_Hash.l0]; rfl) ?_
        simp only [if_neg e1, x1, Option.bind_some]
        exact Ev.now _
      · refine Ev.step (f := _) (fun k => by simp only [manometerref05_Hash.l0]; rfl) ?_
        simp only [if_neg e1, x2, Option.bind_some]
        exact Ev.now _
def hashB (l : List Lab) : Int × Int := if rightB l = 0 then (Xx.xx (l.flatMap hb), 0) else (0, rightB l)
theorem byt_nil : Byts [] := fun x hx => by simp at hx
theorem Hash_ev (l : List Lab) (h : fewB l = true) : Ev (fun k => labels_Hash.f k l) (hashB l) ∧ Ev (fun k => manometerref05_Hash.f k l) (hashB l) := by
  obtain ⟨r1, r2⟩ := Right_ev l (few_sm h)
  obtain ⟨h1, h2⟩ := Hash_l0 l (few_of h).1 (few_of h).2 l.length 0 [] (by omega) (by simp) byt_nil
  unfold labels_Hash.f manometerref05_Hash.f hashB
  constructor
  · refine r1.bind ?_
    by_cases e : rightB l = 0
    · simp only [if_pos e]; simpa using h1
    · simp only [if_neg e]; exact Ev.now _
  · refine r2.bind ?_
    by_cases e : rightB l = 0
    · simp only [if_pos e]; simpa using h2
    · simp only [if_neg e]; exact Ev.now _
theorem labelsHashes (l : List Lab) : ∃ k, manometerlaw05_LabelsHashes.f k l = some true := by
  refine Ev.rounds (g := fun k => manometerlaw05_LabelsHashes.f k l) ?_
  unfold manometerlaw05_LabelsHashes.f
  refine live_ev.bind ?_
  simp only [if_true]
  refine (few_ev l).bind ?_
  refine Ev.step (f := _) (fun k => by simp only [manometerlaw05_LabelsHashes.j0]; rfl) ?_
  by_cases h : fewB l = true
  · simp only [h, Bool.not_true, Bool.false_eq_true, if_false]
    obtain ⟨h1, h2⟩ := Hash_ev l h
    refine h1.bind ?_
    refine h2.bind ?_
    simp only [if_true, beq_self_eq_true]
    exact Ev.now _
  · simp only [show fewB l = false by simpa using h, Bool.not_false, if_true]
    exact live_ev.bind (Ev.now _)
end Go.Proofs.YtdhmabofncbohaaDoor.Pu
end
section
namespace Go.Proofs.YtdhmabofncbohaaDoor
open Go.RowKit
set_option linter.unusedVariables false
theorem laid_plain {P : Program} {w : World} {l : List (String × DataW Unit)} (h : laidMetH P l w) (hf : (l.filter fun x => x.2.handleName?.isSome).isEmpty = true) : laidMet P l w := by
  unfold laidMetH at h
  split at h
  · exact h
  · rename_i h2
    rw [h2] at hf
    cases hf
end Go.Proofs.YtdhmabofncbohaaDoor
end
section
namespace Go.Proofs.YtdhmabofncbohaaDoor
open Go Go.RowKit Go.Shelf
set_option linter.unusedVariables false
theorem first_same : Go.Pinned.utf8First = Lib.firstData := by kernel_rfl
theorem accept_same : (Rows.laid_unicode_utf8_acceptRanges : DataW Unit) = Lib.acceptData := by kernel_rfl
theorem tab_of {w : World} (h : laidMetH Tryd.prog [("unicode/utf8.acceptRanges", Rows.laid_unicode_utf8_acceptRanges), ("unicode/utf8.first", Rows.laid_unicode_utf8_first)] w) : Tab w := by
  have hp := laid_plain h (by kernel_rfl)
  have h4 := Lib.laidMet.reads hp (List.Mem.head _)
  have h3 := Lib.laidMet.reads hp (List.Mem.tail _ (List.Mem.head _))
  rw [accept_same] at h4
  rw [show Rows.laid_unicode_utf8_first = Go.Pinned.utf8First from rfl, first_same] at h3
  exact utf8Tabs_of_readsT (U8Types.of196 Tryd.laysValid) ⟨by kernel_rfl, by kernel_rfl, by kernel_rfl, by kernel_rfl, by kernel_rfl, by kernel_rfl, by kernel_rfl⟩ h3 h4
end Go.Proofs.YtdhmabofncbohaaDoor
end
section
namespace Go.Proofs.YtdhmabofncbohaaDoor
open Go.RowKit Go.Proofs.YtdhmabofncbohaaDoorW.PrintWords Go.Proofs.YtdhmabofncbohaaDoorW.PrintMore Go.Proofs.YtdhmabofncbohaaDoorW.PrintLast Go.Deep
set_option linter.unusedVariables false
section
variable {H : Type} {enc : TypeId × Value → H} {P : Program} {w : World} {base : Nat} {spare : Nat → Bool} {held : Bool}
theorem opens_iso {α β : Type} {d : Kd α} {wf : α → Prop} {t : TypeId} (f : β → α) (g : α → β) (hg : ∀ y, f (g y) = y) (h : Opens enc P w base spare held t d wf) :
    Opens enc P w base spare held t (Kd.iso d f) (fun x => wf (f x)) := by
  intro fuel cs x hx
  obtain ⟨a, hK, hw⟩ := h fuel cs x hx
  refine ⟨g a, ?_, ?_⟩
  · show d.K w (f (g a)) cs
    rw [hg]
    exact hK
  · show wf (f (g a))
    rw [hg]
    exact hw
end
end Go.Proofs.YtdhmabofncbohaaDoor
end
