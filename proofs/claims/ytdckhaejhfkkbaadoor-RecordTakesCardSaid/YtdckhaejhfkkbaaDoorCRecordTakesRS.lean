import Derived.Test.YtdckhaejhfkkbaaDoorCRecordTakesPRTx0
import Derived.Test.YtdckhaejhfkkbaaDoorCRecordTakesPRTx9
import Derived.Test.YtdckhaejhfkkbaaDoorCRecordTakesPRTx15
import Derived.Test.YtdckhaejhfkkbaaDoorCRecordTakesPRTx17
import Derived.Test.YtdckhaejhfkkbaaDoorCRecordTakesPRTx21
import Derived.Test.YtdckhaejhfkkbaaDoorCRecordTakesQ2
import Derived.Test.YtdckhaejhfkkbaaDoorCRecordTakesY
import Derived.Test.YtdckhaejhfkkbaaDoorCRecordTakesRL
section
namespace Go.Proofs.YtdckhaejhfkkbaaDoor.PRT
open Go.RowKit Go.Proofs.YtdckhaejhfkkbaaDoorW.PrintWords Go.Proofs.YtdckhaejhfkkbaaDoorW.PrintLast Go.Proofs.YtdckhaejhfkkbaaDoorW.PrintMore
attribute [local go_sem] max2_int min2_int max_two min_two max_three min_three max_four min_four
set_option linter.unusedVariables false
set_option linter.unusedSimpArgs false
end Go.Proofs.YtdckhaejhfkkbaaDoor.PRT
end
section
namespace Go.Proofs.YtdckhaejhfkkbaaDoor.Pu
open Go Go.RowKit Go.Proofs.YtdckhaejhfkkbaaDoor Go.Proofs.YtdckhaejhfkkbaaDoor.PRT Go.Proofs.YtdckhaejhfkkbaaDoorW.PrintWords Go.Proofs.YtdckhaejhfkkbaaDoorW.PrintLast Go.Proofs.YtdckhaejhfkkbaaDoorW.PrintMore
set_option linter.unusedVariables false
set_option linter.unusedSimpArgs false
abbrev Ent := S45
theorem rdE (l : List Ent) (n : Nat) : rd_T45 l (n : Int) = l.getD n z45 := by unfold rd_T45; rw [Int.toNat_natCast]
theorem dropE (l : List Ent) (n : Nat) (h : n < l.length) : l.drop n = l.getD n z45 :: l.drop (n + 1) := by
  rw [List.drop_eq_getElem_cons h, List.getD_eq_getElem?_getD, List.getElem?_eq_getElem h]
  rfl
def prE (x : Ent) : Int × Int × Int × Int := (x.f0, x.f1.f0, x.f1.f1, x.f1.f2)
theorem neE (x y : Ent) : ((!(x.f0 == y.f0) || (!(x.f1.f0 == y.f1.f0) || (!(x.f1.f1 == y.f1.f1) || (!(x.f1.f2 == y.f1.f2))))) = true) ↔ ¬ prE x = prE y := by
  unfold prE
  rw [Prod.mk.injEq, Prod.mk.injEq, Prod.mk.injEq]
  simp only [Bool.or_eq_true, Bool.not_eq_true', beq_eq_false_iff_ne, ne_eq]
  constructor
  · rintro (h | h | h | h) ⟨h1, h2, h3, h4⟩
    · exact h h1
    · exact h h2
    · exact h h3
    · exact h h4
  · intro h
    by_cases h1 : x.f0 = y.f0
    · by_cases h2 : x.f1.f0 = y.f1.f0
      · by_cases h3 : x.f1.f1 = y.f1.f1
        · by_cases h4 : x.f1.f2 = y.f1.f2
          · exact absurd ⟨h1, h2, h3, h4⟩ h
          · exact .inr (.inr (.inr h4))
        · exact .inr (.inr (.inl h3))
      · exact .inr (.inl h2)
    · exact .inl h1
theorem if_neg_fun {α : Type} {c : Prop} [Decidable c] {f g : Nat → Option α} (h : ¬ c) : (fun k => if c then f k else g k) = g := by funext k; rw [if_neg h]
theorem if_pos_fun {α : Type} {c : Prop} [Decidable c] {f g : Nat → Option α} (h : c) : (fun k => if c then f k else g k) = f := by funext k; rw [if_pos h]
theorem record_Same_l0 (a0 a1 b0 b1 : Int) (l2 m2 : List Lab) (l m : List Ent) (hs : l.length ≤ 1000000000000) (hlm : l.length = m.length) : ∀ (d n : Nat), n + d = l.length → Ev (fun k => record_Same.l0 k (l.length : Int) (n : Int) a0 a1 l2 l b0 b1 m2 m) (decide ((l.drop n).map prE = (m.drop n).map prE))
  | d, n, hd => by
    refine Ev.step (f := _) (fun k => by simp only [record_Same.l0]; rfl) ?_
    by_cases hlt : n < l.length
    · obtain ⟨d, rfl⟩ : ∃ e, d = e + 1 := ⟨d - 1, by omega⟩
      have e1 : (n : Int) < (l.length : Int) := by omega
      have e2 : (0 : Int) ≤ (n : Int) := by omega
      have e3 : (n : Int) < (m.length : Int) := by omega
      rw [dropE l n hlt, dropE m n (by omega), List.map_cons, List.map_cons]
      simp only [if_pos e1, if_pos e2, if_pos e3, rdE, w1 n (by omega)]
      have hne := neE (l.getD n z45) (m.getD n z45)
      by_cases h : prE (l.getD n z45) = prE (m.getD n z45)
      · rw [if_neg_fun (fun hh => hne.1 hh h)]
        rw [show decide (prE (l.getD n z45) :: (l.drop (n + 1)).map prE = prE (m.getD n z45) :: (m.drop (n + 1)).map prE) = decide ((l.drop (n + 1)).map prE = (m.drop (n + 1)).map prE) by rw [h]; simp]
        exact record_Same_l0 a0 a1 b0 b1 l2 m2 l m hs hlm d (n + 1) (by omega)
      · rw [if_pos_fun (hne.2 h)]
        rw [decide_eq_false (fun hh => h (List.cons.inj hh).1)]
        exact Ev.now _
    · simp only [if_neg (show ¬ (n : Int) < (l.length : Int) by omega)]
      rw [List.drop_of_length_le (by omega), List.drop_of_length_le (by omega)]
      exact Ev.now _
theorem record_Same_j0f (a0 a1 b0 b1 : Int) (l2 m2 : List Lab) (l m : List Ent) : Ev (fun k => record_Same.j0 k true a0 a1 l2 l b0 b1 m2 m) false := by
  refine Ev.step (f := _) (fun k => by simp only [record_Same.j0]; rfl) ?_
  simp only [if_true]
  exact Ev.now _
theorem record_Same_j0t (a0 a1 b0 b1 : Int) (l2 m2 : List Lab) (l m : List Ent) (hs : l.length ≤ 1000000000000) (hlm : l.length = m.length) : Ev (fun k => record_Same.j0 k false a0 a1 l2 l b0 b1 m2 m) (decide (l.map prE = m.map prE)) := by
  refine Ev.step (f := _) (fun k => by simp only [record_Same.j0]; rfl) ?_
  simp only [Bool.false_eq_true, if_false]
  exact record_Same_l0 a0 a1 b0 b1 l2 m2 l m hs hlm l.length 0 (by omega)
theorem manometerref13_Same_l0 (a0 a1 b0 b1 : Int) (l2 m2 : List Lab) (l m : List Ent) (hs : l.length ≤ 1000000000000) (hlm : l.length = m.length) : ∀ (d n : Nat), n + d = l.length → Ev (fun k => manometerref13_Same.l0 k (l.length : Int) (n : Int) a0 a1 l2 l b0 b1 m2 m) (decide ((l.drop n).map prE = (m.drop n).map prE))
  | d, n, hd => by
    refine Ev.step (f := _) (fun k => by simp only [manometerref13_Same.l0]; rfl) ?_
    by_cases hlt : n < l.length
    · obtain ⟨d, rfl⟩ : ∃ e, d = e + 1 := ⟨d - 1, by omega⟩
      have e1 : (n : Int) < (l.length : Int) := by omega
      have e2 : (0 : Int) ≤ (n : Int) := by omega
      have e3 : (n : Int) < (m.length : Int) := by omega
      rw [dropE l n hlt, dropE m n (by omega), List.map_cons, List.map_cons]
      simp only [if_pos e1, if_pos e2, if_pos e3, rdE, w1 n (by omega)]
      have hne := neE (l.getD n z45) (m.getD n z45)
      by_cases h : prE (l.getD n z45) = prE (m.getD n z45)
      · rw [if_neg_fun (fun hh => hne.1 hh h)]
        rw [show decide (prE (l.getD n z45) :: (l.drop (n + 1)).map prE = prE (m.getD n z45) :: (m.drop (n + 1)).map prE) = decide ((l.drop (n + 1)).map prE = (m.drop (n + 1)).map prE) by rw [h]; simp]
        exact manometerref13_Same_l0 a0 a1 b0 b1 l2 m2 l m hs hlm d (n + 1) (by omega)
      · rw [if_pos_fun (hne.2 h)]
        rw [decide_eq_false (fun hh => h (List.cons.inj hh).1)]
        exact Ev.now _
    · simp only [if_neg (show ¬ (n : Int) < (l.length : Int) by omega)]
      rw [List.drop_of_length_le (by omega), List.drop_of_length_le (by omega)]
      exact Ev.now _
theorem manometerref13_Same_j0f (a0 a1 b0 b1 : Int) (l2 m2 : List Lab) (l m : List Ent) : Ev (fun k => manometerref13_Same.j0 k true a0 a1 l2 l b0 b1 m2 m) false := by
  refine Ev.step (f := _) (fun k => by simp only [manometerref13_Same.j0]; rfl) ?_
  simp only [if_true]
  exact Ev.now _
theorem manometerref13_Same_j0t (a0 a1 b0 b1 : Int) (l2 m2 : List Lab) (l m : List Ent) (hs : l.length ≤ 1000000000000) (hlm : l.length = m.length) : Ev (fun k => manometerref13_Same.j0 k false a0 a1 l2 l b0 b1 m2 m) (decide (l.map prE = m.map prE)) := by
  refine Ev.step (f := _) (fun k => by simp only [manometerref13_Same.j0]; rfl) ?_
  simp only [Bool.false_eq_true, if_false]
  exact manometerref13_Same_l0 a0 a1 b0 b1 l2 m2 l m hs hlm l.length 0 (by omega)
def sameR (a0 a1 : Int) (l2 : List Lab) (l : List Ent) (b0 b1 : Int) (m2 : List Lab) (m : List Ent) : Bool := decide (a0 = b0) && (decide (a1 = b1) && (sameB l2 m2 && decide (l.map prE = m.map prE)))
theorem RSame_ev (a0 a1 b0 b1 : Int) (l2 m2 : List Lab) (l m : List Ent) (hs : l.length ≤ 1000000000000) (h2 : l2.length ≤ 1000000000000) : Ev (fun k => record_Same.f k a0 a1 l2 l b0 b1 m2 m) (sameR a0 a1 l2 l b0 b1 m2 m) ∧ Ev (fun k => manometerref13_Same.f k a0 a1 l2 l b0 b1 m2 m) (sameR a0 a1 l2 l b0 b1 m2 m) := by
  unfold record_Same.f manometerref13_Same.f sameR
  by_cases c0 : a0 = b0
  · by_cases c1 : a1 = b1
    · obtain ⟨s1, s2⟩ := Same_ev l2 m2 h2
      simp only [if_pos c0, if_pos c1, decide_eq_true c0, decide_eq_true c1, Bool.true_and]
      by_cases hl : l.length = m.length
      · have hb : ((l.length : Int) != (m.length : Int)) = false := by simp [hl]
        constructor
        · simp only [if_pos (show (l.length : Int) = (m.length : Int) by omega)]
          refine Ev.bind s1 ?_
          cases sameB l2 m2 with
          | false => exact record_Same_j0f _ _ _ _ _ _ _ _
          | true => exact record_Same_j0t _ _ _ _ _ _ _ _ hs hl
        · refine Ev.bind s2 ?_
          cases sameB l2 m2 with
          | false =>
            simp only [Bool.false_eq_true, if_false, Bool.false_and]
            exact manometerref13_Same_j0f _ _ _ _ _ _ _ _
          | true =>
            simp only [if_true, Bool.true_and, hb]
            exact manometerref13_Same_j0t _ _ _ _ _ _ _ _ hs hl
      · have hb : ((l.length : Int) != (m.length : Int)) = true := by simp; omega
        have hf : decide (l.map prE = m.map prE) = false := decide_eq_false (fun h => hl (by have := congrArg List.length h; rwa [List.length_map, List.length_map] at this))
        rw [hf, Bool.and_false]
        constructor
        · simp only [if_neg (show ¬ (l.length : Int) = (m.length : Int) by omega)]
          exact record_Same_j0f _ _ _ _ _ _ _ _
        · refine Ev.bind s2 ?_
          cases sameB l2 m2 with
          | false =>
            simp only [Bool.false_eq_true, if_false]
            exact manometerref13_Same_j0f _ _ _ _ _ _ _ _
          | true =>
            simp only [if_true, hb]
            exact manometerref13_Same_j0f _ _ _ _ _ _ _ _
    · simp only [if_pos c0, if_neg c1, decide_eq_false c1, Bool.false_and, Bool.and_false]
      exact ⟨record_Same_j0f _ _ _ _ _ _ _ _, manometerref13_Same_j0f _ _ _ _ _ _ _ _⟩
  · simp only [if_neg c0, decide_eq_false c0, Bool.false_and]
    exact ⟨record_Same_j0f _ _ _ _ _ _ _ _, manometerref13_Same_j0f _ _ _ _ _ _ _ _⟩
theorem sameR_refl (a0 a1 : Int) (l2 : List Lab) (l : List Ent) : sameR a0 a1 l2 l a0 a1 l2 l = true := by
  unfold sameR sameB
  simp
theorem live_60 : manometerlaw13_live.f 60 = some true := by kernel_rfl
theorem live_ev : Ev (fun k => manometerlaw13_live.f k) true := Ev.of manometerlaw13_live.mono live_60
end Go.Proofs.YtdckhaejhfkkbaaDoor.Pu
end
