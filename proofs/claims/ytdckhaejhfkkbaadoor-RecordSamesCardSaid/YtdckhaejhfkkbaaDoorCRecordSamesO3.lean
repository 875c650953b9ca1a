import Derived.Test.YtdckhaejhfkkbaaDoorCRecordSamesRL
import Derived.Test.YtdckhaejhfkkbaaDoorCRecordSamesPRTx21
import Derived.Test.YtdckhaejhfkkbaaDoorCRecordSamesPRTx15
import Derived.Test.YtdckhaejhfkkbaaDoorCRecordSamesPRTx22
import Derived.Test.YtdckhaejhfkkbaaDoorCRecordSamesG1
import Derived.Lib.LaidU8
import Derived.LaidMore
import Derived.Test.YtdckhaejhfkkbaaDoorCRecordSamesPRTx2
import Derived.Test.YtdckhaejhfkkbaaDoorRows
import Derived.Lib.LaidU8T
section
namespace Go.Proofs.YtdckhaejhfkkbaaDoor.Pu
open Go Go.RowKit Go.Proofs.YtdckhaejhfkkbaaDoor Go.Proofs.YtdckhaejhfkkbaaDoor.PRT Go.Proofs.YtdckhaejhfkkbaaDoorW.PrintWords Go.Proofs.YtdckhaejhfkkbaaDoorW.PrintLast Go.Proofs.YtdckhaejhfkkbaaDoorW.PrintMore
set_option linter.unusedVariables false
set_option linter.unusedSimpArgs false
abbrev Ent := S45
theorem rdE (l : List Ent) (n : Nat) : rd_T45 l (n : Int) = l.getD n z45 := by unfold rd_T45; rw [Int.toNat_natCast]
theorem dropE (l : List Ent) (n : Nat) (h : n < l.length) : l.drop n = l.getD n z45 :: l.drop (n + 1) := by
  rw [List.drop_eq_getElem_cons h, List.getD_eq_getElem?_getD, List.getElem?_eq_getElem h]
  rfl
def prE (x : Ent) : Int × Int × Int × Int := (x.f0, x.f1.f0, x.f1.f1, x.f1.f2)
theorem neE (x y : Ent) : ((!(x.f0 == y.f0) || (!(x.f1.f0 == y.f1.f0) || (!(x.f1.f1 == y.f1.f1) || (!(x.f1.f2 == y.f1.f2))))) = true) ↔ ¬ prE x = prE y := by
  unfold prE
  rw [Prod.mk.injEq, Prod.mk.injEq, Prod.mk.injEq]
  simp only [Bool.or_eq_true, Bool.not_eq_true', beq_eq_false_iff_ne, ne_eq]
  constructor
  · rintro (h | h | h | h) ⟨h1, h2, h3, h4⟩
    · exact h h1
    · exact h h2
    · exact h h3
    · exact h h4
  · intro h
    by_cases h1 : x.f0 = y.f0
    · by_cases h2 : x.f1.f0 = y.f1.f0
      · by_cases h3 : x.f1.f1 = y.f1.f1
        · by_cases h4 : x.f1.f2 = y.f1.f2
          · exact absurd ⟨h1, h2, h3, h4⟩ h
          · exact .inr (.inr (.inr h4))
        · exact .inr (.inr (.inl h3))
      · exact .inr (.inl h2)
    · exact .inl h1
theorem if_neg_fun {α : Type} {c : Prop} [Decidable c] {f g : Nat → Option α} (h : ¬ c) : (fun k => if c then f k else g k) = g := by funext k; rw [if_neg h]
theorem if_pos_fun {α : Type} {c : Prop} [Decidable c] {f g : Nat → Option α} (h : c) : (fun k => if c then f k else g k) = f := by funext k; rw [if_pos h]
theorem record_Same_l0 (a0 a1 b0 b1 : Int) (l2 m2 : List Lab) (l m : List Ent) (hs : l.length ≤ 1000000000000) (hlm : l.length = m.length) : ∀ (d n : Nat), n + d = l.length → Ev (fun k => record_Same.l0 k (l.length : Int) (n : Int) a0 a1 l2 l b0 b1 m2 m) (decide ((l.drop n).map prE = (m.drop n).map prE))
  | d, n, hd => by
    refine Ev.step (f := _) (fun k => by simp only [record_Same.l0]; rfl) ?_
    by_cases hlt : n < l.length
    · obtain ⟨d, rfl⟩ : ∃ e, d = e + 1 := ⟨d - 1, by omega⟩
      have e1 : (n : Int) < (l.length : Int) := by omega
      have e2 : (0 : Int) ≤ (n : Int) := by omega
      have e3 : (n : Int) < (m.length : Int) := by omega
      rw [dropE l n hlt, dropE m n (by omega), List.map_cons, List.map_cons]
      simp only [if_pos e1, if_pos e2, if_pos e3, rdE, w1 n (by omega)]
      have hne := neE (l.getD n z45) (m.getD n z45)
      by_cases h : prE (l.getD n z45) = prE (m.getD n z45)
      · rw [if_neg_fun (fun hh => hne.1 hh h)]
        rw [show decide (prE (l.getD n z45) :: (l.drop (n + 1)).map prE = prE (m.getD n z45) :: (m.drop (n + 1)).map prE) = decide ((l.drop (n + 1)).map prE = (m.drop (n + 1)).map prE) by rw [h]; simp]
        exact record_Same_l0 a0 a1 b0 b1 l2 m2 l m hs hlm d (n + 1) (by omega)
      · rw [if_pos_fun (hne.2 h)]
        rw [decide_eq_false (fun hh => h (List.cons.inj hh).1)]
        exact Ev.now _
    · simp only [if_neg (show ¬ (n : Int) < (l.length : Int) by omega)]
      rw [List.drop_of_length_le (by omega), List.drop_of_length_le (by omega)]
      exact Ev.now _
theorem record_Same_j0f (a0 a1 b0 b1 : Int) (l2 m2 : List Lab) (l m : List Ent) : Ev (fun k => record_Same.j0 k true a0 a1 l2 l b0 b1 m2 m) false := by
  refine Ev.step (f := _) (fun k => by simp only [record_Same.j0]; rfl) ?_
  simp only [if_true]
  exact Ev.now _
theorem record_Same_j0t (a0 a1 b0 b1 : Int) (l2 m2 : List Lab) (l m : List Ent) (hs : l.length ≤ 1000000000000) (hlm : l.length = m.length) : Ev (fun k => record_Same.j0 k false a0 a1 l2 l b0 b1 m2 m) (decide (l.map prE = m.map prE)) := by
  refine Ev.step (f := _) (fun k => by simp only [record_Same.j0]; rfl) ?_
  simp only [Bool.false_eq_true, if_false]
  exact record_Same_l0 a0 a1 b0 b1 l2 m2 l m hs hlm l.length 0 (by omega)
theorem manometerref13_Same_l0 (a0 a1 b0 b1 : Int) (l2 m2 : List Lab) (l m : List Ent) (hs : l.length ≤ 1000000000000) (hlm : l.length = m.length) : ∀ (d n : Nat), n + d = l.length → Ev (fun k => manometerref13_Same.l0 k (l.length : Int) (n : Int) a0 a1 l2 l b0 b1 m2 m) (decide ((l.drop n).map prE = (m.drop n).map prE))
  | d, n, hd => by
    refine Ev.step (f := _) (fun k => by simp only [manometerref13_Same.l0]; rfl) ?_
    by_cases hlt : n < l.length
    · obtain ⟨d, rfl⟩ : ∃ e, d = e + 1 := ⟨d - 1, by omega⟩
      have e1 : (n : Int) < (l.length : Int) := by omega
      have e2 : (0 : Int) ≤ (n : Int) := by omega
      have e3 : (n : Int) < (m.length : Int) := by omega
      rw [dropE l n hlt, dropE m n (by omega), List.map_cons, List.map_cons]
      simp only [if_pos e1, if_pos e2, if_pos e3, rdE, w1 n (by omega)]
      have hne := neE (l.getD n z45) (m.getD n z45)
      by_cases h : prE (l.getD n z45) = prE (m.getD n z45)
      · rw [if_neg_fun (fun hh => hne.1 hh h)]
        rw [show decide (prE (l.getD n z45) :: (l.drop (n + 1)).map prE = prE (m.getD n z45) :: (m.drop (n + 1)).map prE) = decide ((l.drop (n + 1)).map prE = (m.drop (n + 1)).map prE) by rw [h]; simp]
        exact manometerref13_Same_l0 a0 a1 b0 b1 l2 m2 l m hs hlm d (n + 1) (by omega)
      · rw [if_pos_fun (hne.2 h)]
        rw [decide_eq_false (fun hh => h (List.cons.inj hh).1)]
        exact Ev.now _
    · simp only [if_neg (show ¬ (n : Int) < (l.length : Int) by omega)]
      rw [List.drop_of_length_le (by omega), List.drop_of_length_le (by omega)]
      exact Ev.now _
theorem manometerref13_Same_j0f (a0 a1 b0 b1 : Int) (l2 m2 : List Lab) (l m : List Ent) : Ev (fun k => manometerref13_Same.j0 k true a0 a1 l2 l b0 b1 m2 m) false := by
  refine Ev.step (f := _) (fun k => by simp only [manometerref13_Same.j0]; rfl) ?_
  simp only [if_true]
  exact Ev.now _
theorem manometerref13_Same_j0t (a0 a1 b0 b1 : Int) (l2 m2 : List Lab) (l m : List Ent) (hs : l.length ≤ 1000000000000) (hlm : l.length = m.length) : Ev (fun k => manometerref13_Same.j0 k false a0 a1 l2 l b0 b1 m2 m) (decide (l.map prE = m.map prE)) := by
  refine Ev.step (f := _) (fun k => by simp only [manometerref13_Same.j0]; rfl) ?_
  simp only [Bool.false_eq_true, if_false]
  exact manometerref13_Same_l0 a0 a1 b0 b1 l2 m2 l m hs hlm l.length 0 (by omega)
def sameR (a0 a1 : Int) (l2 : List Lab) (l : List Ent) (b0 b1 : Int) (m2 : List Lab) (m : List Ent) : Bool := decide (a0 = b0) && (decide (a1 = b1) && (sameB l2 m2 && decide (l.map prE = m.map prE)))
theorem RSame_ev (a0 a1 b0 b1 : Int) (l2 m2 : List Lab) (l m : List Ent) (hs : l.length ≤ 1000000000000) (h2 : l2.length ≤ 1000000000000) : Ev (fun k => record_Same.f k a0 a1 l2 l b0 b1 m2 m) (sameR a0 a1 l2 l b0 b1 m2 m) ∧ Ev (fun k => manometerref13_Same.f k a0 a1 l2 l b0 b1 m2 m) (sameR a0 a1 l2 l b0 b1 m2 m) := by
  unfold record_Same.f manometerref13_Same.f sameR
  by_cases c0 : a0 = b0
  · by_cases c1 : a1 = b1
    · obtain ⟨s1, s2⟩ := Same_ev l2 m2 h2
      simp only [if_pos c0, if_pos c1, decide_eq_true c0, decide_eq_true c1, Bool.true_and]
      by_cases hl : l.length = m.length
      · have hb : ((l.length : Int) != (m.length : Int)) = false := by simp [hl]
        constructor
        · simp only [if_pos (show (l.length : Int) = (m.length : Int) by omega)]
          refine Ev.bind s1 ?_
          cases sameB l2 m2 with
          | false => exact record_Same_j0f _ _ _ _ _ _ _ _
          | true => exact record_Same_j0t _ _ _ _ _ _ _ _ hs hl
        · refine Ev.bind s2 ?_
          cases sameB l2 m2 with
          | false =>
            simp only [Bool.false_eq_true, if_false, Bool.false_and]
            exact manometerref13_Same_j0f _ _ _ _ _ _ _ _
          | true =>
            simp only [if_true, Bool.true_and, hb]
            exact manometerref13_Same_j0t _ _ _ _ _ _ _ _ hs hl
      · have hb : ((l.length : Int) != (m.length : Int)) = true := by simp; omega
        have hf : decide (l.map prE = m.map prE) = false := decide_eq_false (fun h => hl (by have := congrArg List.length h; rwa [List.length_map, List.length_map] at this))
        rw [hf, Bool.and_false]
        constructor
        · simp only [if_neg (show ¬ (l.length : Int) = (m.length : Int) by omega)]
          exact record_Same_j0f _ _ _ _ _ _ _ _
        · refine Ev.bind s2 ?_
          cases sameB l2 m2 with
          | false =>
            simp only [Bool.false_eq_true, if_false]
            exact manometerref13_Same_j0f _ _ _ _ _ _ _ _
          | true =>
            simp only [if_true, hb]
            exact manometerref13_Same_j0f _ _ _ _ _ _ _ _
    · simp only [if_pos c0, if_neg c1, decide_eq_false c1, Bool.false_and, Bool.and_false]
      exact ⟨record_Same_j0f _ _ _ _ _ _ _ _, manometerref13_Same_j0f _ _ _ _ _ _ _ _⟩
  · simp only [if_neg c0, decide_eq_false c0, Bool.false_and]
    exact ⟨record_Same_j0f _ _ _ _ _ _ _ _, manometerref13_Same_j0f _ _ _ _ _ _ _ _⟩
theorem sameR_refl (a0 a1 : Int) (l2 : List Lab) (l : List Ent) : sameR a0 a1 l2 l a0 a1 l2 l = true := by
  unfold sameR sameB
  simp
theorem few_l0 (a0 a1 : Int) (l2 Y : List Lab) (l : List Ent) (hY : Y.length ≤ 1000) : ∀ (d n : Nat), n + d = Y.length → ∃ r, Ev (fun k => manometerlaw13_few.l0 k Y (Y.length : Int) (n : Int) a0 a1 l2 l) r ∧ (r = true → (l2.length ≤ 40 ∧ l.length ≤ 400) ∧ ∀ j, n ≤ j → j < Y.length → (Y.getD j z52).f0.size ≤ 300 ∧ (Y.getD j z52).f1.size ≤ 300)
  | d, n, hd => by
    by_cases hlt : n < Y.length
    · obtain ⟨d, rfl⟩ : ∃ e, d = e + 1 := ⟨d - 1, by omega⟩
      have e1 : (n : Int) < (Y.length : Int) := by omega
      have e2 : (0 : Int) ≤ (n : Int) := by omega
      by_cases h0 : (Y.getD n z52).f0.size ≤ 300
      · by_cases h1 : (Y.getD n z52).f1.size ≤ 300
        · obtain ⟨r, hr, hp⟩ := few_l0 a0 a1 l2 Y l hY d (n + 1) (by omega)
          refine ⟨r, Ev.step (f := _) (fun k => by simp only [manometerlaw13_few.l0]; rfl) ?_, fun hh => ⟨(hp hh).1, fun j hj hjl => ?_⟩⟩
          · simp only [if_pos e1, if_pos e2, rdn, if_neg (show ¬ ((Y.getD n z52).f0.size : Int) > 300 by omega), if_neg (show ¬ ((Y.getD n z52).f1.size : Int) > 300 by omega), w1 n (by omega)]
            exact hr
          · by_cases hjn : j = n
            · subst hjn
              exact ⟨h0, h1⟩
            · exact (hp hh).2 j (by omega) hjl
        · refine ⟨false, Ev.step (f := _) (fun k => by simp only [manometerlaw13_few.l0]; rfl) ?_, (fun h => by cases h)⟩
          simp only [if_pos e1, if_pos e2, rdn, if_neg (show ¬ ((Y.getD n z52).f0.size : Int) > 300 by omega), if_pos (show ((Y.getD n z52).f1.size : Int) > 300 by omega)]
          exact Ev.now _
      · refine ⟨false, Ev.step (f := _) (fun k => by simp only [manometerlaw13_few.l0]; rfl) ?_, (fun h => by cases h)⟩
        simp only [if_pos e1, if_pos e2, rdn, if_pos (show ((Y.getD n z52).f0.size : Int) > 300 by omega)]
        exact Ev.now _
    · by_cases h40 : l2.length ≤ 40
      · refine ⟨decide ((l.length : Int) ≤ 400), Ev.step (f := _) (fun k => by simp only [manometerlaw13_few.l0]; rfl) ?_, fun hh => ⟨⟨h40, by have := of_decide_eq_true hh; omega⟩, fun j hj hjl => by omega⟩⟩
        simp only [if_neg (show ¬ (n : Int) < (Y.length : Int) by omega), if_pos (show (l2.length : Int) ≤ 40 by omega)]
        exact Ev.now _
      · refine ⟨false, Ev.step (f := _) (fun k => by simp only [manometerlaw13_few.l0]; rfl) ?_, (fun h => by cases h)⟩
        simp only [if_neg (show ¬ (n : Int) < (Y.length : Int) by omega), if_neg (show ¬ (l2.length : Int) ≤ 40 by omega)]
        exact Ev.now _
theorem few_ev (a0 a1 : Int) (l2 : List Lab) (l : List Ent) : ∃ r, Ev (fun k => manometerlaw13_few.f k a0 a1 l2 l) r ∧ (r = true → (l2.length ≤ 40 ∧ l.length ≤ 400) ∧ ∀ x ∈ l2, x.f0.size ≤ 300 ∧ x.f1.size ≤ 300) := by
  have hm : mn (l2.length : Int) 40 = ((min l2.length 40 : Nat) : Int) := by unfold mn; omega
  obtain ⟨r, hr, hp⟩ := few_l0 a0 a1 l2 (l2.take (min l2.length 40)) l (by rw [List.length_take]; omega) (l2.take (min l2.length 40)).length 0 (by omega)
  refine ⟨r, ?_, fun hh => ⟨(hp hh).1, fun x hx => ?_⟩⟩
  · unfold manometerlaw13_few.f
    rw [hm]
    simp only [if_pos (show (0 : Int) ≤ ((min l2.length 40 : Nat) : Int) by omega), if_pos (show ((min l2.length 40 : Nat) : Int) ≤ (l2.length : Int) by omega), Option.bind_some, Int.toNat_natCast]
    exact hr
  · obtain ⟨⟨h40, _⟩, h2⟩ := hp hh
    rw [List.take_of_length_le (by omega)] at h2
    obtain ⟨j, hjl, rfl⟩ := List.mem_iff_getElem.1 hx
    have := h2 j (Nat.zero_le _) hjl
    rwa [List.getD_eq_getElem?_getD, List.getElem?_eq_getElem hjl] at this
theorem live_60 : manometerlaw13_live.f 60 = some true := by kernel_rfl
theorem live_ev : Ev (fun k => manometerlaw13_live.f k) true := Ev.of manometerlaw13_live.mono live_60
theorem recordSames (a0 a1 b0 b1 : Int) (l2 m2 : List Lab) (l m : List Ent) : ∃ k, manometerlaw13_RecordSames.f k a0 a1 l2 l b0 b1 m2 m = some true := by
  refine Ev.rounds (g := fun k => manometerlaw13_RecordSames.f k a0 a1 l2 l b0 b1 m2 m) ?_
  unfold manometerlaw13_RecordSames.f
  refine Ev.bind live_ev ?_
  simp only [if_true]
  obtain ⟨r, hr, hp⟩ := few_ev a0 a1 l2 l
  refine Ev.bind hr ?_
  cases r with
  | false =>
    simp only [Bool.false_eq_true, if_false]
    exact Ev.now _
  | true =>
    simp only [if_true]
    obtain ⟨⟨h1, h2⟩, -⟩ := hp rfl
    obtain ⟨r2, hr2, hp2⟩ := few_ev b0 b1 m2 m
    refine Ev.bind hr2 ?_
    cases r2 with
    | false =>
      simp only [Bool.false_eq_true, if_false]
      exact Ev.now _
    | true =>
      simp only [if_true]
      obtain ⟨s1, s2⟩ := RSame_ev a0 a1 b0 b1 l2 m2 l m (by omega) (by omega)
      refine Ev.bind s1 ?_
      refine Ev.bind s2 ?_
      simp only [beq_self_eq_true, if_true]
      have s3 := (RSame_ev a0 a1 a0 a1 l2 l2 l l (by omega) (by omega)).1
      rw [sameR_refl] at s3
      exact Ev.bind s3 (Ev.now _)
end Go.Proofs.YtdckhaejhfkkbaaDoor.Pu
end
section
namespace Go.Proofs.YtdckhaejhfkkbaaDoor
open Go.RowKit
set_option linter.unusedVariables false
theorem laid_plain {P : Program} {w : World} {l : List (String × DataW Unit)} (h : laidMetH P l w) (hf : (l.filter fun x => x.2.handleName?.isSome).isEmpty = true) : laidMet P l w := by
  unfold laidMetH at h
  split at h
  · exact h
  · rename_i h2
    rw [h2] at hf
    cases hf
end Go.Proofs.YtdckhaejhfkkbaaDoor
end
section
namespace Go.Proofs.YtdckhaejhfkkbaaDoor
open Go Go.RowKit Go.Shelf
set_option linter.unusedVariables false
theorem first_same : Go.Pinned.utf8First = Lib.firstData := by kernel_rfl
theorem accept_same : (Rows.laid_unicode_utf8_acceptRanges : DataW Unit) = Lib.acceptData := by kernel_rfl
theorem tab_of {w : World} (h : laidMetH Tryd.prog [("unicode/utf8.acceptRanges", Rows.laid_unicode_utf8_acceptRanges), ("unicode/utf8.first", Rows.laid_unicode_utf8_first)] w) : Tab w := by
  have hp := laid_plain h (by kernel_rfl)
  have h4 := Lib.laidMet.reads hp (List.Mem.head _)
  have h3 := Lib.laidMet.reads hp (List.Mem.tail _ (List.Mem.head _))
  rw [accept_same] at h4
  rw [show Rows.laid_unicode_utf8_first = Go.Pinned.utf8First from rfl, first_same] at h3
  exact utf8Tabs_of_readsT (U8Types.of196 Tryd.laysValid) ⟨by kernel_rfl, by kernel_rfl, by kernel_rfl, by kernel_rfl, by kernel_rfl, by kernel_rfl, by kernel_rfl⟩ h3 h4
end Go.Proofs.YtdckhaejhfkkbaaDoor
end
section
namespace Go.Proofs.YtdckhaejhfkkbaaDoor
open Go.RowKit Go.Proofs.YtdckhaejhfkkbaaDoorW.PrintWords Go.Proofs.YtdckhaejhfkkbaaDoorW.PrintMore Go.Proofs.YtdckhaejhfkkbaaDoorW.PrintLast Go.Deep
set_option linter.unusedVariables false
section
variable {H : Type} {enc : TypeId × Value → H} {P : Program} {w : World} {base : Nat} {spare : Nat → Bool} {held : Bool}
theorem opens_iso {α β : Type} {d : Kd α} {wf : α → Prop} {t : TypeId} (f : β → α) (g : α → β) (hg : ∀ y, f (g y) = y) (h : Opens enc P w base spare held t d wf) :
    Opens enc P w base spare held t (Kd.iso d f) (fun x => wf (f x)) := by
  intro fuel cs x hx
  obtain ⟨a, hK, hw⟩ := h fuel cs x hx
  refine ⟨g a, ?_, ?_⟩
  · show d.K w (f (g a)) cs
    rw [hg]
    exact hK
  · show wf (f (g a))
    rw [hg]
    exact hw
theorem opens_val {α : Type} {d : Kd α} {wf : α → Prop} {t : TypeId} {cs : Array Value} {x : DataW H} {ps : List MemPlace} (h : Opens enc P w base spare held t d wf)
    (hT : DataW.Trod enc P w base spare held t (.agg cs) x ps) : ∃ a, d.K w a cs.toList ∧ wf a := by
  obtain ⟨fuel, hf⟩ := hT
  exact h fuel _ _ hf
end
end Go.Proofs.YtdckhaejhfkkbaaDoor
end
