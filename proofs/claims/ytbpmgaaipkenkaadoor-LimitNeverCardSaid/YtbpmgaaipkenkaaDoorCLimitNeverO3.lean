import Derived.Test.YtbpmgaaipkenkaaDoorCLimitNeverPMSx7
import Derived.Test.YtbpmgaaipkenkaaDoorCLimitNeverPV
import Derived.Test.YtbpmgaaipkenkaaDoorCLimitNeverG2
import Derived.Lib.LaidU8
import Derived.LaidMore
import Derived.Test.YtbpmgaaipkenkaaDoorCLimitNeverPMCx0
import Derived.Test.YtbpmgaaipkenkaaDoorRows
import Derived.Lib.LaidU8T
section
namespace Go.Proofs.YtbpmgaaipkenkaaDoor.Pv
open Go Go.RowKit Go.Proofs.YtbpmgaaipkenkaaDoor Go.Proofs.YtbpmgaaipkenkaaDoor.Pu Go.Proofs.YtbpmgaaipkenkaaDoor.PMS Go.Proofs.YtbpmgaaipkenkaaDoorW.PrintWords Go.Proofs.YtbpmgaaipkenkaaDoorW.PrintLast Go.Proofs.YtbpmgaaipkenkaaDoorW.PrintMore
set_option linter.unusedVariables false
set_option linter.unusedSimpArgs false
def Short (x : List Lab) : Prop := x.length ≤ 30 ∧ ∀ y ∈ x, y.f0.size ≤ 300 ∧ y.f1.size ≤ 300
theorem Short.sm {x : List Lab} (h : Short x) : Sm x := ⟨by have := h.1; omega, fun y hy => by have := h.2 y hy; omega⟩
theorem few_l1 (L Y : List (List Lab)) (n : Nat) (x : List Lab) (hx : x.length ≤ 30) (P : Prop) (hcont : Short x → ∃ r, Ev (fun k => manometerlaw19_few.l0 k L Y (Y.length : Int) (wrap64 ((n : Int) + 1))) r ∧ (r = true → P)) :
    ∀ (d m : Nat), m + d = x.length → (∀ j, j < m → (x.getD j z66).f0.size ≤ 300 ∧ (x.getD j z66).f1.size ≤ 300) → ∃ r, Ev (fun k => manometerlaw19_few.l1 k L Y (Y.length : Int) (n : Int) x (x.length : Int) (m : Int)) r ∧ (r = true → P)
  | d, m, hd, hj => by
    by_cases hlt : m < x.length
    · obtain ⟨d, rfl⟩ : ∃ e, d = e + 1 := ⟨d - 1, by omega⟩
      have e1 : (m : Int) < (x.length : Int) := by omega
      have e2 : (0 : Int) ≤ (m : Int) := by omega
      have ih := few_l1 L Y n x hx P hcont d (m + 1) (by omega)
      by_cases h0 : (x.getD m z66).f0.size ≤ 300
      · by_cases h1 : (x.getD m z66).f1.size ≤ 300
        · obtain ⟨r, hr, hp⟩ := ih (fun j hjm => by
            by_cases he : j < m
            · exact hj j he
            · obtain rfl : j = m := by omega
              exact ⟨h0, h1⟩)
          refine ⟨r, Ev.step (f := _) (fun k => by simp only [manometerlaw19_few.l1]; rfl) ?_, hp⟩
          simp only [if_pos e1, if_pos e2, rdn, if_neg (show ¬ ((x.getD m z66).f0.size : Int) > 300 by omega), if_neg (show ¬ ((x.getD m z66).f1.size : Int) > 300 by omega), w1 m (by omega)]
          exact hr
        · refine ⟨false, Ev.step (f := _) (fun k => by simp only [manometerlaw19_few.l1]; rfl) ?_, fun h => by cases h⟩
          simp only [if_pos e1, if_pos e2, rdn, if_neg (show ¬ ((x.getD m z66).f0.size : Int) > 300 by omega), if_pos (show ((x.getD m z66).f1.size : Int) > 300 by omega)]
          exact Ev.now _
      · refine ⟨false, Ev.step (f := _) (fun k => by simp only [manometerlaw19_few.l1]; rfl) ?_, fun h => by cases h⟩
        simp only [if_pos e1, if_pos e2, rdn, if_pos (show ((x.getD m z66).f0.size : Int) > 300 by omega)]
        exact Ev.now _
    · obtain ⟨r, hr, hp⟩ := hcont ⟨hx, fun y hy => by
        obtain ⟨j, hjl, rfl⟩ := List.mem_iff_getElem.1 hy
        have := hj j (by omega)
        rwa [List.getD_eq_getElem?_getD, List.getElem?_eq_getElem hjl] at this⟩
      refine ⟨r, Ev.step (f := _) (fun k => by simp only [manometerlaw19_few.l1]; rfl) ?_, hp⟩
      simp only [if_neg (show ¬ (m : Int) < (x.length : Int) by omega)]
      exact hr
theorem rdl (l : List (List Lab)) (n : Nat) : rd_L5 l (n : Int) = l.getD n [] := by unfold rd_L5; rw [Int.toNat_natCast]
theorem few_l0 (L Y : List (List Lab)) (hY : Y.length ≤ 40) : ∀ (d n : Nat), n + d = Y.length → (∀ j, j < n → Short (Y.getD j [])) →
    ∃ r, Ev (fun k => manometerlaw19_few.l0 k L Y (Y.length : Int) (n : Int)) r ∧ (r = true → L.length ≤ 40 ∧ ∀ x ∈ Y, Short x)
  | d, n, hd, hj => by
    by_cases hlt : n < Y.length
    · obtain ⟨d, rfl⟩ : ∃ e, d = e + 1 := ⟨d - 1, by omega⟩
      have e1 : (n : Int) < (Y.length : Int) := by omega
      have e2 : (0 : Int) ≤ (n : Int) := by omega
      by_cases h30 : (Y.getD n []).length ≤ 30
      · obtain ⟨r, hr, hp⟩ := few_l1 L Y n (Y.getD n []) h30 (L.length ≤ 40 ∧ ∀ x ∈ Y, Short x) (fun hs => by
          rw [w1 n (by omega)]
          exact few_l0 L Y hY d (n + 1) (by omega) (fun j hjn => by
            by_cases he : j < n
            · exact hj j he
            · obtain rfl : j = n := by omega
              exact hs)) (Y.getD n []).length 0 (by omega) (fun j h => absurd h (Nat.not_lt_zero j))
        refine ⟨r, Ev.step (f := _) (fun k => by simp only [manometerlaw19_few.l0]; rfl) ?_, hp⟩
        simp only [if_pos e1, if_pos e2, rdl, if_neg (show ¬ ((Y.getD n []).length : Int) > 30 by omega)]
        exact hr
      · refine ⟨false, Ev.step (f := _) (fun k => by simp only [manometerlaw19_few.l0]; rfl) ?_, fun h => by cases h⟩
        simp only [if_pos e1, if_pos e2, rdl, if_pos (show ((Y.getD n []).length : Int) > 30 by omega)]
        exact Ev.now _
    · refine ⟨decide ((L.length : Int) ≤ 40), Ev.step (f := _) (fun k => by simp only [manometerlaw19_few.l0]; rfl) ?_, fun h => ?_⟩
      · simp only [if_neg (show ¬ (n : Int) < (Y.length : Int) by omega)]
        exact Ev.now _
      · have := of_decide_eq_true h
        refine ⟨by omega, fun x hx => ?_⟩
        obtain ⟨j, hjl, rfl⟩ := List.mem_iff_getElem.1 hx
        have := hj j (by omega)
        rwa [List.getD_eq_getElem?_getD, List.getElem?_eq_getElem hjl] at this
theorem few_all (L : List (List Lab)) : ∃ r, (∃ k, manometerlaw19_few.f k L = some r) ∧ (r = true → L.length ≤ 40 ∧ ∀ x ∈ L, Short x) := by
  have hm : mn (L.length : Int) 40 = ((min L.length 40 : Nat) : Int) := by unfold mn; omega
  obtain ⟨r, hr, hp⟩ := few_l0 L (L.take (min L.length 40)) (by rw [List.length_take]; omega) (L.take (min L.length 40)).length 0 (by omega) (fun j h => absurd h (Nat.not_lt_zero j))
  refine ⟨r, Ev.rounds (g := fun k => manometerlaw19_few.f k L) ?_, fun h => ?_⟩
  · unfold manometerlaw19_few.f
    rw [hm]
    simp only [if_pos (show (0 : Int) ≤ ((min L.length 40 : Nat) : Int) by omega), if_pos (show ((min L.length 40 : Nat) : Int) ≤ (L.length : Int) by omega), Option.bind_some, Int.toNat_natCast]
    exact hr
  · obtain ⟨h1, h2⟩ := hp h
    refine ⟨h1, fun x hx => h2 x ?_⟩
    rw [List.take_of_length_le (by omega)]
    exact hx
open Classical in
noncomputable def rtS (x : List Lab) : Int := if Sm x then rightB x else 1
noncomputable def nmS (x : List Lab) : ByteArray := str (printL x)
theorem facts_sm {x : List Lab} (h : Sm x) : x.length < 4398046511104 ∧ (∃ k, labels_Right.f k x = some (rtS x)) ∧ (rtS x = 0 → ∃ k, labels_Print.f k x = some (nmS x)) := by
  have e : rtS x = rightB x := if_pos h
  refine ⟨by have := h.1; omega, ?_, fun _ => Ev.rounds (g := fun k => labels_Print.f k x) (Print_ev x h)⟩
  rw [e]
  exact Ev.rounds (g := fun k => labels_Right.f k x) (Right_ev x h).1
theorem sm_of {x : List Lab} (h : rtS x = 0) : Sm x := by
  unfold rtS at h
  split at h
  · assumption
  · cases h
theorem facts : Facts rtS nmS cmpB :=
  ⟨fun L => by
    obtain ⟨r, h1, h2⟩ := few_all L
    exact ⟨r, h1, fun h => ⟨(h2 h).1, fun x hx => facts_sm ((h2 h).2 x hx).sm⟩⟩,
   fun x h => facts_sm (sm_of h),
   fun x y hx hy => Ev.rounds (g := fun k => labels_Compare.f k x y) (Compare_ev x y (by have := (sm_of hx).1; omega)).1⟩
end Go.Proofs.YtbpmgaaipkenkaaDoor.Pv
namespace Go.Proofs.YtbpmgaaipkenkaaDoor.PMS
abbrev S52 := ComeS
abbrev k52 := kCome
end Go.Proofs.YtbpmgaaipkenkaaDoor.PMS
end
section
namespace Go.Proofs.YtbpmgaaipkenkaaDoor
open Go.RowKit
set_option linter.unusedVariables false
theorem laid_plain {P : Program} {w : World} {l : List (String × DataW Unit)} (h : laidMetH P l w) (hf : (l.filter fun x => x.2.handleName?.isSome).isEmpty = true) : laidMet P l w := by
  unfold laidMetH at h
  split at h
  · exact h
  · rename_i h2
    rw [h2] at hf
    cases hf
end Go.Proofs.YtbpmgaaipkenkaaDoor
end
section
namespace Go.Proofs.YtbpmgaaipkenkaaDoor
open Go Go.RowKit Go.Shelf
set_option linter.unusedVariables false
theorem first_same : Go.Pinned.utf8First = Lib.firstData := by kernel_rfl
theorem accept_same : (Rows.laid_unicode_utf8_acceptRanges : DataW Unit) = Lib.acceptData := by kernel_rfl
theorem tab_of {w : World} (h : laidMetH Tryd.prog [("unicode/utf8.acceptRanges", Rows.laid_unicode_utf8_acceptRanges), ("unicode/utf8.first", Rows.laid_unicode_utf8_first)] w) : Tab w := by
  have hp := laid_plain h (by kernel_rfl)
  have h4 := Lib.laidMet.reads hp (List.Mem.head _)
  have h3 := Lib.laidMet.reads hp (List.Mem.tail _ (List.Mem.head _))
  rw [accept_same] at h4
  rw [show Rows.laid_unicode_utf8_first = Go.Pinned.utf8First from rfl, first_same] at h3
  exact utf8Tabs_of_readsT (U8Types.of196 Tryd.laysValid) ⟨by kernel_rfl, by kernel_rfl, by kernel_rfl, by kernel_rfl, by kernel_rfl, by kernel_rfl, by kernel_rfl⟩ h3 h4
end Go.Proofs.YtbpmgaaipkenkaaDoor
end
section
namespace Go.Proofs.YtbpmgaaipkenkaaDoor
open Go.RowKit Go.Proofs.YtbpmgaaipkenkaaDoorW.PrintWords Go.Proofs.YtbpmgaaipkenkaaDoorW.PrintMore Go.Proofs.YtbpmgaaipkenkaaDoorW.PrintLast Go.Deep
set_option linter.unusedVariables false
section
variable {H : Type} {enc : TypeId × Value → H} {P : Program} {w : World} {base : Nat} {spare : Nat → Bool} {held : Bool}
theorem opens_iso {α β : Type} {d : Kd α} {wf : α → Prop} {t : TypeId} (f : β → α) (g : α → β) (hg : ∀ y, f (g y) = y) (h : Opens enc P w base spare held t d wf) :
    Opens enc P w base spare held t (Kd.iso d f) (fun x => wf (f x)) := by
  intro fuel cs x hx
  obtain ⟨a, hK, hw⟩ := h fuel cs x hx
  refine ⟨g a, ?_, ?_⟩
  · show d.K w (f (g a)) cs
    rw [hg]
    exact hK
  · show wf (f (g a))
    rw [hg]
    exact hw
end
end Go.Proofs.YtbpmgaaipkenkaaDoor
end
