import Derived.Test.YtbpmgaaipkenkaaDoorCLimitBytesM0
import Derived.Test.YtbpmgaaipkenkaaDoorCLimitBytesPMBx2
import Derived.Test.YtbpmgaaipkenkaaDoorCLimitBytesPMBx7
import Derived.Lib.LaidU8
import Derived.LaidMore
import Derived.Test.YtbpmgaaipkenkaaDoorCLimitBytesPMCx0
import Derived.Test.YtbpmgaaipkenkaaDoorRows
import Derived.Lib.LaidU8T
section
namespace Go.Proofs.YtbpmgaaipkenkaaDoor.Pu
open Go Go.RowKit Go.Proofs.YtbpmgaaipkenkaaDoor Go.Proofs.YtbpmgaaipkenkaaDoor.PMB Go.Proofs.YtbpmgaaipkenkaaDoorW.PrintWords Go.Proofs.YtbpmgaaipkenkaaDoorW.PrintLast Go.Proofs.YtbpmgaaipkenkaaDoorW.PrintMore
set_option linter.unusedVariables false
set_option linter.unusedSimpArgs false
abbrev U64 (x : Int) : Prop := 0 ≤ x ∧ x < 18446744073709551616
theorem wf_u64 {n : Int} (h : (Lit.int .u64 n).wf = true) : U64 n := by
  have h2 := (wf_iff' _ _).1 h
  have e1 : IntKind.u64.min = 0 := rfl
  have e2 : IntKind.u64.max = 18446744073709551615 := rfl
  rw [e1, e2] at h2
  omega
theorem okN_of {a b : Int} (ha : U64 a) (hb : U64 b) : okN a b = true := decide_eq_true ⟨ha, hb⟩
theorem live_now : (manometerlaw19_live.f) = some true := rfl
theorem bytes_l0 (l : List Int) (hl : l.length ≤ 1000000) (hw : ∀ x ∈ l, U64 x) : ∀ (d n : Nat) (u q : Int), n + d = l.length → U64 u → Ev (fun k => manometerlaw19_LimitBytes.l0 k l (l.length : Int) (n : Int) u q) true
  | d, n, u, q, hd, hu => by
    refine Ev.step (f := _) (fun k => by simp only [manometerlaw19_LimitBytes.l0]; rfl) ?_
    by_cases hlt : n < l.length
    · obtain ⟨d, rfl⟩ : ∃ e, d = e + 1 := ⟨d - 1, by omega⟩
      have hx : U64 (l.getD n 0) := hw _ (getD_mem l 0 n hlt)
      have e1 : (n : Int) < (l.length : Int) := by omega
      have e2 : (0 : Int) ≤ (n : Int) := by omega
      have er : rd l (n : Int) = l.getD n 0 := by unfold rd; rw [Int.toNat_natCast]
      generalize l.getD n 0 = x at *
      have hok := okN_of hu hx
      obtain ⟨p0, p1⟩ := plusF_rng hu.1 hx.1
      simp only [if_pos e1, if_pos e2, er, limit_Use.f, manometerref19_Use.f, if_pos hok, Option.bind_some, w1 n (by omega), beq_self_eq_true, Bool.not_true, Bool.or_self, Bool.false_eq_true, if_false, bne_self_eq_false]
      by_cases h : q < plusF u x
      · simp only [if_pos h, decide_eq_true h, Bool.not_true, Bool.false_eq_true, if_false]
        exact bytes_l0 l hl hw d (n + 1) u q (by omega) hu
      · simp only [if_neg h, decide_eq_false h, Bool.not_false, if_true]
        exact bytes_l0 l hl hw d (n + 1) _ q (by omega) ⟨p0, p1⟩
    · have e1 : ¬ (n : Int) < (l.length : Int) := by omega
      simp only [if_neg e1]
      exact Ev.now _
theorem limitBytes (u q : Int) (l : List Int) (hu : U64 u) (hw : ∀ x ∈ l, U64 x) : ∃ k, manometerlaw19_LimitBytes.f k u q l = some true := by
  refine Ev.rounds (g := fun k => manometerlaw19_LimitBytes.f k u q l) ?_
  unfold manometerlaw19_LimitBytes.f
  simp only [live_now, Option.bind_some, if_true]
  refine Ev.step (f := _) (fun k => by simp only [manometerlaw19_LimitBytes.j0]; rfl) ?_
  by_cases h : (l.length : Int) > 300
  · simp only [decide_eq_true h, if_true, live_now, Option.bind_some]
    exact Ev.now _
  · simp only [decide_eq_false h, Bool.false_eq_true, if_false]
    exact bytes_l0 l (by omega) hw l.length 0 u q (by omega) hu
end Go.Proofs.YtbpmgaaipkenkaaDoor.Pu
end
section
namespace Go.Proofs.YtbpmgaaipkenkaaDoor
open Go.RowKit
set_option linter.unusedVariables false
theorem laid_plain {P : Program} {w : World} {l : List (String × DataW Unit)} (h : laidMetH P l w) (hf : (l.filter fun x => x.2.handleName?.isSome).isEmpty = true) : laidMet P l w := by
  unfold laidMetH at h
  split at h
  · exact h
  · rename_i h2
    rw [h2] at hf
    cases hf
end Go.Proofs.YtbpmgaaipkenkaaDoor
end
section
namespace Go.Proofs.YtbpmgaaipkenkaaDoor
open Go Go.RowKit Go.Shelf
set_option linter.unusedVariables false
theorem first_same : Go.Pinned.utf8First = Lib.firstData := by kernel_rfl
theorem accept_same : (Rows.laid_unicode_utf8_acceptRanges : DataW Unit) = Lib.acceptData := by kernel_rfl
theorem tab_of {w : World} (h : laidMetH Tryd.prog [("unicode/utf8.acceptRanges", Rows.laid_unicode_utf8_acceptRanges), ("unicode/utf8.first", Rows.laid_unicode_utf8_first)] w) : Tab w := by
  have hp := laid_plain h (by kernel_rfl)
  have h4 := Lib.laidMet.reads hp (List.Mem.head _)
  have h3 := Lib.laidMet.reads hp (List.Mem.tail _ (List.Mem.head _))
  rw [accept_same] at h4
  rw [show Rows.laid_unicode_utf8_first = Go.Pinned.utf8First from rfl, first_same] at h3
  exact utf8Tabs_of_readsT (U8Types.of196 Tryd.laysValid) ⟨by kernel_rfl, by kernel_rfl, by kernel_rfl, by kernel_rfl, by kernel_rfl, by kernel_rfl, by kernel_rfl⟩ h3 h4
end Go.Proofs.YtbpmgaaipkenkaaDoor
end
section
namespace Go.Proofs.YtbpmgaaipkenkaaDoor
open Go.RowKit Go.Proofs.YtbpmgaaipkenkaaDoorW.PrintWords Go.Proofs.YtbpmgaaipkenkaaDoorW.PrintMore Go.Proofs.YtbpmgaaipkenkaaDoorW.PrintLast Go.Deep
set_option linter.unusedVariables false
section
variable {H : Type} {enc : TypeId × Value → H} {P : Program} {w : World} {base : Nat} {spare : Nat → Bool} {held : Bool}
theorem opens_iso {α β : Type} {d : Kd α} {wf : α → Prop} {t : TypeId} (f : β → α) (g : α → β) (hg : ∀ y, f (g y) = y) (h : Opens enc P w base spare held t d wf) :
    Opens enc P w base spare held t (Kd.iso d f) (fun x => wf (f x)) := by
  intro fuel cs x hx
  obtain ⟨a, hK, hw⟩ := h fuel cs x hx
  refine ⟨g a, ?_, ?_⟩
  · show d.K w (f (g a)) cs
    rw [hg]
    exact hK
  · show wf (f (g a))
    rw [hg]
    exact hw
theorem opens_val {α : Type} {d : Kd α} {wf : α → Prop} {t : TypeId} {cs : Array Value} {x : DataW H} {ps : List MemPlace} (h : Opens enc P w base spare held t d wf)
    (hT : DataW.Trod enc P w base spare held t (.agg cs) x ps) : ∃ a, d.K w a cs.toList ∧ wf a := by
  obtain ⟨fuel, hf⟩ := hT
  exact h fuel _ _ hf
end
end Go.Proofs.YtbpmgaaipkenkaaDoor
end
