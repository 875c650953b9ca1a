import Derived.Test.YtbpmgaaipkenkaaDoorCLimitFillsPMBx1
import Derived.Test.YtbpmgaaipkenkaaDoorCLimitFillsPMCx0
import Derived.Test.YtbpmgaaipkenkaaDoorCLimitFillsM0
import Derived.Test.YtbpmgaaipkenkaaDoorCLimitFillsPMBx4
import Derived.Lib.LaidU8
import Derived.LaidMore
import Derived.Test.YtbpmgaaipkenkaaDoorRows
import Derived.Lib.LaidU8T
section
namespace Go.Proofs.YtbpmgaaipkenkaaDoor.PMB
open Go.RowKit Go.Proofs.YtbpmgaaipkenkaaDoorW.PrintWords Go.Proofs.YtbpmgaaipkenkaaDoorW.PrintLast Go.Proofs.YtbpmgaaipkenkaaDoorW.PrintMore
attribute [local go_sem] max2_int min2_int max_two min_two max_three min_three max_four min_four
set_option linter.unusedVariables false
set_option linter.unusedSimpArgs false
end Go.Proofs.YtbpmgaaipkenkaaDoor.PMB
end
section
namespace Go.Proofs.YtbpmgaaipkenkaaDoor.PMB
open Go.RowKit Go.Proofs.YtbpmgaaipkenkaaDoorW.PrintWords Go.Proofs.YtbpmgaaipkenkaaDoorW.PrintLast Go.Proofs.YtbpmgaaipkenkaaDoorW.PrintMore
attribute [local go_sem] max2_int min2_int max_two min_two max_three min_three max_four min_four
set_option linter.unusedVariables false
set_option linter.unusedSimpArgs false
attribute [local go_sem high] eqA30
end Go.Proofs.YtbpmgaaipkenkaaDoor.PMB
end
section
namespace Go.Proofs.YtbpmgaaipkenkaaDoor.PMB
open Go.RowKit Go.Proofs.YtbpmgaaipkenkaaDoorW.PrintWords Go.Proofs.YtbpmgaaipkenkaaDoorW.PrintLast Go.Proofs.YtbpmgaaipkenkaaDoorW.PrintMore
attribute [local go_sem] max2_int min2_int max_two min_two max_three min_three max_four min_four
set_option linter.unusedVariables false
set_option linter.unusedSimpArgs false
theorem eqA42 (d : Nat) (w : World) (x0 y0 : Int) (x1 y1 : Int) :
  (Op.equalIn (d + 2) 42 (.agg #[.int .u64 x0, .int .u64 x1]) (.agg #[.int .u64 y0, .int .u64 y1])).run Tryd.prog w = .ok (x0 == y0 && (x1 == y1)) w := by
 refine eqA_of Tryd.underlying42 (by kernel_rfl) ?_
 refine eqf_cons (by rfl) (by go_simp; rfl) (by go_simp; rfl) (by go_simp) ?_
 exact eqf_last (by rfl) (by go_simp; rfl) (by go_simp; rfl) (by go_simp)
end Go.Proofs.YtbpmgaaipkenkaaDoor.PMB
end
section
namespace Go.Proofs.YtbpmgaaipkenkaaDoor.PMB
open Go.RowKit Go.Proofs.YtbpmgaaipkenkaaDoorW.PrintWords Go.Proofs.YtbpmgaaipkenkaaDoorW.PrintLast Go.Proofs.YtbpmgaaipkenkaaDoorW.PrintMore
attribute [local go_sem] max2_int min2_int max_two min_two max_three min_three max_four min_four
set_option linter.unusedVariables false
set_option linter.unusedSimpArgs false
attribute [local go_sem high] eqA42
end Go.Proofs.YtbpmgaaipkenkaaDoor.PMB
end
section
namespace Go.Proofs.YtbpmgaaipkenkaaDoor.Pu
open Go Go.RowKit Go.Proofs.YtbpmgaaipkenkaaDoor Go.Proofs.YtbpmgaaipkenkaaDoor.PMB Go.Proofs.YtbpmgaaipkenkaaDoorW.PrintWords Go.Proofs.YtbpmgaaipkenkaaDoorW.PrintLast Go.Proofs.YtbpmgaaipkenkaaDoorW.PrintMore
set_option linter.unusedVariables false
set_option linter.unusedSimpArgs false
abbrev U64 (x : Int) : Prop := 0 ≤ x ∧ x < 18446744073709551616
abbrev I64 (x : Int) : Prop := -9223372036854775808 ≤ x ∧ x ≤ 9223372036854775807
theorem wf_u64 {n : Int} (h : (Lit.int .u64 n).wf = true) : U64 n := by
  have h2 := (wf_iff' _ _).1 h
  have e1 : IntKind.u64.min = 0 := rfl
  have e2 : IntKind.u64.max = 18446744073709551615 := rfl
  rw [e1, e2] at h2
  omega
theorem wf_i64 {n : Int} (h : (Lit.int .i64 n).wf = true) : I64 n := by
  have h2 := (wf_iff' _ _).1 h
  have e1 : IntKind.i64.min = -9223372036854775808 := rfl
  have e2 : IntKind.i64.max = 9223372036854775807 := rfl
  rw [e1, e2] at h2
  exact h2
theorem okB_of {r b l a n : Int} (hr : U64 r) (hb : U64 b) (hl : U64 l) (ha : I64 a) (hn : I64 n) : okB r b l a n = true := decide_eq_true ⟨hr, hb, hl, ha, hn⟩
theorem live_now : (manometerlaw19_live.f) = some true := rfl
theorem lev_rng {r b l a n : Int} (hr : 0 ≤ r) (hb : U64 b) (hl : U64 l) : U64 (levF r b l a n) := by
  unfold levF
  split
  · exact hl
  · have ht := timesF_rng hr (show 0 ≤ n - a by omega)
    have hp := plusF_rng hl.1 ht.1
    split <;> omega
theorem tick_rng {a n : Int} (ha : I64 a) (hn : I64 n) : I64 (tickF a n) := by
  unfold tickF
  split <;> omega
theorem fills_j1 (x2 : Int) (r b v a p q s t : Int) (h : r = 0 ∨ IntKind.u64.wrap (IntKind.u64.wrap x2 - IntKind.u64.wrap a) ≤ IntKind.u64.wrap (Int.tdiv b r) ∨ s = b) : Ev (fun k => manometerlaw19_LimitFills.j1 k x2 false r b v a p q s t) true := by
  refine Ev.step (f := _) (fun k => by simp only [manometerlaw19_LimitFills.j1]; rfl) ?_
  simp only [Bool.false_eq_true, if_false]
  by_cases h1 : r = 0
  · simp only [if_pos h1]; exact Ev.now _
  · simp only [if_neg h1]
    by_cases h2 : IntKind.u64.wrap (IntKind.u64.wrap x2 - IntKind.u64.wrap a) ≤ IntKind.u64.wrap (Int.tdiv b r)
    · simp only [if_pos h2]; exact Ev.now _
    · simp only [if_neg h2]
      rcases h with h | h | h
      · exact absurd h h1
      · exact absurd h h2
      · rw [h]
        simp only [beq_self_eq_true]
        exact Ev.now _
theorem limitFills (r b v a one two : Int) (hr : U64 r) (hb : U64 b) (hv : U64 v) (ha : I64 a) (h1 : I64 one) (h2 : I64 two) : ∃ k, manometerlaw19_LimitFills.f k r b v a one two = some true := by
  refine Ev.rounds (g := fun k => manometerlaw19_LimitFills.f k r b v a one two) ?_
  unfold manometerlaw19_LimitFills.f
  have hno : Ev (fun k => manometerlaw19_LimitFills.j0 k one two true r b v a) true := by
    refine Ev.step (f := _) (fun k => by simp only [manometerlaw19_LimitFills.j0]; rfl) ?_
    simp only [if_true, live_now, Option.bind_some]
    exact Ev.now _
  simp only [live_now, Option.bind_some, if_true]
  by_cases c1 : v > b
  · simp only [if_pos c1]; exact hno
  · simp only [if_neg c1]
    by_cases c2 : one < a
    · simp only [if_pos c2]; exact hno
    · simp only [if_neg c2]
      by_cases c3 : two < one
      · simp only [decide_eq_true c3]; exact hno
      · simp only [decide_eq_false c3]
        have hlev := lev_rng (a := a) (n := one) hr.1 hb hv
        have htk := tick_rng ha h1
        have k1 := okB_of hr hb hv ha h1
        have k2 := okB_of hr hb hlev htk h2
        have k3 := okB_of hr hb hv ha h2
        obtain ⟨t1, t2⟩ := lev_two (r := r) (b := b) (l := v) (a := a) hr.1 (by unfold top; omega) hv.1 (by omega) (show a ≤ one by omega) (show one ≤ two by omega)
        have t1' : levF r b (levF r b v a one) (tickF a one) two = levF r b v a two := t1
        have t2' : tickF (tickF a one) two = tickF a two := t2
        have u1 : v ≤ levF r b v a one := lev_up hr.1 (by unfold top; omega) (by omega)
        have u2 : levF r b v a two ≤ b := lev_burst (by omega)
        have u4 : levF r b v a one ≤ levF r b v a two := by
          rw [← t1']
          exact lev_up hr.1 (by unfold top; omega) (lev_burst (by omega))
        refine Ev.step (f := _) (fun k => by simp only [manometerlaw19_LimitFills.j0]; rfl) ?_
        simp only [Bool.false_eq_true, if_false, limit_Fill.f, if_pos k1, if_pos k2, if_pos k3, Option.bind_some, t1', t2', if_neg (show ¬ levF r b v a one < v by omega), beq_self_eq_true, Bool.not_true, Bool.or_self, if_neg (show ¬ levF r b v a two > b by omega), decide_eq_false (show ¬ levF r b v a two < levF r b v a one by omega)]
        refine fills_j1 two r b v a _ _ _ _ ?_
        by_cases hr0 : r = 0
        · exact .inl hr0
        · right
          obtain ⟨g1, g2, g3⟩ := ticks ha.1 ha.2 h2.1 h2.2 (show a ≤ two by omega)
          have hq : Int.tdiv b r = b / r := Int.tdiv_eq_ediv_of_nonneg hb.1
          have hq1 : b / r ≤ b := Int.ediv_le_self _ hb.1
          have hq0 : 0 ≤ b / r := Int.ediv_nonneg hb.1 hr.1
          rw [g1, hq, wrap64u (b / r)]
          by_cases hg : two - a ≤ b / r % 18446744073709551616
          · exact .inl hg
          · right
            exact lev_full (by omega) hb.1 (by unfold top; omega) hv.1 (by omega) (by omega) (by omega)
end Go.Proofs.YtbpmgaaipkenkaaDoor.Pu
end
section
namespace Go.Proofs.YtbpmgaaipkenkaaDoor
open Go.RowKit
set_option linter.unusedVariables false
theorem laid_plain {P : Program} {w : World} {l : List (String × DataW Unit)} (h : laidMetH P l w) (hf : (l.filter fun x => x.2.handleName?.isSome).isEmpty = true) : laidMet P l w := by
  unfold laidMetH at h
  split at h
  · exact h
  · rename_i h2
    rw [h2] at hf
    cases hf
end Go.Proofs.YtbpmgaaipkenkaaDoor
end
section
namespace Go.Proofs.YtbpmgaaipkenkaaDoor
open Go Go.RowKit Go.Shelf
set_option linter.unusedVariables false
theorem first_same : Go.Pinned.utf8First = Lib.firstData := by kernel_rfl
theorem accept_same : (Rows.laid_unicode_utf8_acceptRanges : DataW Unit) = Lib.acceptData := by kernel_rfl
theorem tab_of {w : World} (h : laidMetH Tryd.prog [("unicode/utf8.acceptRanges", Rows.laid_unicode_utf8_acceptRanges), ("unicode/utf8.first", Rows.laid_unicode_utf8_first)] w) : Tab w := by
  have hp := laid_plain h (by kernel_rfl)
  have h4 := Lib.laidMet.reads hp (List.Mem.head _)
  have h3 := Lib.laidMet.reads hp (List.Mem.tail _ (List.Mem.head _))
  rw [accept_same] at h4
  rw [show Rows.laid_unicode_utf8_first = Go.Pinned.utf8First from rfl, first_same] at h3
  exact utf8Tabs_of_readsT (U8Types.of196 Tryd.laysValid) ⟨by kernel_rfl, by kernel_rfl, by kernel_rfl, by kernel_rfl, by kernel_rfl, by kernel_rfl, by kernel_rfl⟩ h3 h4
end Go.Proofs.YtbpmgaaipkenkaaDoor
end
section
namespace Go.Proofs.YtbpmgaaipkenkaaDoor
open Go.RowKit Go.Proofs.YtbpmgaaipkenkaaDoorW.PrintWords Go.Proofs.YtbpmgaaipkenkaaDoorW.PrintMore Go.Proofs.YtbpmgaaipkenkaaDoorW.PrintLast Go.Deep
set_option linter.unusedVariables false
section
variable {H : Type} {enc : TypeId × Value → H} {P : Program} {w : World} {base : Nat} {spare : Nat → Bool} {held : Bool}
theorem opens_iso {α β : Type} {d : Kd α} {wf : α → Prop} {t : TypeId} (f : β → α) (g : α → β) (hg : ∀ y, f (g y) = y) (h : Opens enc P w base spare held t d wf) :
    Opens enc P w base spare held t (Kd.iso d f) (fun x => wf (f x)) := by
  intro fuel cs x hx
  obtain ⟨a, hK, hw⟩ := h fuel cs x hx
  refine ⟨g a, ?_, ?_⟩
  · show d.K w (f (g a)) cs
    rw [hg]
    exact hK
  · show wf (f (g a))
    rw [hg]
    exact hw
theorem opens_val {α : Type} {d : Kd α} {wf : α → Prop} {t : TypeId} {cs : Array Value} {x : DataW H} {ps : List MemPlace} (h : Opens enc P w base spare held t d wf)
    (hT : DataW.Trod enc P w base spare held t (.agg cs) x ps) : ∃ a, d.K w a cs.toList ∧ wf a := by
  obtain ⟨fuel, hf⟩ := hT
  exact h fuel _ _ hf
end
end Go.Proofs.YtbpmgaaipkenkaaDoor
end
