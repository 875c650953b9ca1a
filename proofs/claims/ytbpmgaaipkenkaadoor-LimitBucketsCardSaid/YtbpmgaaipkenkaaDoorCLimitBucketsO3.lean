import Derived.Test.YtbpmgaaipkenkaaDoorCLimitBucketsPMBx5
import Derived.Test.YtbpmgaaipkenkaaDoorCLimitBucketsPMCx0
import Derived.Test.YtbpmgaaipkenkaaDoorCLimitBucketsM0
import Derived.Test.YtbpmgaaipkenkaaDoorCLimitBucketsPMBx6
import Derived.Lib.LaidU8
import Derived.LaidMore
import Derived.Test.YtbpmgaaipkenkaaDoorRows
import Derived.Lib.LaidU8T
section
namespace Go.Proofs.YtbpmgaaipkenkaaDoor.PMB
open Go.RowKit Go.Proofs.YtbpmgaaipkenkaaDoorW.PrintWords Go.Proofs.YtbpmgaaipkenkaaDoorW.PrintLast Go.Proofs.YtbpmgaaipkenkaaDoorW.PrintMore
attribute [local go_sem] max2_int min2_int max_two min_two max_three min_three max_four min_four
set_option linter.unusedVariables false
set_option linter.unusedSimpArgs false
theorem eqA42 (d : Nat) (w : World) (x0 y0 : Int) (x1 y1 : Int) :
  (Op.equalIn (d + 2) 42 (.agg #[.int .u64 x0, .int .u64 x1]) (.agg #[.int .u64 y0, .int .u64 y1])).run Tryd.prog w = .ok (x0 == y0 && (x1 == y1)) w := by
 refine eqA_of Tryd.underlying42 (by kernel_rfl) ?_
 refine eqf_cons (by rfl) (by go_simp; rfl) (by go_simp; rfl) (by go_simp) ?_
 exact eqf_last (by rfl) (by go_simp; rfl) (by go_simp; rfl) (by go_simp)
end Go.Proofs.YtbpmgaaipkenkaaDoor.PMB
end
section
namespace Go.Proofs.YtbpmgaaipkenkaaDoor.PMB
open Go.RowKit Go.Proofs.YtbpmgaaipkenkaaDoorW.PrintWords Go.Proofs.YtbpmgaaipkenkaaDoorW.PrintLast Go.Proofs.YtbpmgaaipkenkaaDoorW.PrintMore
attribute [local go_sem] max2_int min2_int max_two min_two max_three min_three max_four min_four
set_option linter.unusedVariables false
set_option linter.unusedSimpArgs false
attribute [local go_sem high] eqA42
end Go.Proofs.YtbpmgaaipkenkaaDoor.PMB
end
section
namespace Go.Proofs.YtbpmgaaipkenkaaDoor.Pu
open Go Go.RowKit Go.Proofs.YtbpmgaaipkenkaaDoor Go.Proofs.YtbpmgaaipkenkaaDoor.PMB Go.Proofs.YtbpmgaaipkenkaaDoorW.PrintWords Go.Proofs.YtbpmgaaipkenkaaDoorW.PrintLast Go.Proofs.YtbpmgaaipkenkaaDoorW.PrintMore
set_option linter.unusedVariables false
set_option linter.unusedSimpArgs false
abbrev U64 (x : Int) : Prop := 0 ≤ x ∧ x < 18446744073709551616
abbrev I64 (x : Int) : Prop := -9223372036854775808 ≤ x ∧ x ≤ 9223372036854775807
theorem wf_u64 {n : Int} (h : (Lit.int .u64 n).wf = true) : U64 n := by
  have h2 := (wf_iff' _ _).1 h
  have e1 : IntKind.u64.min = 0 := rfl
  have e2 : IntKind.u64.max = 18446744073709551615 := rfl
  rw [e1, e2] at h2
  omega
theorem wf_i64 {n : Int} (h : (Lit.int .i64 n).wf = true) : I64 n := by
  have h2 := (wf_iff' _ _).1 h
  have e1 : IntKind.i64.min = -9223372036854775808 := rfl
  have e2 : IntKind.i64.max = 9223372036854775807 := rfl
  rw [e1, e2] at h2
  exact h2
theorem okB_of {r b l a n : Int} (hr : U64 r) (hb : U64 b) (hl : U64 l) (ha : I64 a) (hn : I64 n) : okB r b l a n = true := decide_eq_true ⟨hr, hb, hl, ha, hn⟩
theorem live_now : (manometerlaw19_live.f) = some true := rfl
abbrev OpS := S33
abbrev OpW (x : OpS) : Prop := I64 x.f0 ∧ U64 x.f1 ∧ U64 x.f3 ∧ U64 x.f4
theorem rdop (l : List OpS) (n : Nat) : rd_T33 l (n : Int) = l.getD n z33 := by unfold rd_T33; rw [Int.toNat_natCast]
theorem lev_rng {r b l a n : Int} (hr : 0 ≤ r) (hb : U64 b) (hl : U64 l) : U64 (levF r b l a n) := by
  unfold levF
  split
  · exact hl
  · have ht := timesF_rng hr (show 0 ≤ n - a by omega)
    have hp := plusF_rng hl.1 ht.1
    split <;> omega
theorem tick_rng {a n : Int} (ha : I64 a) (hn : I64 n) : I64 (tickF a n) := by
  unfold tickF
  split <;> omega
theorem buckets_l0 (l : List OpS) (hl : l.length ≤ 1000000) (hw : ∀ x ∈ l, OpW x) : ∀ (d n : Nat) (r b v a : Int), n + d = l.length → U64 r → U64 b → U64 v → I64 a →
    Ev (fun k => manometerlaw19_LimitBuckets.l0 k l (l.length : Int) (n : Int) r b v a r b v a) true
  | d, n, r, b, v, a, hd, hr, hb, hv, ha => by
    refine Ev.step (f := _) (fun k => by simp only [manometerlaw19_LimitBuckets.l0]; rfl) ?_
    by_cases hlt : n < l.length
    · obtain ⟨d, rfl⟩ : ∃ e, d = e + 1 := ⟨d - 1, by omega⟩
      obtain ⟨x0, x1, x3, x4⟩ : OpW (l.getD n z33) := hw _ (getD_mem l _ n hlt)
      have e1 : (n : Int) < (l.length : Int) := by omega
      have e2 : (0 : Int) ≤ (n : Int) := by omega
      have ih := buckets_l0 l hl hw d (n + 1)
      generalize hx : l.getD n z33 = x at *
      have hok := okB_of hr hb hv ha x0
      have hlev := lev_rng (a := a) (n := x.f0) hr.1 hb hv
      have htk := tick_rng ha x0
      simp only [if_pos e1, if_pos e2, rdop, hx, limit_Fill.f, manometerref19_Fill.f, if_pos hok, Option.bind_some, beq_self_eq_true, Bool.not_true, Bool.or_self, Bool.false_eq_true, if_false]
      by_cases ht : x.f2 = true
      · simp only [if_pos ht, limit_Turn.f, manometerref19_Turn.f, if_pos hok, Option.bind_some]
        refine Ev.step (f := _) (fun k => by simp only [manometerlaw19_LimitBuckets.j2]; rfl) ?_
        simp only [beq_self_eq_true, Bool.not_true, Bool.or_self, Bool.false_eq_true, if_false, w1 n (by omega)]
        exact ih x.f3 x.f4 _ _ (by omega) x3 x4 (by split <;> omega) htk
      · simp only [if_neg ht, limit_Take.f, manometerref19_Take.f, if_pos hok, Option.bind_some, bne_self_eq_false, Bool.false_eq_true, if_false]
        refine Ev.step (f := _) (fun k => by simp only [manometerlaw19_LimitBuckets.j2]; rfl) ?_
        simp only [beq_self_eq_true, Bool.not_true, Bool.or_self, Bool.false_eq_true, if_false, w1 n (by omega)]
        exact ih r b _ _ (by omega) hr hb (by
          split
          · exact hlev
          · rw [wrap64u]
            omega) htk
    · have e1 : ¬ (n : Int) < (l.length : Int) := by omega
      simp only [if_neg e1]
      exact Ev.now _
theorem limitBuckets (r b v a : Int) (l : List OpS) (hr : U64 r) (hb : U64 b) (hv : U64 v) (ha : I64 a) (hw : ∀ x ∈ l, OpW x) : ∃ k, manometerlaw19_LimitBuckets.f k r b v a l = some true := by
  refine Ev.rounds (g := fun k => manometerlaw19_LimitBuckets.f k r b v a l) ?_
  unfold manometerlaw19_LimitBuckets.f
  simp only [live_now, Option.bind_some, if_true]
  by_cases h : (l.length : Int) > 300
  · simp only [if_pos h]
    refine Ev.step (f := _) (fun k => by simp only [manometerlaw19_LimitBuckets.j0]; rfl) ?_
    simp only [if_true, live_now, Option.bind_some, decide_eq_true h]
    exact Ev.now _
  · simp only [if_neg h, limit_Full.f, manometerref19_Full.f, Option.bind_some, beq_self_eq_true, Bool.not_true, Bool.or_self]
    refine Ev.step (f := _) (fun k => by simp only [manometerlaw19_LimitBuckets.j0]; rfl) ?_
    simp only [Bool.false_eq_true, if_false]
    exact buckets_l0 l (by omega) hw l.length 0 r b v a (by omega) hr hb hv ha
end Go.Proofs.YtbpmgaaipkenkaaDoor.Pu
end
section
namespace Go.Proofs.YtbpmgaaipkenkaaDoor
open Go.RowKit
set_option linter.unusedVariables false
theorem laid_plain {P : Program} {w : World} {l : List (String × DataW Unit)} (h : laidMetH P l w) (hf : (l.filter fun x => x.2.handleName?.isSome).isEmpty = true) : laidMet P l w := by
  unfold laidMetH at h
  split at h
  · exact h
  · rename_i h2
    rw [h2] at hf
    cases hf
end Go.Proofs.YtbpmgaaipkenkaaDoor
end
section
namespace Go.Proofs.YtbpmgaaipkenkaaDoor
open Go Go.RowKit Go.Shelf
set_option linter.unusedVariables false
theorem first_same : Go.Pinned.utf8First = Lib.firstData := by kernel_rfl
theorem accept_same : (Rows.laid_unicode_utf8_acceptRanges : DataW Unit) = Lib.acceptData := by kernel_rfl
theorem tab_of {w : World} (h : laidMetH Tryd.prog [("unicode/utf8.acceptRanges", Rows.laid_unicode_utf8_acceptRanges), ("unicode/utf8.first", Rows.laid_unicode_utf8_first)] w) : Tab w := by
  have hp := laid_plain h (by kernel_rfl)
  have h4 := Lib.laidMet.reads hp (List.Mem.head _)
  have h3 := Lib.laidMet.reads hp (List.Mem.tail _ (List.Mem.head _))
  rw [accept_same] at h4
  rw [show Rows.laid_unicode_utf8_first = Go.Pinned.utf8First from rfl, first_same] at h3
  exact utf8Tabs_of_readsT (U8Types.of196 Tryd.laysValid) ⟨by kernel_rfl, by kernel_rfl, by kernel_rfl, by kernel_rfl, by kernel_rfl, by kernel_rfl, by kernel_rfl⟩ h3 h4
end Go.Proofs.YtbpmgaaipkenkaaDoor
end
section
namespace Go.Proofs.YtbpmgaaipkenkaaDoor
open Go.RowKit Go.Proofs.YtbpmgaaipkenkaaDoorW.PrintWords Go.Proofs.YtbpmgaaipkenkaaDoorW.PrintMore Go.Proofs.YtbpmgaaipkenkaaDoorW.PrintLast Go.Deep
set_option linter.unusedVariables false
section
variable {H : Type} {enc : TypeId × Value → H} {P : Program} {w : World} {base : Nat} {spare : Nat → Bool} {held : Bool}
theorem opens_iso {α β : Type} {d : Kd α} {wf : α → Prop} {t : TypeId} (f : β → α) (g : α → β) (hg : ∀ y, f (g y) = y) (h : Opens enc P w base spare held t d wf) :
    Opens enc P w base spare held t (Kd.iso d f) (fun x => wf (f x)) := by
  intro fuel cs x hx
  obtain ⟨a, hK, hw⟩ := h fuel cs x hx
  refine ⟨g a, ?_, ?_⟩
  · show d.K w (f (g a)) cs
    rw [hg]
    exact hK
  · show wf (f (g a))
    rw [hg]
    exact hw
theorem opens_val {α : Type} {d : Kd α} {wf : α → Prop} {t : TypeId} {cs : Array Value} {x : DataW H} {ps : List MemPlace} (h : Opens enc P w base spare held t d wf)
    (hT : DataW.Trod enc P w base spare held t (.agg cs) x ps) : ∃ a, d.K w a cs.toList ∧ wf a := by
  obtain ⟨fuel, hf⟩ := hT
  exact h fuel _ _ hf
end
end Go.Proofs.YtbpmgaaipkenkaaDoor
end
