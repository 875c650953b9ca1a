import Derived.Test.YtbpmgaaipkenkaaDoorCLimitBoundPMBx0
import Derived.Test.YtbpmgaaipkenkaaDoorCLimitBoundPMCx0
import Derived.Test.YtbpmgaaipkenkaaDoorCLimitBoundPMBx3
import Derived.Test.YtbpmgaaipkenkaaDoorCLimitBoundM0
import Derived.Lib.LaidU8
import Derived.LaidMore
import Derived.Test.YtbpmgaaipkenkaaDoorRows
import Derived.Lib.LaidU8T
section
namespace Go.Proofs.YtbpmgaaipkenkaaDoor.PMB
open Go.RowKit Go.Proofs.YtbpmgaaipkenkaaDoorW.PrintWords Go.Proofs.YtbpmgaaipkenkaaDoorW.PrintLast Go.Proofs.YtbpmgaaipkenkaaDoorW.PrintMore
attribute [local go_sem] max2_int min2_int max_two min_two max_three min_three max_four min_four
set_option linter.unusedVariables false
set_option linter.unusedSimpArgs false
theorem eqA30 (d : Nat) (w : World) (x0 y0 : Int) (x1 y1 : Int) (x2 y2 : Int) (x3 y3 : Int) :
  (Op.equalIn (d + 2) 30 (.agg #[.int .u64 x0, .int .u64 x1, .int .u64 x2, .int .i64 x3]) (.agg #[.int .u64 y0, .int .u64 y1, .int .u64 y2, .int .i64 y3])).run Tryd.prog w = .ok (x0 == y0 && (x1 == y1 && (x2 == y2 && (x3 == y3)))) w := by
 refine eqA_of Tryd.underlying30 (by kernel_rfl) ?_
 refine eqf_cons (by rfl) (by go_simp; rfl) (by go_simp; rfl) (by go_simp) ?_
 refine eqf_cons (by rfl) (by go_simp; rfl) (by go_simp; rfl) (by go_simp) ?_
 refine eqf_cons (by rfl) (by go_simp; rfl) (by go_simp; rfl) (by go_simp) ?_
 exact eqf_last (by rfl) (by go_simp; rfl) (by go_simp; rfl) (by go_simp)
end Go.Proofs.YtbpmgaaipkenkaaDoor.PMB
end
section
namespace Go.Proofs.YtbpmgaaipkenkaaDoor.PMB
open Go.RowKit Go.Proofs.YtbpmgaaipkenkaaDoorW.PrintWords Go.Proofs.YtbpmgaaipkenkaaDoorW.PrintLast Go.Proofs.YtbpmgaaipkenkaaDoorW.PrintMore
attribute [local go_sem] max2_int min2_int max_two min_two max_three min_three max_four min_four
set_option linter.unusedVariables false
set_option linter.unusedSimpArgs false
attribute [local go_sem high] eqA30
end Go.Proofs.YtbpmgaaipkenkaaDoor.PMB
end
section
namespace Go.Proofs.YtbpmgaaipkenkaaDoor.PMB
open Go.RowKit Go.Proofs.YtbpmgaaipkenkaaDoorW.PrintWords Go.Proofs.YtbpmgaaipkenkaaDoorW.PrintLast Go.Proofs.YtbpmgaaipkenkaaDoorW.PrintMore
attribute [local go_sem] max2_int min2_int max_two min_two max_three min_three max_four min_four
set_option linter.unusedVariables false
set_option linter.unusedSimpArgs false
end Go.Proofs.YtbpmgaaipkenkaaDoor.PMB
end
section
namespace Go.Proofs.YtbpmgaaipkenkaaDoor.PMB
open Go.RowKit Go.Proofs.YtbpmgaaipkenkaaDoorW.PrintWords Go.Proofs.YtbpmgaaipkenkaaDoorW.PrintLast Go.Proofs.YtbpmgaaipkenkaaDoorW.PrintMore
attribute [local go_sem] max2_int min2_int max_two min_two max_three min_three max_four min_four
set_option linter.unusedVariables false
set_option linter.unusedSimpArgs false
attribute [local go_sem high] eqA30
end Go.Proofs.YtbpmgaaipkenkaaDoor.PMB
end
section
namespace Go.Proofs.YtbpmgaaipkenkaaDoor.PMB
open Go.RowKit Go.Proofs.YtbpmgaaipkenkaaDoorW.PrintWords Go.Proofs.YtbpmgaaipkenkaaDoorW.PrintLast Go.Proofs.YtbpmgaaipkenkaaDoorW.PrintMore
attribute [local go_sem] max2_int min2_int max_two min_two max_three min_three max_four min_four
set_option linter.unusedVariables false
set_option linter.unusedSimpArgs false
theorem eqA42 (d : Nat) (w : World) (x0 y0 : Int) (x1 y1 : Int) :
  (Op.equalIn (d + 2) 42 (.agg #[.int .u64 x0, .int .u64 x1]) (.agg #[.int .u64 y0, .int .u64 y1])).run Tryd.prog w = .ok (x0 == y0 && (x1 == y1)) w := by
 refine eqA_of Tryd.underlying42 (by kernel_rfl) ?_
 refine eqf_cons (by rfl) (by go_simp; rfl) (by go_simp; rfl) (by go_simp) ?_
 exact eqf_last (by rfl) (by go_simp; rfl) (by go_simp; rfl) (by go_simp)
end Go.Proofs.YtbpmgaaipkenkaaDoor.PMB
end
section
namespace Go.Proofs.YtbpmgaaipkenkaaDoor.PMB
open Go.RowKit Go.Proofs.YtbpmgaaipkenkaaDoorW.PrintWords Go.Proofs.YtbpmgaaipkenkaaDoorW.PrintLast Go.Proofs.YtbpmgaaipkenkaaDoorW.PrintMore
attribute [local go_sem] max2_int min2_int max_two min_two max_three min_three max_four min_four
set_option linter.unusedVariables false
set_option linter.unusedSimpArgs false
attribute [local go_sem high] eqA42
end Go.Proofs.YtbpmgaaipkenkaaDoor.PMB
end
section
namespace Go.Proofs.YtbpmgaaipkenkaaDoor.Pu
open Go Go.RowKit Go.Proofs.YtbpmgaaipkenkaaDoor Go.Proofs.YtbpmgaaipkenkaaDoor.PMB Go.Proofs.YtbpmgaaipkenkaaDoorW.PrintWords Go.Proofs.YtbpmgaaipkenkaaDoorW.PrintLast Go.Proofs.YtbpmgaaipkenkaaDoorW.PrintMore
set_option linter.unusedVariables false
set_option linter.unusedSimpArgs false
abbrev U64 (x : Int) : Prop := 0 ≤ x ∧ x < 18446744073709551616
abbrev I64 (x : Int) : Prop := -9223372036854775808 ≤ x ∧ x ≤ 9223372036854775807
theorem wf_u64 {n : Int} (h : (Lit.int .u64 n).wf = true) : U64 n := by
  have h2 := (wf_iff' _ _).1 h
  have e1 : IntKind.u64.min = 0 := rfl
  have e2 : IntKind.u64.max = 18446744073709551615 := rfl
  rw [e1, e2] at h2
  omega
theorem wf_i64 {n : Int} (h : (Lit.int .i64 n).wf = true) : I64 n := by
  have h2 := (wf_iff' _ _).1 h
  have e1 : IntKind.i64.min = -9223372036854775808 := rfl
  have e2 : IntKind.i64.max = 9223372036854775807 := rfl
  rw [e1, e2] at h2
  exact h2
theorem okN_of {a b : Int} (ha : U64 a) (hb : U64 b) : okN a b = true := decide_eq_true ⟨ha, hb⟩
theorem okB_of {r b l a n : Int} (hr : U64 r) (hb : U64 b) (hl : U64 l) (ha : I64 a) (hn : I64 n) : okB r b l a n = true := decide_eq_true ⟨hr, hb, hl, ha, hn⟩
theorem live_now : (manometerlaw19_live.f) = some true := rfl
abbrev OpS := S33
abbrev OpW (x : OpS) : Prop := I64 x.f0 ∧ U64 x.f1 ∧ U64 x.f3 ∧ U64 x.f4
theorem rdop (l : List OpS) (n : Nat) : rd_T33 l (n : Int) = l.getD n z33 := by unfold rd_T33; rw [Int.toNat_natCast]
theorem lev_rng {r b l a n : Int} (hr : 0 ≤ r) (hb : U64 b) (hl : U64 l) : U64 (levF r b l a n) := by
  unfold levF
  split
  · exact hl
  · have ht := timesF_rng hr (show 0 ≤ n - a by omega)
    have hp := plusF_rng hl.1 ht.1
    split <;> omega
def pairs (l : List OpS) : List (Int × Int) := l.map fun x => (x.f0, x.f1)
theorem pairs_len (l : List OpS) : (pairs l).length = l.length := List.length_map _
theorem took_l0 (l : List OpS) (hl : l.length ≤ 1000000) (hw : ∀ x ∈ l, OpW x) (r b : Int) (hr : U64 r) (hb : U64 b) : ∀ (d n : Nat) (out : List OpS) (now v : Int), n + d = l.length → out.length ≤ n → I64 now → Took r b (pairs out) now v → (∀ x ∈ out, OpW x) →
    ∃ out', Ev (fun k => manometerlaw19_took.l0 k out now l (l.length : Int) (n : Int) r b v now) (out', true) ∧ (∃ now' v', Took r b (pairs out') now' v') ∧ (∀ x ∈ out', OpW x) ∧ out'.length ≤ l.length
  | d, n, out, now, v, hd, ho, hnw, ht, hwo => by
    by_cases hlt : n < l.length
    · obtain ⟨d, rfl⟩ : ∃ e, d = e + 1 := ⟨d - 1, by omega⟩
      obtain ⟨x0, x1, x3, x4⟩ : OpW (l.getD n z33) := hw _ (getD_mem l _ n hlt)
      have e1 : (n : Int) < (l.length : Int) := by omega
      have e2 : (0 : Int) ≤ (n : Int) := by omega
      have ih := took_l0 l hl hw r b hr hb d (n + 1)
      generalize hx : l.getD n z33 = x at *
      by_cases hsk : x.f0 < now
      · obtain ⟨out', h1, h2⟩ := ih out now v (by omega) (by omega) hnw ht hwo
        refine ⟨out', Ev.step (f := _) (fun k => by simp only [manometerlaw19_took.l0]; rfl) ?_, h2⟩
        simp only [if_pos e1, if_pos e2, rdop, hx, if_pos hsk, w1 n (by omega)]
        exact h1
      · have hv : U64 v := by have h0 := ht.lev0; have h1 := ht.lev1; omega
        have hok := okB_of hr hb hv hnw x0
        have hlev := lev_rng (a := now) (n := x.f0) hr.1 hb hv
        have htk : tickF now x.f0 = x.f0 := by unfold tickF; split <;> omega
        have hlater : Took r b (pairs out) x.f0 (levF r b v now x.f0) := Took.later ht hr.1 hb.1 (by omega)
        by_cases hen : levF r b v now x.f0 < x.f1
        · obtain ⟨out', h1, h2⟩ := ih out x.f0 (levF r b v now x.f0) (by omega) (by omega) x0 hlater hwo
          refine ⟨out', Ev.step (f := _) (fun k => by simp only [manometerlaw19_took.l0]; rfl) ?_, h2⟩
          simp only [if_pos e1, if_pos e2, rdop, hx, if_neg hsk, w1 n (by omega), limit_Fill.f, limit_Take.f, if_pos hok, Option.bind_some, htk, if_pos hen, decide_eq_true hen, Bool.not_true, decide_eq_false (show ¬ levF r b v now x.f0 ≥ x.f1 by omega), bne_self_eq_false, Bool.false_eq_true, if_false]
          exact h1
        · have hwr : IntKind.u64.wrap (levF r b v now x.f0 - x.f1) = levF r b v now x.f0 - x.f1 := by rw [wrap64u]; omega
          have htook : Took r b (pairs (out ++ [(⟨x.f0, x.f1, false, 0, 0⟩ : OpS)])) x.f0 (levF r b v now x.f0 - x.f1) := by
            have := Took.took hlater hr.1 x1.1 (show x.f1 ≤ levF r b v now x.f0 by omega)
            unfold pairs at this ⊢
            rw [List.map_append]
            exact this
          obtain ⟨out', h1, h2⟩ := ih (out ++ [(⟨x.f0, x.f1, false, 0, 0⟩ : OpS)]) x.f0 (levF r b v now x.f0 - x.f1) (by omega) (by rw [List.length_append, List.length_singleton]; omega) x0 htook (fun y hy => by
            rcases List.mem_append.1 hy with hy | hy
            · exact hwo y hy
            · rw [List.mem_singleton.1 hy]
              exact ⟨x0, x1, (show U64 0 from ⟨by decide, by decide⟩), (show U64 0 from ⟨by decide, by decide⟩)⟩)
          refine ⟨out', Ev.step (f := _) (fun k => by simp only [manometerlaw19_took.l0]; rfl) ?_, h2⟩
          simp only [if_pos e1, if_pos e2, rdop, hx, if_neg hsk, w1 n (by omega), limit_Fill.f, limit_Take.f, if_pos hok, Option.bind_some, htk, if_neg hen, decide_eq_false hen, Bool.not_false, decide_eq_true (show levF r b v now x.f0 ≥ x.f1 by omega), bne_self_eq_false, Bool.false_eq_true, if_false, if_true, hwr, if_pos (show out.length < 3518437208883 by omega)]
          exact h1
    · refine ⟨out, Ev.step (f := _) (fun k => by simp only [manometerlaw19_took.l0]; rfl) ?_, ⟨now, v, ht⟩, hwo, by omega⟩
      have e1 : ¬ (n : Int) < (l.length : Int) := by omega
      simp only [if_neg e1]
      exact Ev.now _
def satS (s : Int) : Int := if top < s then top else s
theorem getD_pairs (l : List OpS) (n : Nat) (h : n < l.length) : (pairs l).getD n (0, 0) = ((l.getD n z33).f0, (l.getD n z33).f1) := by
  unfold pairs
  rw [List.getD_eq_getElem?_getD, List.getElem?_map, List.getElem?_eq_getElem h, List.getD_eq_getElem?_getD, List.getElem?_eq_getElem h]
  rfl
theorem sum_next (l : List (Int × Int)) (i k : Nat) (h : i ≤ k) (hk : k < l.length) : sumI ((l.take (k + 1)).drop i) = sumI ((l.take k).drop i) + (l.getD k (0, 0)).2 := by
  rw [List.take_succ_eq_append_getElem hk, List.drop_append_of_le_length (by rw [List.length_take]; omega), sumI_append, List.getD_eq_getElem?_getD, List.getElem?_eq_getElem hk]
  simp [sumI]
theorem bound_l1 (l : List OpS) (hl : l.length ≤ 1000000) (hw : ∀ x ∈ l, OpW x) (r b now v : Int) (hr : U64 r) (hb : U64 b) (ht : Took r b (pairs l) now v) (i : Nat) (hi : i < l.length)
    (g : Nat → Option Bool) (hg : Ev (fun k => manometerlaw19_LimitBound.l0 k r b l (l.length : Int) ((i + 1 : Nat) : Int)) true) :
    ∀ (d m : Nat), m + d = l.length → i ≤ m → Ev (fun k => manometerlaw19_LimitBound.l1 k r b l (i : Int) (satS (sumI (((pairs l).take m).drop i))) (m : Int) (l.length : Int) (i : Int)) true
  | d, m, hd, him => by
    refine Ev.step (f := _) (fun k => by simp only [manometerlaw19_LimitBound.l1]; rfl) ?_
    have hpos : ∀ q, 0 ≤ sumI (((pairs l).take q).drop i) := fun q => sumI_pos _ (fun x hx => (ht.low x (List.mem_of_mem_take (List.mem_of_mem_drop hx))).2)
    by_cases hlt : m < l.length
    · obtain ⟨d, rfl⟩ : ∃ e, d = e + 1 := ⟨d - 1, by omega⟩
      obtain ⟨x0, x1, x3, x4⟩ : OpW (l.getD m z33) := hw _ (getD_mem l _ m hlt)
      obtain ⟨y0, y1, y3, y4⟩ : OpW (l.getD i z33) := hw _ (getD_mem l _ i hi)
      have e1 : (m : Int) < (l.length : Int) := by omega
      have e2 : (0 : Int) ≤ (m : Int) := by omega
      have e3 : (0 : Int) ≤ (i : Int) := by omega
      have e4 : (i : Int) < (l.length : Int) := by omega
      obtain ⟨b1, b2⟩ := ht.mid i m him (by rw [pairs_len]; exact hlt)
      rw [getD_pairs l m hlt, getD_pairs l i hi] at b1 b2
      have sn := sum_next (pairs l) i m him (by rw [pairs_len]; exact hlt)
      rw [getD_pairs l m hlt] at sn
      have ih := bound_l1 l hl hw r b now v hr hb ht i hi g hg d (m + 1) (by omega) (by omega)
      have hp0 := hpos m
      have hp1 := hpos (m + 1)
      rw [sn] at b1 ih hp1
      generalize hX : l.getD m z33 = x at *
      generalize hY : l.getD i z33 = y at *
      generalize sumI (((pairs l).take m).drop i) = s at *
      have b2' : y.f0 ≤ x.f0 := b2
      have b1' : s + x.f1 ≤ b + r * (x.f0 - y.f0) := b1
      obtain ⟨t1, t2, t3⟩ := ticks y0.1 y0.2 x0.1 x0.2 b2'
      have hS : U64 (satS s) := by unfold satS top; constructor <;> split <;> omega
      have k1 := okN_of hS x1
      have k2 := okN_of hr (show U64 (x.f0 - y.f0) from ⟨t2, t3⟩)
      have k3 := okN_of hb (show U64 (timesF r (x.f0 - y.f0)) from timesF_rng hr.1 t2)
      have es : plusF (satS s) x.f1 = satS (s + x.f1) := sat_sum s x.f1 hp0 x1.1
      have hle : satS (s + x.f1) ≤ plusF b (timesF r (x.f0 - y.f0)) := sat_le hb.1 (show b ≤ top by unfold top; omega) (Int.mul_nonneg hr.1 t2) b1'
      simp only [if_pos e1, if_pos e2, if_pos e3, if_pos e4, rdop, hX, hY, manometerref19_Plus.f, manometerref19_Times.f, t1, if_pos k1, if_pos k2, Option.bind_some, if_pos k3, es, if_neg (show ¬ satS (s + x.f1) > plusF b (timesF r (x.f0 - y.f0)) by omega), w1 m (by omega)]
      exact ih
    · have e1 : ¬ (m : Int) < (l.length : Int) := by omega
      simp only [if_neg e1, w1 i (by omega)]
      exact hg
theorem bound_l0 (l : List OpS) (hl : l.length ≤ 1000000) (hw : ∀ x ∈ l, OpW x) (r b now v : Int) (hr : U64 r) (hb : U64 b) (ht : Took r b (pairs l) now v) : ∀ (d i : Nat), i + d = l.length → Ev (fun k => manometerlaw19_LimitBound.l0 k r b l (l.length : Int) (i : Int)) true
  | d, i, hd => by
    refine Ev.step (f := _) (fun k => by simp only [manometerlaw19_LimitBound.l0]; rfl) ?_
    by_cases hlt : i < l.length
    · obtain ⟨d, rfl⟩ : ∃ e, d = e + 1 := ⟨d - 1, by omega⟩
      have e1 : (i : Int) < (l.length : Int) := by omega
      have ih := bound_l0 l hl hw r b now v hr hb ht d (i + 1) (by omega)
      simp only [if_pos e1]
      have h := bound_l1 l hl hw r b now v hr hb ht i hlt (fun _ => none) ih (d + 1) i (by omega) (Nat.le_refl _)
      have e0 : satS (sumI (((pairs l).take i).drop i)) = 0 := by
        rw [List.drop_of_length_le (by rw [List.length_take]; omega)]
        rfl
      rw [e0] at h
      exact h
    · have e1 : ¬ (i : Int) < (l.length : Int) := by omega
      simp only [if_neg e1]
      exact Ev.now _
theorem limitBound (r b a : Int) (l : List OpS) (hr : U64 r) (hb : U64 b) (ha : I64 a) (hw : ∀ x ∈ l, OpW x) : ∃ k, manometerlaw19_LimitBound.f k r b a l = some true := by
  refine Ev.rounds (g := fun k => manometerlaw19_LimitBound.f k r b a l) ?_
  unfold manometerlaw19_LimitBound.f
  simp only [live_now, Option.bind_some, if_true]
  refine Ev.step (f := _) (fun k => by simp only [manometerlaw19_LimitBound.j0]; rfl) ?_
  by_cases h : (l.length : Int) > 120
  · simp only [decide_eq_true h, if_true, live_now, Option.bind_some]
    exact Ev.now _
  · simp only [decide_eq_false h, Bool.false_eq_true, if_false, limit_Full.f, Option.bind_some]
    obtain ⟨out, h1, ⟨now, v, h2⟩, h3, h4⟩ := took_l0 l (by omega) hw r b hr hb l.length 0 [] a b (by omega) (by simp) ha (Took.start hb.1) (fun x hx => by simp at hx)
    have h1' : Ev (fun k => manometerlaw19_took.f k r b b a l) (out, true) := h1
    refine h1'.bind ?_
    simp only [if_true]
    exact bound_l0 out (by omega) h3 r b now v hr hb h2 out.length 0 (by omega)
end Go.Proofs.YtbpmgaaipkenkaaDoor.Pu
end
section
namespace Go.Proofs.YtbpmgaaipkenkaaDoor
open Go.RowKit
set_option linter.unusedVariables false
theorem laid_plain {P : Program} {w : World} {l : List (String × DataW Unit)} (h : laidMetH P l w) (hf : (l.filter fun x => x.2.handleName?.isSome).isEmpty = true) : laidMet P l w := by
  unfold laidMetH at h
  split at h
  · exact h
  · rename_i h2
    rw [h2] at hf
    cases hf
end Go.Proofs.YtbpmgaaipkenkaaDoor
end
section
namespace Go.Proofs.YtbpmgaaipkenkaaDoor
open Go Go.RowKit Go.Shelf
set_option linter.unusedVariables false
theorem first_same : Go.Pinned.utf8First = Lib.firstData := by kernel_rfl
theorem accept_same : (Rows.laid_unicode_utf8_acceptRanges : DataW Unit) = Lib.acceptData := by kernel_rfl
theorem tab_of {w : World} (h : laidMetH Tryd.prog [("unicode/utf8.acceptRanges", Rows.laid_unicode_utf8_acceptRanges), ("unicode/utf8.first", Rows.laid_unicode_utf8_first)] w) : Tab w := by
  have hp := laid_plain h (by kernel_rfl)
  have h4 := Lib.laidMet.reads hp (List.Mem.head _)
  have h3 := Lib.laidMet.reads hp (List.Mem.tail _ (List.Mem.head _))
  rw [accept_same] at h4
  rw [show Rows.laid_unicode_utf8_first = Go.Pinned.utf8First from rfl, first_same] at h3
  exact utf8Tabs_of_readsT (U8Types.of196 Tryd.laysValid) ⟨by kernel_rfl, by kernel_rfl, by kernel_rfl, by kernel_rfl, by kernel_rfl, by kernel_rfl, by kernel_rfl⟩ h3 h4
end Go.Proofs.YtbpmgaaipkenkaaDoor
end
section
namespace Go.Proofs.YtbpmgaaipkenkaaDoor
open Go.RowKit Go.Proofs.YtbpmgaaipkenkaaDoorW.PrintWords Go.Proofs.YtbpmgaaipkenkaaDoorW.PrintMore Go.Proofs.YtbpmgaaipkenkaaDoorW.PrintLast Go.Deep
set_option linter.unusedVariables false
section
variable {H : Type} {enc : TypeId × Value → H} {P : Program} {w : World} {base : Nat} {spare : Nat → Bool} {held : Bool}
theorem opens_iso {α β : Type} {d : Kd α} {wf : α → Prop} {t : TypeId} (f : β → α) (g : α → β) (hg : ∀ y, f (g y) = y) (h : Opens enc P w base spare held t d wf) :
    Opens enc P w base spare held t (Kd.iso d f) (fun x => wf (f x)) := by
  intro fuel cs x hx
  obtain ⟨a, hK, hw⟩ := h fuel cs x hx
  refine ⟨g a, ?_, ?_⟩
  · show d.K w (f (g a)) cs
    rw [hg]
    exact hK
  · show wf (f (g a))
    rw [hg]
    exact hw
end
end Go.Proofs.YtbpmgaaipkenkaaDoor
end
