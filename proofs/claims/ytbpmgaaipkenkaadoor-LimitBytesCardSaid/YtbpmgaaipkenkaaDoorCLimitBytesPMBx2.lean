import Derived.Test.YtbpmgaaipkenkaaDoorCLimitBytesPMDx0
import Derived.Test.YtbpmgaaipkenkaaDoorCLimitBytesPMDx1
import Derived.Laws.Bits64
import Derived.Laws.BitsLemmas
import Derived.Test.YtbpmgaaipkenkaaDoorProg
import Derived.Below
import Derived.Deep.Draws
import Derived.Deep.AppendLies
import Derived.Maps.AppendAt
import Derived.OwnWalk
import Derived.Laws.BytesArg
import Derived.Laws.MakeOwn
import Derived.Laws.OwnMore
import Derived.Deep.OwnRows
import Derived.Tactics
import Derived.Lib.ConvBytes
import Derived.Laws.Slices
import Derived.WalkKit
import Derived.KernelRfl
import Derived.RowKit3
import Derived.Deep.LoopGhost
import Derived.Deep.QuietTactic
import Derived.BigQuiet
import Derived.WideLaws
import Derived.Deep.DeepCutAuto
import Derived.Deep.CutBlock
import Derived.Deep.RegionHeld3
import Derived.Laws.Rows
import Derived.Lib.AppendStr
import Derived.ArgAppend
import Derived.Laws.IdiomCopy
import Derived.OrdersHeld
import Derived.RowKit
import Derived.Test.YtbpmgaaipkenkaaDoorCLimitBytesM0
import Derived.Test.YtbpmgaaipkenkaaDoorCLimitBytesWWords
import Derived.Test.YtbpmgaaipkenkaaDoorCLimitBytesPMCx0
section
namespace Go.Proofs.YtbpmgaaipkenkaaDoor
open Go Go.RowKit Go.Proofs.YtbpmgaaipkenkaaDoorW.PrintWords Go.Proofs.YtbpmgaaipkenkaaDoorW.PrintLast Go.Proofs.YtbpmgaaipkenkaaDoorW.PrintMore
set_option linter.unusedVariables false
set_option linter.unusedSimpArgs false
attribute [local go_sem ↓] Go.wp_at_zero Go.wp_at_succ
attribute [local go_sem] max2_int min2_int max_two min_two
abbrev bk (r b l a : Int) : Value := .agg #[.int .u64 r, .int .u64 b, .int .u64 l, .int .i64 a]
abbrev set4 (w : World) (g : Nat) (a b c d : Value) : World := (((w.setCell ⟨g, 0, none⟩ a).setCell ⟨g, 1, none⟩ b).setCell ⟨g, 2, none⟩ c).setCell ⟨g, 3, none⟩ d
theorem set4_at {w : World} {g t : Nat} {a b c d : Value} (h : w.heap[g]? = some (.cells #[a, b, c, d] t (0, 0))) (a' b' c' d' : Value) :
    (set4 w g a' b' c' d').heap[g]? = some (.cells #[a', b', c', d'] t (0, 0)) := blk_set (blk_set (blk_set (blk_set h 0 a') 1 b') 2 c') 3 d'
theorem set4_far {w : World} {g k t : Nat} {cs : Array Value} (h : w.heap[k]? = some (.cells cs t (0, 0))) (hne : k ≠ g) (a' b' c' d' : Value) : (set4 w g a' b' c' d').heap[k]? = some (.cells cs t (0, 0)) :=
  blk_far (p := ⟨g, 3, none⟩) (blk_far (p := ⟨g, 2, none⟩) (blk_far (p := ⟨g, 1, none⟩) (blk_far (p := ⟨g, 0, none⟩) h hne _) hne _) hne _) hne _
theorem set4_below {w0 w : World} {g : Nat} (h : Below w0.heap.size w0 w) (hg : w0.heap.size ≤ g) (a b c d : Value) : Below w0.heap.size w0 (set4 w g a b c d) :=
  below_set (below_set (below_set (below_set h hg) hg) hg) hg
theorem lower_k {B B' : Nat} {w w' : World} (h : Below B w w') (hle : B' ≤ B) : Below B' w w' := ⟨h.os, h.tape, h.output, h.size, fun k hk => h.block k (by omega)⟩
section
variable {w w2 : World} {a b c d a' b' c' d' : Value} {t t' g : Nat}
theorem two_boxes1 (h : Below ((w.alloc (.cells #[a, b, c, d] t)).alloc (.cells #[a', b', c', d'] t')).heap.size ((w.alloc (.cells #[a, b, c, d] t)).alloc (.cells #[a', b', c', d'] t')) w2) : w2.heap[w.heap.size]? = some (.cells #[a, b, c, d] t (0, 0)) :=
  (h.block _ (by rw [World.size_alloc, World.size_alloc]; omega)).trans ((heap_alloc_old _ _ (by rw [World.size_alloc]; omega)).trans (heap_alloc_new w _))
theorem two_boxes2 (h : Below ((w.alloc (.cells #[a, b, c, d] t)).alloc (.cells #[a', b', c', d'] t')).heap.size ((w.alloc (.cells #[a, b, c, d] t)).alloc (.cells #[a', b', c', d'] t')) w2) : w2.heap[w.heap.size + 1]? = some (.cells #[a', b', c', d'] t' (0, 0)) := by
  have e : w.heap.size + 1 = (w.alloc (.cells #[a, b, c, d] t)).heap.size := by rw [World.size_alloc]
  rw [e]
  exact (h.block _ (by rw [World.size_alloc (w.alloc _)]; omega)).trans (heap_alloc_new _ _)
theorem two_boxes (h : Below ((w.alloc (.cells #[a, b, c, d] t)).alloc (.cells #[a', b', c', d'] t')).heap.size ((w.alloc (.cells #[a, b, c, d] t)).alloc (.cells #[a', b', c', d'] t')) w2) : Below w.heap.size w w2 :=
  (below_alloc (below_alloc (Below.refl _ w) _) _).trans (lower_k h (by rw [World.size_alloc, World.size_alloc]; omega))
theorem cell4_0 (h : w.heap[g]? = some (.cells #[a, b, c, d] t (0, 0))) : w.cell? ⟨g, 0, none⟩ = some a := (blk_cell h 0).trans rfl
theorem cell4_1 (h : w.heap[g]? = some (.cells #[a, b, c, d] t (0, 0))) : w.cell? ⟨g, 1, none⟩ = some b := (blk_cell h 1).trans rfl
theorem cell4_2 (h : w.heap[g]? = some (.cells #[a, b, c, d] t (0, 0))) : w.cell? ⟨g, 2, none⟩ = some c := (blk_cell h 2).trans rfl
theorem cell4_3 (h : w.heap[g]? = some (.cells #[a, b, c, d] t (0, 0))) : w.cell? ⟨g, 3, none⟩ = some d := (blk_cell h 3).trans rfl
end
set_option maxRecDepth 20000 in
set_option maxHeartbeats 4000000 in
theorem take_calls (w : World) (r b l a now n : Int) (r1 r2 r3 r4 : Int) (h : PMD.limit_Fill.f r b l a now = some (r1, r2, r3, r4)) :
    Calls Tryd.prog 23 #[bk r b l a, .int .i64 now, .int .u64 n] w fun e w' => e = .returned (.tuple #[bk r1 r2 (if r3 < n then r3 else IntKind.u64.wrap (r3 - n)) r4, .bool (!decide (r3 < n))]) ∧ Below w.heap.size w w' := by
  have HF := Lib.hid (fun W => PMD.limit_Fill.calls r b l a now r1 r2 r3 r4 W h)
  clear h
  go_enter Tryd.func23, Tryd.ntmps23
  go_upto_region 2 with (go_at_call 18; refine (HF.out _).mono ?_; rintro e w2 ⟨rfl, hB2⟩; have hb1 := two_boxes1 hB2; have hb2 := two_boxes2 hB2; have HB2 := Lib.hid (two_boxes hB2); clear hB2; have HQ1 := Lib.hid hb1; have HQ2 := Lib.hid hb2; have hc0 := cell4_0 hb1; have hc1 := cell4_1 hb1; have hc2 := cell4_2 hb1; have hc3 := cell4_3 hb1; have hf0 := blk_frozen hb1 0; have hf1 := blk_frozen hb1 1; have hf2 := blk_frozen hb1 2; have hf3 := blk_frozen hb1 3; clear hb1 hb2)
  clear hc0 hc1 hc2 hc3 hf0 hf1 hf2 hf3
  obtain ⟨W3, hW3⟩ : ∃ W3, W3 = set4 w2 w.heap.size (.int .u64 r1) (.int .u64 r2) (.int .u64 r3) (.int .i64 r4) := ⟨_, rfl⟩
  have h31 := set4_at HQ1.out (.int .u64 r1) (.int .u64 r2) (.int .u64 r3) (.int .i64 r4)
  have h32 := set4_far HQ2.out (show w.heap.size + 1 ≠ w.heap.size by omega) (.int .u64 r1) (.int .u64 r2) (.int .u64 r3) (.int .i64 r4)
  have h3b := set4_below HB2.out (Nat.le_refl _) (.int .u64 r1) (.int .u64 r2) (.int .u64 r3) (.int .i64 r4)
  rw [← hW3] at h31 h32 h3b
  simp only [set4] at hW3
  rw [← hW3]
  clear hW3 HQ1 HQ2 HB2
  have G1 := Lib.hid h31
  have G2 := Lib.hid h32
  have GB := Lib.hid h3b
  have c0 := cell4_0 h31
  have c1 := cell4_1 h31
  have c2 := cell4_2 h31
  have c3 := cell4_3 h31
  have d0 := cell4_0 h32
  have d1 := cell4_1 h32
  have d2 := cell4_2 h32
  have d3 := cell4_3 h32
  have f2 := blk_frozen h31 2
  have g0 := blk_frozen h32 0
  have g1 := blk_frozen h32 1
  have g2 := blk_frozen h32 2
  have g3 := blk_frozen h32 3
  clear h31 h32 h3b
  by_cases hlt : r3 < n
  · have hd : decide (r3 < n) = true := decide_eq_true hlt
    go_wp2
    refine bodyPost_ret (results_ct rfl _ _ (w.heap.size + 1) 30 #[.int .u64 r1, .int .u64 r2, .int .u64 r3, .int .i64 r4] (0, 0) _ rfl (set4_at G2.out _ _ _ _) Tryd.underlying30 rfl (by kernel_rfl)) rfl ?_
    exact ⟨by first | rfl | (simp [hd]; done), set4_below GB.out (by omega) _ _ _ _⟩
  · have hd : decide (r3 < n) = false := decide_eq_false hlt
    go_wp2
    refine bodyPost_ret (results_ct rfl _ _ (w.heap.size + 1) 30 #[.int .u64 r1, .int .u64 r2, .int .u64 (IntKind.u64.wrap (r3 - n)), .int .i64 r4] (0, 0) _ rfl (set4_at (blk_far (p := ⟨w.heap.size, 2, none⟩) G2.out (by show w.heap.size + 1 ≠ w.heap.size; omega) _) _ _ _ _) Tryd.underlying30 rfl (by kernel_rfl)) rfl ?_
    exact ⟨by first | rfl | (simp [hd]; done), set4_below (below_set GB.out (Nat.le_refl _)) (by omega) _ _ _ _⟩
abbrev set2 (w : World) (g : Nat) (a b : Value) : World := (w.setCell ⟨g, 0, none⟩ a).setCell ⟨g, 1, none⟩ b
theorem set2_at {w : World} {g t : Nat} {a b : Value} (h : w.heap[g]? = some (.cells #[a, b] t (0, 0))) (a' b' : Value) :
    (set2 w g a' b').heap[g]? = some (.cells #[a', b'] t (0, 0)) := blk_set (blk_set h 0 a') 1 b'
theorem set2_below {w0 w : World} {g : Nat} (h : Below w0.heap.size w0 w) (hg : w0.heap.size ≤ g) (a b : Value) : Below w0.heap.size w0 (set2 w g a b) :=
  below_set (below_set h hg) hg
section
variable {w w2 : World} {a b a' b' : Value} {t t' g : Nat}
theorem duo1 (h : Below ((w.alloc (.cells #[a, b] t)).alloc (.cells #[a', b'] t')).heap.size ((w.alloc (.cells #[a, b] t)).alloc (.cells #[a', b'] t')) w2) : w2.heap[w.heap.size]? = some (.cells #[a, b] t (0, 0)) :=
  (h.block _ (by rw [World.size_alloc, World.size_alloc]; omega)).trans ((heap_alloc_old _ _ (by rw [World.size_alloc]; omega)).trans (heap_alloc_new w _))
theorem duo2 (h : Below ((w.alloc (.cells #[a, b] t)).alloc (.cells #[a', b'] t')).heap.size ((w.alloc (.cells #[a, b] t)).alloc (.cells #[a', b'] t')) w2) : w2.heap[w.heap.size + 1]? = some (.cells #[a', b'] t' (0, 0)) := by
  have e : w.heap.size + 1 = (w.alloc (.cells #[a, b] t)).heap.size := by rw [World.size_alloc]
  rw [e]
  exact (h.block _ (by rw [World.size_alloc (w.alloc _)]; omega)).trans (heap_alloc_new _ _)
theorem duo (h : Below ((w.alloc (.cells #[a, b] t)).alloc (.cells #[a', b'] t')).heap.size ((w.alloc (.cells #[a, b] t)).alloc (.cells #[a', b'] t')) w2) : Below w.heap.size w w2 :=
  (below_alloc (below_alloc (Below.refl _ w) _) _).trans (lower_k h (by rw [World.size_alloc, World.size_alloc]; omega))
theorem cell2_0 (h : w.heap[g]? = some (.cells #[a, b] t (0, 0))) : w.cell? ⟨g, 0, none⟩ = some a := (blk_cell h 0).trans rfl
theorem cell2_1 (h : w.heap[g]? = some (.cells #[a, b] t (0, 0))) : w.cell? ⟨g, 1, none⟩ = some b := (blk_cell h 1).trans rfl
end
abbrev us (u q : Int) : Value := .agg #[.int .u64 u, .int .u64 q]
theorem drawn_b {w w' : World} (h : Drawn0 w w') : Below w.heap.size w w' := by
  obtain ⟨n, rfl⟩ := h
  exact pw_below_drewN (Below.refl _ _) n
set_option maxRecDepth 20000 in
set_option maxHeartbeats 4000000 in
theorem use_calls (w : World) (u q n : Int) (hu : 0 ≤ u) (hn : 0 ≤ n) (hu1 : u < 18446744073709551616) (hn1 : n < 18446744073709551616) :
    Calls Tryd.prog 25 #[us u q, .int .u64 n] w fun e w' => e = .returned (.tuple #[us (if q < plusF u n then u else plusF u n) q, .bool (!decide (q < plusF u n))]) ∧ Below w.heap.size w w' := by
  have HF := Lib.hid (fun W => plus_calls u n W hu hn hu1 hn1)
  generalize plusF u n = v at *
  clear hu hn hu1 hn1
  go_enter Tryd.func25, Tryd.ntmps25
  go_upto_region 2 with (go_at_call 12; refine (HF.out _).mono ?_; rintro e w2 ⟨rfl, hD⟩; have hB2 := drawn_b hD; have hb1 := duo1 hB2; have hb2 := duo2 hB2; have HB2 := Lib.hid (duo hB2); clear hB2 hD; have G1 := Lib.hid hb1; have G2 := Lib.hid hb2; have c0 := cell2_0 hb1; have c1 := cell2_1 hb1; have d0 := cell2_0 hb2; have d1 := cell2_1 hb2; have f0 := blk_frozen hb1 0; have g0 := blk_frozen hb2 0; have g1 := blk_frozen hb2 1; clear hb1 hb2)
  by_cases hlt : q < v
  · have hd : decide (q < v) = true := decide_eq_true hlt
    go_wp2
    refine bodyPost_ret (results_ct rfl _ _ (w.heap.size + 1) 42 #[.int .u64 u, .int .u64 q] (0, 0) _ rfl (set2_at G2.out _ _) Tryd.underlying42 rfl (by kernel_rfl)) rfl ?_
    exact ⟨by first | rfl | (simp [hd]; done), set2_below HB2.out (by omega) _ _⟩
  · have hd : decide (q < v) = false := decide_eq_false hlt
    go_wp2
    refine bodyPost_ret (results_ct rfl _ _ (w.heap.size + 1) 42 #[.int .u64 v, .int .u64 q] (0, 0) _ rfl (set2_at (blk_far (p := ⟨w.heap.size, 0, none⟩) G2.out (by show w.heap.size + 1 ≠ w.heap.size; omega) _) _ _) Tryd.underlying42 rfl (by kernel_rfl)) rfl ?_
    exact ⟨by first | rfl | (simp [hd]; done), set2_below (below_set HB2.out (Nat.le_refl _)) (by omega) _ _⟩
end Go.Proofs.YtbpmgaaipkenkaaDoor
end
section
namespace Go.Proofs.YtbpmgaaipkenkaaDoor
open Go Go.RowKit Go.Proofs.YtbpmgaaipkenkaaDoorW.PrintWords Go.Proofs.YtbpmgaaipkenkaaDoorW.PrintLast Go.Proofs.YtbpmgaaipkenkaaDoorW.PrintMore
set_option linter.unusedVariables false
set_option linter.unusedSimpArgs false
attribute [local go_sem ↓] Go.wp_at_zero Go.wp_at_succ
theorem full1 : PMD.limit_Full.f 2 5 0 = some (2, 5, 5, 0) := by kernel_rfl
theorem fill1 : PMD.limit_Fill.f 2 5 5 0 0 = some (2, 5, 5, 0) := by kernel_rfl
theorem fill2 : PMD.limit_Fill.f 2 5 1 0 1 = some (2, 5, 3, 1) := by kernel_rfl
theorem fill3 : PMD.limit_Fill.f 2 5 3 1 2 = some (2, 5, 5, 2) := by kernel_rfl
theorem times1 : PMD.limit_Times.f 9223372036854775808 2 = some 18446744073709551615 := by kernel_rfl
theorem take1_c (W : World) : Calls Tryd.prog 23 #[bk 2 5 5 0, .int .i64 0, .int .u64 4] W fun e w' => e = .returned (.tuple #[bk 2 5 1 0, .bool true]) ∧ Below W.heap.size W w' := by
  have h := take_calls W 2 5 5 0 0 4 2 5 5 0 fill1
  have e1 : (if (5 : Int) < 4 then (5 : Int) else IntKind.u64.wrap (5 - 4)) = 1 := by decide
  have e2 : (!decide ((5 : Int) < 4)) = true := by decide
  rw [e1, e2] at h
  exact h
theorem take2_c (W : World) : Calls Tryd.prog 23 #[bk 2 5 1 0, .int .i64 1, .int .u64 4] W fun e w' => e = .returned (.tuple #[bk 2 5 3 1, .bool false]) ∧ Below W.heap.size W w' := by
  have h := take_calls W 2 5 1 0 1 4 2 5 3 1 fill2
  have e1 : (if (3 : Int) < 4 then (3 : Int) else IntKind.u64.wrap (3 - 4)) = 3 := by decide
  have e2 : (!decide ((3 : Int) < 4)) = false := by decide
  rw [e1, e2] at h
  exact h
theorem take3_c (W : World) : Calls Tryd.prog 23 #[bk 2 5 3 1, .int .i64 2, .int .u64 4] W fun e w' => e = .returned (.tuple #[bk 2 5 1 2, .bool true]) ∧ Below W.heap.size W w' := by
  have h := take_calls W 2 5 3 1 2 4 2 5 5 2 fill3
  have e1 : (if (5 : Int) < 4 then (5 : Int) else IntKind.u64.wrap (5 - 4)) = 1 := by decide
  have e2 : (!decide ((5 : Int) < 4)) = true := by decide
  rw [e1, e2] at h
  exact h
theorem full_c (W : World) : Calls Tryd.prog 17 #[.int .u64 2, .int .u64 5, .int .i64 0] W fun e w' => e = .returned (bk 2 5 5 0) ∧ Below W.heap.size W w' := PMD.limit_Full.calls 2 5 0 2 5 5 0 W full1
theorem times_c (W : World) : Calls Tryd.prog 14 #[.int .u64 9223372036854775808, .int .u64 2] W fun e w' => e = .returned (.int .u64 18446744073709551615) ∧ Below W.heap.size W w' :=
  (PMD.limit_Times.calls 9223372036854775808 2 18446744073709551615 W times1).mono fun e w' h => ⟨h.1, drawn_b h.2⟩
set_option maxRecDepth 20000 in
set_option maxHeartbeats 8000000 in
theorem live_calls (w : World) (hT : Tab w) : Calls Tryd.prog 11 #[] w fun e w' => e = .returned (.bool true) ∧ Below w.heap.size w w' := by
  have HT := Lib.hid (fun (W : World) (hW : Below w.heap.size w W) => Tab_below hT hW)
  clear hT
  go_enter Tryd.func11, Tryd.ntmps11
  go_upto_region 2 with (first
    | (go_at_call 17; (with_reducible refine (full_c w).mono ?_); rintro e w1 ⟨rfl, hB1⟩; have HB1 := Lib.hid hB1; clear hB1)
    | (go_at_call 23; (with_reducible refine (take1_c w1).mono ?_); rintro e w2 ⟨rfl, hB2⟩; have HB2 := Lib.hid (HB1.out.trans (lower_k hB2 HB1.out.size)); clear hB2))
  obtain ⟨pb, hpb⟩ : ∃ p, p = w2.heap.size := ⟨_, rfl⟩
  obtain ⟨W3, hW3⟩ : ∃ W, W = w2.alloc (.cells #[.int .u64 2, .int .u64 5, .int .u64 1, .int .i64 0] 30) := ⟨_, rfl⟩
  have hb3 : W3.heap[pb]? = some (.cells #[.int .u64 2, .int .u64 5, .int .u64 1, .int .i64 0] 30 (0, 0)) := by rw [hW3, hpb]; exact heap_alloc_new w2 _
  have HB3 : Hid (Below w.heap.size w W3) := Lib.hid (by rw [hW3]; exact below_alloc HB2.out _)
  have HPB : Hid (w.heap.size ≤ pb) := Lib.hid (by rw [hpb]; exact HB2.out.size)
  rw [← hW3, ← hpb]
  have Q3 := Lib.hid hb3
  have c0 := cell4_0 hb3
  have c1 := cell4_1 hb3
  have c2 := cell4_2 hb3
  have c3 := cell4_3 hb3
  clear hW3 hpb hb3 HB1 HB2
  go_upto_region 3 with (go_at_call 23; (with_reducible refine (take2_c W3).mono ?_); rintro e w4 ⟨rfl, hB4⟩; have HB4 := Lib.hid hB4; clear hB4)
  clear c0 c1 c2 c3
  obtain ⟨pc, hpc⟩ : ∃ p, p = w4.heap.size := ⟨_, rfl⟩
  obtain ⟨W5, hW5⟩ : ∃ W, W = w4.alloc (.cells #[.int .u64 2, .int .u64 5, .int .u64 3, .int .i64 1] 30) := ⟨_, rfl⟩
  have hc5 : W5.heap[pc]? = some (.cells #[.int .u64 2, .int .u64 5, .int .u64 3, .int .i64 1] 30 (0, 0)) := by rw [hW5, hpc]; exact heap_alloc_new w4 _
  have HB5 : Hid (Below W3.heap.size W3 W5) := Lib.hid (by rw [hW5]; exact below_alloc HB4.out _)
  rw [← hW5, ← hpc]
  have Q5 := Lib.hid hc5
  have c0 := cell4_0 hc5
  have c1 := cell4_1 hc5
  have c2 := cell4_2 hc5
  have c3 := cell4_3 hc5
  clear hW5 hpc hc5 HB4
  go_upto_region 4 with (go_at_call 23; (with_reducible refine (take3_c W5).mono ?_); rintro e w6 ⟨rfl, hB6⟩; have HB6 := Lib.hid hB6; clear hB6)
  clear c0 c1 c2 c3
  obtain ⟨W7, hW7⟩ : ∃ W, W = w6.alloc (.cells #[.int .u64 2, .int .u64 5, .int .u64 1, .int .i64 2] 30) := ⟨_, rfl⟩
  have HB7 : Hid (Below W5.heap.size W5 W7) := Lib.hid (by rw [hW7]; exact below_alloc HB6.out _)
  rw [← hW7]
  clear hW7 HB6
  obtain ⟨Wm, hWm⟩ : ∃ W, W = made W7 := ⟨_, rfl⟩
  obtain ⟨b, hb⟩ : ∃ b, b = W7.heap.size := ⟨_, rfl⟩
  have hnew := new_calls W7
  rw [← hWm, ← hb] at hnew
  have HNEW := Lib.hid hnew
  have HBm : Hid (Below W7.heap.size W7 Wm) := Lib.hid (by rw [hWm]; exact below_alloc (below_alloc (Below.refl _ _) _) _)
  have hbm : Wm.heap[b]? = some (.map #[] 0) := by rw [hWm, hb]; exact (heap_alloc_old _ _ (by rw [World.size_alloc]; omega)).trans (heap_alloc_new W7 _)
  have hgm : Wm.heap[b + 1]? = some (.cells #[.map (some b)] 72 (0, 0)) := by
    rw [hWm, hb]
    have e : W7.heap.size + 1 = (W7.alloc (.map #[] 0)).heap.size := by rw [World.size_alloc]
    unfold made
    rw [e]
    exact heap_alloc_new _ _
  have HBW : Hid (Below w.heap.size w Wm) := Lib.hid (HB3.out.trans (lower_k (HB5.out.trans (lower_k (HB7.out.trans (lower_k HBm.out HB7.out.size)) HB5.out.size)) HB3.out.size))
  have HBN : Hid (w.heap.size ≤ b) := Lib.hid (by rw [hb]; have h1 := HB3.out.size; have h2 := HB5.out.size; have h3 := HB7.out.size; omega)
  have hadm := admit_calls ((Wm.alloc (.cells #[.string sa, .string sx] 66)).alloc (.cells #[.slice (some ⟨Wm.heap.size, 0, none⟩) 1 1] 61)) (HT.out _ (below_alloc (below_alloc HBW.out _) _)) (b + 1) b Wm.heap.size (Wm.heap.size + 1)
    ((heap_alloc_old _ _ (by rw [World.size_alloc]; have := blk_lt hgm; omega)).trans ((heap_alloc_old _ _ (blk_lt hgm)).trans hgm))
    ((heap_alloc_old _ _ (by rw [World.size_alloc]; have := blk_lt hgm; omega)).trans ((heap_alloc_old _ _ (by have := blk_lt hgm; omega)).trans hbm))
    ((heap_alloc_old _ _ (by rw [World.size_alloc]; omega)).trans (heap_alloc_new _ _))
    (by
      have e : Wm.heap.size + 1 = (Wm.alloc (.cells #[.string sa, .string sx] 66)).heap.size := by rw [World.size_alloc]
      rw [e]
      exact heap_alloc_new _ _)
  have HADM := Lib.hid hadm
  have qb := Q3.out
  have qc := Q5.out
  have hb5 := (HB5.out.block pb (blk_lt qb)).trans qb
  have hb7 := (HB7.out.block pb (blk_lt hb5)).trans hb5
  have hbW := (HBm.out.block pb (blk_lt hb7)).trans hb7
  have hc7 := (HB7.out.block pc (blk_lt qc)).trans qc
  have hcW := (HBm.out.block pc (blk_lt hc7)).trans hc7
  have nb : pb ≠ b := by have := blk_lt hb7; omega
  have nc : pc ≠ b := by have := blk_lt hc7; omega
  have KB := Lib.hid hbW
  have KC := Lib.hid hcW
  have NB := Lib.hid (And.intro nb nc)
  clear hnew hadm hWm hb hbm hgm qb qc hb5 hb7 hbW hc7 hcW nb nc
  go_upto_region 8 with (first
    | (go_at_call 27; refine HNEW.out.mono ?_; rintro e w8 ⟨rfl, rfl⟩)
    | (go_at_call 30; refine HADM.out.mono ?_; rintro e w10 ⟨rfl, hM⟩; have HM := Lib.hid hM; clear hM))
  have hm0 := HM.out
  have hbx := below_alloc (below_alloc (Below.refl w8.heap.size w8) (.cells #[.string sa, .string sx] 66)) (.cells #[.slice (some ⟨w8.heap.size, 0, none⟩) 1 1] 61)
  have xb := hm0.blk ((hbx.block pb (blk_lt KB.out)).trans KB.out) (fun h => NB.out.1 h)
  have xc := hm0.blk ((hbx.block pc (blk_lt KC.out)).trans KC.out) (fun h => NB.out.2 h)
  have HBT : Hid (Below w.heap.size w w10) := Lib.hid ((below_alloc (below_alloc HBW.out _) _).trans (hm0.below (below_alloc (below_alloc HBW.out _) _).size (fun k hk => by rw [hk]; exact HBN.out)))
  have c2 := cell4_2 xb
  have d2 := cell4_2 xc
  clear hm0 hbx xb xc HM
  go_wp2_with (go_at_call 14; (with_reducible refine (times_c w10).mono ?_); rintro e w11 ⟨rfl, hB11⟩; have HB11 := Lib.hid (HBT.out.trans (lower_k hB11 HBT.out.size)); clear hB11)
  go_ret
  exact ⟨by first | rfl | (simp; done), HB11.out⟩
end Go.Proofs.YtbpmgaaipkenkaaDoor
end
section
namespace Go.Proofs.YtbpmgaaipkenkaaDoor
open Go Go.RowKit Go.Proofs.YtbpmgaaipkenkaaDoorW.PrintWords Go.Proofs.YtbpmgaaipkenkaaDoorW.PrintLast Go.Proofs.YtbpmgaaipkenkaaDoorW.PrintMore
set_option linter.unusedVariables false
set_option linter.unusedSimpArgs false
attribute [local go_sem ↓] Go.wp_at_zero Go.wp_at_succ
def timesF (a b : Int) : Int := if 18446744073709551615 < a * b then 18446744073709551615 else a * b
theorem wrap64u (n : Int) : IntKind.u64.wrap n = n % 18446744073709551616 := IntKind.wrap_u64 n
theorem mask32 (x : Int) (h0 : 0 ≤ x) (h1 : x < 18446744073709551616) : bits .and .u64 x 4294967295 = x % 4294967296 := by
  have := bits_mask .u64 64 (by decide) (fun n a b => by rw [wrap64u]; omega) 32 (by omega) x h0 (by omega)
  simpa using this
theorem prod_le {a b : Int} (ha : 0 ≤ a) (hb : 0 ≤ b) (ha1 : a < 4294967296) (hb1 : b < 4294967296) : 0 ≤ a * b ∧ a * b ≤ 18446744065119617025 := by
  refine ⟨Int.mul_nonneg ha hb, ?_⟩
  have h := Int.mul_le_mul (show a ≤ 4294967295 by omega) (show b ≤ 4294967295 by omega) hb (by decide)
  omega
theorem mul64_f (a b : Int) (ha : 0 ≤ a) (hb : 0 ≤ b) (ha1 : a < 18446744073709551616) (hb1 : b < 18446744073709551616) :
    PMD.bits_Mul64.f a b = some (a * b / 18446744073709551616, a * b % 18446744073709551616) := by
  obtain ⟨A, hA⟩ : ∃ A, A = a / 4294967296 := ⟨_, rfl⟩
  obtain ⟨x, hx⟩ : ∃ x, x = a % 4294967296 := ⟨_, rfl⟩
  obtain ⟨C, hC⟩ : ∃ C, C = b / 4294967296 := ⟨_, rfl⟩
  obtain ⟨y, hy⟩ : ∃ y, y = b % 4294967296 := ⟨_, rfl⟩
  have ea : a = 4294967296 * A + x := by omega
  have eb : b = 4294967296 * C + y := by omega
  obtain ⟨p0, p1⟩ := prod_le (a := A) (b := C) (by omega) (by omega) (by omega) (by omega)
  obtain ⟨q0, q1⟩ := prod_le (a := A) (b := y) (by omega) (by omega) (by omega) (by omega)
  obtain ⟨s0, s1⟩ := prod_le (a := x) (b := C) (by omega) (by omega) (by omega) (by omega)
  obtain ⟨t0, t1⟩ := prod_le (a := x) (b := y) (by omega) (by omega) (by omega) (by omega)
  have eab : a * b = 18446744073709551616 * (A * C) + 4294967296 * (A * y) + 4294967296 * (x * C) + x * y := by
    rw [ea, eb, Int.add_mul, Int.mul_add, Int.mul_add]
    have e1 : 4294967296 * A * (4294967296 * C) = 18446744073709551616 * (A * C) := by
      rw [Int.mul_assoc, ← Int.mul_assoc A, Int.mul_comm A 4294967296, Int.mul_assoc, ← Int.mul_assoc]
      rfl
    have e2 : 4294967296 * A * y = 4294967296 * (A * y) := Int.mul_assoc _ _ _
    have e3 : x * (4294967296 * C) = 4294967296 * (x * C) := by rw [← Int.mul_assoc, Int.mul_comm x, Int.mul_assoc]
    rw [e1, e2, e3]
    omega
  unfold PMD.bits_Mul64.f
  rw [mask32 a ha ha1, mask32 b hb hb1, ← hA, ← hx, ← hC, ← hy]
  rw [eab]
  generalize A * C = p at *
  generalize A * y = q at *
  generalize x * C = s at *
  generalize x * y = t at *
  clear ea eb eab hA hx hC hy
  simp only [wrap64u]
  have et : t % 18446744073709551616 = t := by omega
  have eq : q % 18446744073709551616 = q := by omega
  have es : s % 18446744073709551616 = s := by omega
  have ep : p % 18446744073709551616 = p := by omega
  have e1 : (q + t / 4294967296) % 18446744073709551616 = q + t / 4294967296 := by omega
  rw [et, eq, es, ep, e1, mask32 _ (by omega) (by omega)]
  obtain ⟨u, hu⟩ : ∃ u, u = q + t / 4294967296 := ⟨_, rfl⟩
  rw [← hu]
  congr 2
  omega
theorem times_f (a b : Int) (ha : 0 ≤ a) (hb : 0 ≤ b) (ha1 : a < 18446744073709551616) (hb1 : b < 18446744073709551616) : PMD.limit_Times.f a b = some (timesF a b) := by
  unfold PMD.limit_Times.f timesF
  have h0 := Int.mul_nonneg ha hb
  rw [mul64_f a b ha hb ha1 hb1]
  simp only [Option.bind_some]
  by_cases h : 18446744073709551615 < a * b
  · rw [if_pos (by omega), if_pos h]
  · rw [if_neg (by omega), if_neg h]
    congr 1
    omega
def levF (r b l a now : Int) : Int := if now ≤ a then l else (if plusF l (timesF r (now - a)) < b then plusF l (timesF r (now - a)) else b)
def tickF (a now : Int) : Int := if now ≤ a then a else now
theorem timesF_rng {a b : Int} (ha : 0 ≤ a) (hb : 0 ≤ b) : 0 ≤ timesF a b ∧ timesF a b < 18446744073709551616 := by
  have := Int.mul_nonneg ha hb
  unfold timesF
  split <;> omega
theorem plusF_rng {a b : Int} (ha : 0 ≤ a) (hb : 0 ≤ b) : 0 ≤ plusF a b ∧ plusF a b < 18446744073709551616 := by
  unfold plusF
  split <;> omega
structure BkW (r b l a : Int) : Prop where
  r0 : 0 ≤ r
  r1 : r < 18446744073709551616
  b0 : 0 ≤ b
  b1 : b < 18446744073709551616
  l0 : 0 ≤ l
  l1 : l < 18446744073709551616
  a0 : -9223372036854775808 ≤ a
  a1 : a ≤ 9223372036854775807
theorem ticks {a now : Int} (ha0 : -9223372036854775808 ≤ a) (ha1 : a ≤ 9223372036854775807) (hn0 : -9223372036854775808 ≤ now) (hn1 : now ≤ 9223372036854775807) (h : a ≤ now) :
    IntKind.u64.wrap (IntKind.u64.wrap now - IntKind.u64.wrap a) = now - a ∧ 0 ≤ now - a ∧ now - a < 18446744073709551616 := by
  rw [wrap64u, wrap64u, wrap64u]
  omega
theorem fill_f (r b l a now : Int) (h : BkW r b l a) (hn0 : -9223372036854775808 ≤ now) (hn1 : now ≤ 9223372036854775807) : PMD.limit_Fill.f r b l a now = some (r, b, levF r b l a now, tickF a now) := by
  unfold PMD.limit_Fill.f levF tickF
  by_cases hle : now ≤ a
  · rw [if_pos hle, if_pos hle, if_pos hle]
  · obtain ⟨e1, e2, e3⟩ := ticks h.a0 h.a1 hn0 hn1 (show a ≤ now by omega)
    rw [if_neg hle, if_neg hle, if_neg hle, e1, times_f r _ h.r0 e2 h.r1 e3]
    have ht := timesF_rng h.r0 e2
    simp only [Option.bind_some]
    unfold PMD.limit_Plus.f
    rw [if_pos ⟨⟨h.l0, h.l1⟩, ht.1, ht.2⟩]
    simp only [Option.bind_some]
    unfold mn
    rfl
end Go.Proofs.YtbpmgaaipkenkaaDoor
end
section
namespace Go.Proofs.YtbpmgaaipkenkaaDoor.PMG
open Go.RowKit Go.Proofs.YtbpmgaaipkenkaaDoorW.PrintWords Go.Proofs.YtbpmgaaipkenkaaDoorW.PrintLast Go.Proofs.YtbpmgaaipkenkaaDoorW.PrintMore
attribute [local go_sem] max2_int min2_int max_two min_two max_three min_three max_four min_four
set_option linter.unusedVariables false
set_option linter.unusedSimpArgs false
def errW : Option Int → Value
 | none => .nilIface
 | some c => .iface 0 (.int .i64 c)
theorem errW_none : errW none = .nilIface := rfl
theorem errW_some (c : Int) : errW (some c) = .iface 0 (.int .i64 c) := rfl
end Go.Proofs.YtbpmgaaipkenkaaDoor.PMG
end
section
namespace Go.Proofs.YtbpmgaaipkenkaaDoor.PMG
open Go.RowKit Go.Proofs.YtbpmgaaipkenkaaDoorW.PrintWords Go.Proofs.YtbpmgaaipkenkaaDoorW.PrintLast Go.Proofs.YtbpmgaaipkenkaaDoorW.PrintMore
attribute [local go_sem] max2_int min2_int max_two min_two max_three min_three max_four min_four
set_option linter.unusedVariables false
set_option linter.unusedSimpArgs false
def manometerref19_Plus.f (a0 : Int) (a1 : Int) : Option (Int) := if a0 > (IntKind.u64.wrap (18446744073709551615 - a1)) then (some 18446744073709551615) else (some (IntKind.u64.wrap (a0 + a1)))
set_option maxHeartbeats 8000000 in
set_option maxRecDepth 100000 in
theorem manometerref19_Plus.calls (a0 : Int) (a1 : Int) (r : Int) (w : World) (h : manometerref19_Plus.f a0 a1 = some r) :
  Calls Tryd.prog 13 #[.int .u64 a0, .int .u64 a1] w fun e w' => e = .returned (.int .u64 r) ∧ Drawn0 w w' := by
 have H : (if a0 > (IntKind.u64.wrap (18446744073709551615 - a1)) then (some 18446744073709551615) else (some (IntKind.u64.wrap (a0 + a1)))) = some r := h
 clear h
 by_cases c3 : a0 > (IntKind.u64.wrap (18446744073709551615 - a1))
 ·rw [if_pos c3] at H
  have c3b0 : decide ((IntKind.u64.wrap (18446744073709551615 - a1)) < a0) = true := decide_eq_true c3
  clear c3
  obtain rfl := Option.some.inj H
  go_enter Tryd.func13, Tryd.ntmps13
  go_wp2
  go_ret
  exact ⟨y21_, y18_⟩
 ·rw [if_neg c3] at H
  have c3b0 : decide ((IntKind.u64.wrap (18446744073709551615 - a1)) < a0) = false := decide_eq_false c3
  clear c3
  obtain rfl := Option.some.inj H
  go_enter Tryd.func13, Tryd.ntmps13
  go_wp2
  go_ret
  exact ⟨y21_, y18_⟩
end Go.Proofs.YtbpmgaaipkenkaaDoor.PMG
end
section
namespace Go.Proofs.YtbpmgaaipkenkaaDoor
open Go Go.RowKit Go.Proofs.YtbpmgaaipkenkaaDoorW.PrintWords Go.Proofs.YtbpmgaaipkenkaaDoorW.PrintLast Go.Proofs.YtbpmgaaipkenkaaDoorW.PrintMore
set_option linter.unusedVariables false
set_option linter.unusedSimpArgs false
attribute [local go_sem ↓] Go.wp_at_zero Go.wp_at_succ
attribute [local go_sem] max2_int min2_int max_two min_two
theorem rplus_f (a b : Int) (ha : 0 ≤ a) (hb : 0 ≤ b) (ha1 : a < 18446744073709551616) (hb1 : b < 18446744073709551616) : PMG.manometerref19_Plus.f a b = some (plusF a b) := by
  unfold PMG.manometerref19_Plus.f plusF
  rw [wrap64u, wrap64u]
  by_cases h : 18446744073709551615 < a + b
  · rw [if_pos (by omega), if_pos h]
  · rw [if_neg (by omega), if_neg h]
    congr 1
    omega
theorem rplus_calls (a b : Int) (w : World) (ha : 0 ≤ a) (hb : 0 ≤ b) (ha1 : a < 18446744073709551616) (hb1 : b < 18446744073709551616) :
    Calls Tryd.prog 13 #[.int .u64 a, .int .u64 b] w fun e w' => e = .returned (.int .u64 (plusF a b)) ∧ Drawn0 w w' :=
  PMG.manometerref19_Plus.calls a b _ w (rplus_f a b ha hb ha1 hb1)
set_option maxRecDepth 20000 in
set_option maxHeartbeats 4000000 in
theorem ruse_calls (w : World) (u q n : Int) (hu : 0 ≤ u) (hn : 0 ≤ n) (hu1 : u < 18446744073709551616) (hn1 : n < 18446744073709551616) :
    Calls Tryd.prog 26 #[us u q, .int .u64 n] w fun e w' => e = .returned (.tuple #[us (if q < plusF u n then u else plusF u n) q, .bool (!decide (q < plusF u n))]) ∧ Below w.heap.size w w' := by
  have HF := Lib.hid (fun W => rplus_calls u n W hu hn hu1 hn1)
  generalize plusF u n = v at *
  clear hu hn hu1 hn1
  go_enter Tryd.func26, Tryd.ntmps26
  go_upto_region 1 with fail
  obtain ⟨W1, hW1⟩ : ∃ W, W = (w.alloc (.cells #[.int .u64 u, .int .u64 q] 42)).alloc (.cells #[.int .u64 0, .int .u64 0] 42) := ⟨_, rfl⟩
  have hB2 := Below.refl W1.heap.size W1
  have hb1 : W1.heap[w.heap.size]? = some (.cells #[.int .u64 u, .int .u64 q] 42 (0, 0)) := by rw [hW1] at hB2 ⊢; exact duo1 hB2
  have hb2 : W1.heap[w.heap.size + 1]? = some (.cells #[.int .u64 0, .int .u64 0] 42 (0, 0)) := by rw [hW1] at hB2 ⊢; exact duo2 hB2
  have HB2 : Hid (Below w.heap.size w W1) := Lib.hid (by rw [hW1] at hB2 ⊢; exact duo hB2)
  rw [← hW1]
  clear hB2 hW1
  have G1 := Lib.hid hb1
  have G2 := Lib.hid hb2
  have c0 := cell2_0 hb1
  have c1 := cell2_1 hb1
  go_quiet (first | (go_at_call 13; (with_reducible refine (HF.out _).mono ?_); rintro e w' ⟨rfl, ⟨nd, rfl⟩⟩; exact ⟨rfl, _, World.drewN_drewN _ _ _⟩))
  have HBq := Lib.hid (pw_below_drewN HB2.out nq)
  have hq1 : (W1.drewN nq).heap[w.heap.size]? = some (.cells #[.int .u64 u, .int .u64 q] 42 (0, 0)) := hb1
  have hq2 : (W1.drewN nq).heap[w.heap.size + 1]? = some (.cells #[.int .u64 0, .int .u64 0] 42 (0, 0)) := hb2
  clear c0 c1 hb1 hb2 G1 G2 HB2
  generalize W1.drewN nq = W2 at HBq hq1 hq2
  have G1 := Lib.hid hq1
  have G2 := Lib.hid hq2
  have c0 := cell2_0 hq1
  have c1 := cell2_1 hq1
  have d0 := cell2_0 hq2
  have d1 := cell2_1 hq2
  have f0 := blk_frozen hq1 0
  have g0 := blk_frozen hq2 0
  have g1 := blk_frozen hq2 1
  clear hq1 hq2
  by_cases hlt : q < v
  · have hd : decide (q < v) = true := decide_eq_true hlt
    go_wp2
    refine bodyPost_ret (results_ct rfl _ _ (w.heap.size + 1) 42 #[.int .u64 u, .int .u64 q] (0, 0) _ rfl (set2_at G2.out _ _) Tryd.underlying42 rfl (by kernel_rfl)) rfl ?_
    exact ⟨by first | rfl | (simp [hd]; done), set2_below HBq.out (by omega) _ _⟩
  · have hd : decide (q < v) = false := decide_eq_false hlt
    go_upto_region 4 with (go_at_call 13; refine (HF.out _).mono ?_; rintro e w3 ⟨rfl, hD⟩; have hB3 := drawn_b hD; have h31 := blk_below G1.out hB3; have h32 := blk_below G2.out hB3; have HB3 := Lib.hid (HBq.out.trans (lower_k hB3 HBq.out.size)); clear hB3 hD; have K1 := Lib.hid h31; have K2 := Lib.hid h32; have e0 := cell2_0 h31; have e1 := cell2_1 h31; have x0 := cell2_0 h32; have x1 := cell2_1 h32; have ff := blk_frozen h31 0; have gg := blk_frozen h32 0; have gh := blk_frozen h32 1; clear h31 h32)
    go_wp2
    refine bodyPost_ret (results_ct rfl _ _ (w.heap.size + 1) 42 #[.int .u64 v, .int .u64 q] (0, 0) _ rfl (set2_at (blk_far (p := ⟨w.heap.size, 0, none⟩) K2.out (by show w.heap.size + 1 ≠ w.heap.size; omega) _) _ _) Tryd.underlying42 rfl (by kernel_rfl)) rfl ?_
    exact ⟨by first | rfl | (simp [hd]; done), set2_below (below_set HB3.out (Nat.le_refl _)) (by omega) _ _⟩
end Go.Proofs.YtbpmgaaipkenkaaDoor
end
section
namespace Go.Proofs.YtbpmgaaipkenkaaDoor
open Go Go.RowKit Go.Proofs.YtbpmgaaipkenkaaDoorW.PrintWords Go.Proofs.YtbpmgaaipkenkaaDoorW.PrintLast Go.Proofs.YtbpmgaaipkenkaaDoorW.PrintMore
set_option linter.unusedVariables false
def okB (r b l a now : Int) : Bool := decide ((0 ≤ r ∧ r < 18446744073709551616) ∧ (0 ≤ b ∧ b < 18446744073709551616) ∧ (0 ≤ l ∧ l < 18446744073709551616) ∧ (-9223372036854775808 ≤ a ∧ a ≤ 9223372036854775807) ∧ (-9223372036854775808 ≤ now ∧ now ≤ 9223372036854775807))
theorem okB_w {r b l a now : Int} (h : okB r b l a now = true) : BkW r b l a ∧ -9223372036854775808 ≤ now ∧ now ≤ 9223372036854775807 := by
  have h := of_decide_eq_true h
  exact ⟨⟨h.1.1, h.1.2, h.2.1.1, h.2.1.2, h.2.2.1.1, h.2.2.1.2, h.2.2.2.1.1, h.2.2.2.1.2⟩, h.2.2.2.2.1, h.2.2.2.2.2⟩
def okN (a b : Int) : Bool := decide ((0 ≤ a ∧ a < 18446744073709551616) ∧ 0 ≤ b ∧ b < 18446744073709551616)
section
variable {r b l a now n : Int}
theorem gfill (w : World) (h : okB r b l a now = true) : Calls Tryd.prog 18 #[bk r b l a, .int .i64 now] w fun e w' => e = .returned (bk r b (levF r b l a now) (tickF a now)) ∧ Below w.heap.size w w' :=
  PMD.limit_Fill.calls r b l a now _ _ _ _ w (fill_f r b l a now (okB_w h).1 (okB_w h).2.1 (okB_w h).2.2)
theorem guse {u q : Int} (w : World) (h : okN u n = true) : Calls Tryd.prog 25 #[us u q, .int .u64 n] w fun e w' => e = .returned (.tuple #[us (if q < plusF u n then u else plusF u n) q, .bool (!decide (q < plusF u n))]) ∧ Below w.heap.size w w' := by
  have h := of_decide_eq_true h
  exact use_calls w u q n h.1.1 h.2.1 h.1.2 h.2.2
theorem gruse {u q : Int} (w : World) (h : okN u n = true) : Calls Tryd.prog 26 #[us u q, .int .u64 n] w fun e w' => e = .returned (.tuple #[us (if q < plusF u n then u else plusF u n) q, .bool (!decide (q < plusF u n))]) ∧ Below w.heap.size w w' := by
  have h := of_decide_eq_true h
  exact ruse_calls w u q n h.1.1 h.2.1 h.1.2 h.2.2
theorem gtimes (x y : Int) (w : World) (h : okN x y = true) : Calls Tryd.prog 14 #[.int .u64 x, .int .u64 y] w fun e w' => e = .returned (.int .u64 (timesF x y)) ∧ Drawn0 w w' := by
  have h := of_decide_eq_true h
  exact PMD.limit_Times.calls x y _ w (times_f x y h.1.1 h.2.1 h.1.2 h.2.2)
theorem gplus (x y : Int) (w : World) (h : okN x y = true) : Calls Tryd.prog 12 #[.int .u64 x, .int .u64 y] w fun e w' => e = .returned (.int .u64 (plusF x y)) ∧ Drawn0 w w' := by
  have h := of_decide_eq_true h
  exact plus_calls x y w h.1.1 h.2.1 h.1.2 h.2.2
theorem grplus (x y : Int) (w : World) (h : okN x y = true) : Calls Tryd.prog 13 #[.int .u64 x, .int .u64 y] w fun e w' => e = .returned (.int .u64 (plusF x y)) ∧ Drawn0 w w' := by
  have h := of_decide_eq_true h
  exact rplus_calls x y w h.1.1 h.2.1 h.1.2 h.2.2
end
end Go.Proofs.YtbpmgaaipkenkaaDoor
end
section
namespace Go.Proofs.YtbpmgaaipkenkaaDoor.PMB
open Go.RowKit Go.Proofs.YtbpmgaaipkenkaaDoorW.PrintWords Go.Proofs.YtbpmgaaipkenkaaDoorW.PrintLast Go.Proofs.YtbpmgaaipkenkaaDoorW.PrintMore
attribute [local go_sem] max2_int min2_int max_two min_two max_three min_three max_four min_four
set_option linter.unusedVariables false
set_option linter.unusedSimpArgs false
def errW : Option Int → Value
 | none => .nilIface
 | some c => .iface 0 (.int .i64 c)
theorem errW_none : errW none = .nilIface := rfl
theorem errW_some (c : Int) : errW (some c) = .iface 0 (.int .i64 c) := rfl
structure S42 where
 f0 : Int
 f1 : Int
def k42 : Kd S42 := Kd.iso (Kd.pair (Kd.int .u64) (Kd.int .u64)) (fun x : S42 => (x.f0, x.f1))
theorem k42_open {w : World} {x : S42} {cs : List Value} (h : k42.K w x cs) : cs = [.int .u64 x.f0, .int .u64 x.f1] := by
 obtain ⟨_, _, rfl, rfl, rfl⟩ := h
 exact rfl
end Go.Proofs.YtbpmgaaipkenkaaDoor.PMB
end
section
namespace Go.Proofs.YtbpmgaaipkenkaaDoor.PMB
open Go.RowKit Go.Proofs.YtbpmgaaipkenkaaDoorW.PrintWords Go.Proofs.YtbpmgaaipkenkaaDoorW.PrintLast Go.Proofs.YtbpmgaaipkenkaaDoorW.PrintMore
attribute [local go_sem] max2_int min2_int max_two min_two max_three min_three max_four min_four
set_option linter.unusedVariables false
set_option linter.unusedSimpArgs false
def manometerlaw19_live.f : Option (Bool) := some true
theorem manometerlaw19_live.calls  (r : Bool) (w : World) (hT : Aside0 (Tab w)) (h : manometerlaw19_live.f  = some r) :
  Calls Tryd.prog 11 #[] w fun e w' => e = .returned (.bool r) ∧ Below w.heap.size w w' := by
 obtain rfl := Option.some.inj h
 exact live_calls w hT.out
def limit_Plus.f (a0 : Int) (a1 : Int) : Option (Int) := if okN a0 a1 = true then some (plusF a0 a1) else none
theorem limit_Plus.calls (a0 : Int) (a1 : Int) (r : Int) (w : World) (h : limit_Plus.f a0 a1 = some r) :
  Calls Tryd.prog 12 #[.int .u64 a0, .int .u64 a1] w fun e w' => e = .returned (.int .u64 r) ∧ Drawn0 w w' := by
 unfold limit_Plus.f at h
 split at h
 ·rename_i h1
  obtain rfl := Option.some.inj h
  exact gplus a0 a1 w h1
 ·cases h
def manometerref19_Plus.f (a0 : Int) (a1 : Int) : Option (Int) := if okN a0 a1 = true then some (plusF a0 a1) else none
theorem manometerref19_Plus.calls (a0 : Int) (a1 : Int) (r : Int) (w : World) (h : manometerref19_Plus.f a0 a1 = some r) :
  Calls Tryd.prog 13 #[.int .u64 a0, .int .u64 a1] w fun e w' => e = .returned (.int .u64 r) ∧ Drawn0 w w' := by
 unfold manometerref19_Plus.f at h
 split at h
 ·rename_i h1
  obtain rfl := Option.some.inj h
  exact grplus a0 a1 w h1
 ·cases h
def limit_Times.f (a0 : Int) (a1 : Int) : Option (Int) := if okN a0 a1 = true then some (timesF a0 a1) else none
theorem limit_Times.calls (a0 : Int) (a1 : Int) (r : Int) (w : World) (h : limit_Times.f a0 a1 = some r) :
  Calls Tryd.prog 14 #[.int .u64 a0, .int .u64 a1] w fun e w' => e = .returned (.int .u64 r) ∧ Drawn0 w w' := by
 unfold limit_Times.f at h
 split at h
 ·rename_i h1
  obtain rfl := Option.some.inj h
  exact gtimes a0 a1 w h1
 ·cases h
def limit_Fill.f (a0_0 : Int) (a0_1 : Int) (a0_2 : Int) (a0_3 : Int) (a1 : Int) : Option (Int × Int × Int × Int) := if okB a0_0 a0_1 a0_2 a0_3 a1 = true then some (a0_0, a0_1, levF a0_0 a0_1 a0_2 a0_3 a1, tickF a0_3 a1) else none
theorem limit_Fill.calls (a0_0 : Int) (a0_1 : Int) (a0_2 : Int) (a0_3 : Int) (a1 : Int) (r1 : Int) (r2 : Int) (r3 : Int) (r4 : Int) (w : World) (h : limit_Fill.f a0_0 a0_1 a0_2 a0_3 a1 = some (r1, r2, r3, r4)) :
  Calls Tryd.prog 18 #[.agg #[.int .u64 a0_0, .int .u64 a0_1, .int .u64 a0_2, .int .i64 a0_3], .int .i64 a1] w fun e w' => e = .returned (.agg #[.int .u64 r1, .int .u64 r2, .int .u64 r3, .int .i64 r4]) ∧ Below w.heap.size w w' := by
 unfold limit_Fill.f at h
 split at h
 ·rename_i h1
  simp only [Option.some.injEq, Prod.mk.injEq] at h
  obtain ⟨rfl, rfl, rfl, rfl⟩ := h
  exact gfill w h1
 ·cases h
def limit_Full.f (a0 : Int) (a1 : Int) (a2 : Int) : Option (Int × Int × Int × Int) := some (a0, a1, a1, a2)
set_option maxHeartbeats 8000000 in
set_option maxRecDepth 100000 in
theorem limit_Full.calls (a0 : Int) (a1 : Int) (a2 : Int) (r1 : Int) (r2 : Int) (r3 : Int) (r4 : Int) (w : World) (h : limit_Full.f a0 a1 a2 = some (r1, r2, r3, r4)) :
  Calls Tryd.prog 17 #[.int .u64 a0, .int .u64 a1, .int .i64 a2] w fun e w' => e = .returned (.agg #[.int .u64 r1, .int .u64 r2, .int .u64 r3, .int .i64 r4]) ∧ Below w.heap.size w w' := by
 have hu30 := Tryd.underlying30
 have HB := Aside0.mk (Below.refl w.heap.size w)
 have H : (some (a0, a1, a1, a2)) = some (r1, r2, r3, r4) := h
 clear h
 simp only [Option.some.injEq, Prod.mk.injEq] at H
 obtain ⟨rfl, rfl, rfl, rfl⟩ := H
 go_enter Tryd.func17, Tryd.ntmps17
 go_wp2_with (first | ((with_reducible refine gate_dst (N := 6) rfl ?_); refine box_event ?hg (N := 6) ?hd (cs := #[.int .u64 0, .int .u64 0, .int .u64 0, .int .i64 0]) (t := 30) ?hr ?_; (case hd => rfl); (case hg => rfl); (case hr => first | (go_simp; done) | (go_simp; rfl)); intro gb129 hg w4 hbox hb; have n0_ := Aside0.mk (below_step y1_ hb); have n1_ := Aside0.mk (hbox); have n2_ := Aside0.mk ((y15_ : w.heap.size ≤ gb129)); have n3_ := Aside0.mk ((y15_ : w.heap.size ≤ gb129)); clear HB; have HB := n0_; have BK129 := n1_; have GW129 := n2_; have GE129 := n3_; clear n0_ n1_ n2_ n3_; clear hb hbox hg; have hcz5_0 : w4.cell? ⟨gb129, 0, none⟩ = some (.int .u64 0) := (blk_cell BK129.out 0).trans rfl; have hcz5_1 : w4.cell? ⟨gb129, 1, none⟩ = some (.int .u64 0) := (blk_cell BK129.out 1).trans rfl; have hcz5_2 : w4.cell? ⟨gb129, 2, none⟩ = some (.int .u64 0) := (blk_cell BK129.out 2).trans rfl; have hcz5_3 : w4.cell? ⟨gb129, 3, none⟩ = some (.int .i64 0) := (blk_cell BK129.out 3).trans rfl; have hfz5_0 := blk_frozen BK129.out 0; have hfz5_1 := blk_frozen BK129.out 1; have hfz5_2 := blk_frozen BK129.out 2; have hfz5_3 := blk_frozen BK129.out 3))
 refine bodyPost_ret (results_cell_row rfl _ _ gb129 30 #[.int .u64 a0, .int .u64 a1, .int .u64 a1, .int .i64 a2] (0, 0) _ rfl (by (with_reducible repeat (first | refine blk_drewN ?_ _ | refine blk_drew ?_ | refine blk_alloc ?_ _)); refine blk_put (cs := #[.int .u64 a0, .int .u64 a1, .int .u64 a1, .int .i64 0]) ?_ 3 _ rfl; (with_reducible repeat (first | refine blk_drewN ?_ _ | refine blk_drew ?_ | refine blk_alloc ?_ _)); refine blk_put (cs := #[.int .u64 a0, .int .u64 a1, .int .u64 0, .int .i64 0]) ?_ 2 _ rfl; (with_reducible repeat (first | refine blk_drewN ?_ _ | refine blk_drew ?_ | refine blk_alloc ?_ _)); refine blk_put (cs := #[.int .u64 a0, .int .u64 0, .int .u64 0, .int .i64 0]) ?_ 1 _ rfl; (with_reducible repeat (first | refine blk_drewN ?_ _ | refine blk_drew ?_ | refine blk_alloc ?_ _)); refine blk_put (cs := #[.int .u64 0, .int .u64 0, .int .u64 0, .int .i64 0]) ?_ 0 _ rfl; (with_reducible repeat (first | refine blk_drewN ?_ _ | refine blk_drew ?_ | refine blk_alloc ?_ _)); exact BK129.out) Tryd.underlying30 rfl (by kernel_rfl)) rfl ?_
 exact ⟨y10_, by repeat (first | (with_reducible first | exact HB.out | apply below_alloc | apply pw_below_drewN | apply below_drew1 | refine below_set ?_ GE129.out) | exact HB.out)⟩
end Go.Proofs.YtbpmgaaipkenkaaDoor.PMB
end
section
namespace Go.Proofs.YtbpmgaaipkenkaaDoor.PMB
open Go.RowKit Go.Proofs.YtbpmgaaipkenkaaDoorW.PrintWords Go.Proofs.YtbpmgaaipkenkaaDoorW.PrintLast Go.Proofs.YtbpmgaaipkenkaaDoorW.PrintMore
attribute [local go_sem] max2_int min2_int max_two min_two max_three min_three max_four min_four
set_option linter.unusedVariables false
set_option linter.unusedSimpArgs false
theorem eqA30 (d : Nat) (w : World) (x0 y0 : Int) (x1 y1 : Int) (x2 y2 : Int) (x3 y3 : Int) :
  (Op.equalIn (d + 2) 30 (.agg #[.int .u64 x0, .int .u64 x1, .int .u64 x2, .int .i64 x3]) (.agg #[.int .u64 y0, .int .u64 y1, .int .u64 y2, .int .i64 y3])).run Tryd.prog w = .ok (x0 == y0 && (x1 == y1 && (x2 == y2 && (x3 == y3)))) w := by
 refine eqA_of Tryd.underlying30 (by kernel_rfl) ?_
 refine eqf_cons (by rfl) (by go_simp; rfl) (by go_simp; rfl) (by go_simp) ?_
 refine eqf_cons (by rfl) (by go_simp; rfl) (by go_simp; rfl) (by go_simp) ?_
 refine eqf_cons (by rfl) (by go_simp; rfl) (by go_simp; rfl) (by go_simp) ?_
 exact eqf_last (by rfl) (by go_simp; rfl) (by go_simp; rfl) (by go_simp)
end Go.Proofs.YtbpmgaaipkenkaaDoor.PMB
end
section
namespace Go.Proofs.YtbpmgaaipkenkaaDoor.PMB
open Go.RowKit Go.Proofs.YtbpmgaaipkenkaaDoorW.PrintWords Go.Proofs.YtbpmgaaipkenkaaDoorW.PrintLast Go.Proofs.YtbpmgaaipkenkaaDoorW.PrintMore
attribute [local go_sem] max2_int min2_int max_two min_two max_three min_three max_four min_four
set_option linter.unusedVariables false
set_option linter.unusedSimpArgs false
attribute [local go_sem high] eqA30
end Go.Proofs.YtbpmgaaipkenkaaDoor.PMB
end
section
namespace Go.Proofs.YtbpmgaaipkenkaaDoor.PMB
open Go.RowKit Go.Proofs.YtbpmgaaipkenkaaDoorW.PrintWords Go.Proofs.YtbpmgaaipkenkaaDoorW.PrintLast Go.Proofs.YtbpmgaaipkenkaaDoorW.PrintMore
attribute [local go_sem] max2_int min2_int max_two min_two max_three min_three max_four min_four
set_option linter.unusedVariables false
set_option linter.unusedSimpArgs false
end Go.Proofs.YtbpmgaaipkenkaaDoor.PMB
end
section
namespace Go.Proofs.YtbpmgaaipkenkaaDoor.PMB
open Go.RowKit Go.Proofs.YtbpmgaaipkenkaaDoorW.PrintWords Go.Proofs.YtbpmgaaipkenkaaDoorW.PrintLast Go.Proofs.YtbpmgaaipkenkaaDoorW.PrintMore
attribute [local go_sem] max2_int min2_int max_two min_two max_three min_three max_four min_four
set_option linter.unusedVariables false
set_option linter.unusedSimpArgs false
attribute [local go_sem high] eqA30
end Go.Proofs.YtbpmgaaipkenkaaDoor.PMB
end
section
namespace Go.Proofs.YtbpmgaaipkenkaaDoor.PMB
open Go.RowKit Go.Proofs.YtbpmgaaipkenkaaDoorW.PrintWords Go.Proofs.YtbpmgaaipkenkaaDoorW.PrintLast Go.Proofs.YtbpmgaaipkenkaaDoorW.PrintMore
attribute [local go_sem] max2_int min2_int max_two min_two max_three min_three max_four min_four
set_option linter.unusedVariables false
set_option linter.unusedSimpArgs false
theorem eqA42 (d : Nat) (w : World) (x0 y0 : Int) (x1 y1 : Int) :
  (Op.equalIn (d + 2) 42 (.agg #[.int .u64 x0, .int .u64 x1]) (.agg #[.int .u64 y0, .int .u64 y1])).run Tryd.prog w = .ok (x0 == y0 && (x1 == y1)) w := by
 refine eqA_of Tryd.underlying42 (by kernel_rfl) ?_
 refine eqf_cons (by rfl) (by go_simp; rfl) (by go_simp; rfl) (by go_simp) ?_
 exact eqf_last (by rfl) (by go_simp; rfl) (by go_simp; rfl) (by go_simp)
end Go.Proofs.YtbpmgaaipkenkaaDoor.PMB
end
