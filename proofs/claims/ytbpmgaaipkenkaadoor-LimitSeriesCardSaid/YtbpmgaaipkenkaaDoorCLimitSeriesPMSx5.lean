import Derived.Test.YtbpmgaaipkenkaaDoorCLimitSeriesPMDx0
import Derived.Test.YtbpmgaaipkenkaaDoorCLimitSeriesPMDx1
import Derived.Test.YtbpmgaaipkenkaaDoorCLimitSeriesPMSx0
import Derived.Test.YtbpmgaaipkenkaaDoorCLimitSeriesPMCx0
import Derived.Test.YtbpmgaaipkenkaaDoorCLimitSeriesPMSx4
section
namespace Go.Proofs.YtbpmgaaipkenkaaDoor
open Go Go.RowKit Go.Proofs.YtbpmgaaipkenkaaDoorW.PrintWords Go.Proofs.YtbpmgaaipkenkaaDoorW.PrintLast Go.Proofs.YtbpmgaaipkenkaaDoorW.PrintMore
set_option linter.unusedVariables false
set_option linter.unusedSimpArgs false
attribute [local go_sem ↓] Go.wp_at_zero Go.wp_at_succ
attribute [local go_sem] max2_int min2_int max_two min_two
abbrev bk (r b l a : Int) : Value := .agg #[.int .u64 r, .int .u64 b, .int .u64 l, .int .i64 a]
abbrev set4 (w : World) (g : Nat) (a b c d : Value) : World := (((w.setCell ⟨g, 0, none⟩ a).setCell ⟨g, 1, none⟩ b).setCell ⟨g, 2, none⟩ c).setCell ⟨g, 3, none⟩ d
theorem set4_at {w : World} {g t : Nat} {a b c d : Value} (h : w.heap[g]? = some (.cells #[a, b, c, d] t (0, 0))) (a' b' c' d' : Value) :
    (set4 w g a' b' c' d').heap[g]? = some (.cells #[a', b', c', d'] t (0, 0)) := blk_set (blk_set (blk_set (blk_set h 0 a') 1 b') 2 c') 3 d'
theorem set4_far {w : World} {g k t : Nat} {cs : Array Value} (h : w.heap[k]? = some (.cells cs t (0, 0))) (hne : k ≠ g) (a' b' c' d' : Value) : (set4 w g a' b' c' d').heap[k]? = some (.cells cs t (0, 0)) :=
  blk_far (p := ⟨g, 3, none⟩) (blk_far (p := ⟨g, 2, none⟩) (blk_far (p := ⟨g, 1, none⟩) (blk_far (p := ⟨g, 0, none⟩) h hne _) hne _) hne _) hne _
theorem set4_below {w0 w : World} {g : Nat} (h : Below w0.heap.size w0 w) (hg : w0.heap.size ≤ g) (a b c d : Value) : Below w0.heap.size w0 (set4 w g a b c d) :=
  below_set (below_set (below_set (below_set h hg) hg) hg) hg
theorem lower_k {B B' : Nat} {w w' : World} (h : Below B w w') (hle : B' ≤ B) : Below B' w w' := ⟨h.os, h.tape, h.output, h.size, fun k hk => h.block k (by omega)⟩
section
variable {w w2 : World} {a b c d a' b' c' d' : Value} {t t' g : Nat}
theorem two_boxes1 (h : Below ((w.alloc (.cells #[a, b, c, d] t)).alloc (.cells #[a', b', c', d'] t')).heap.size ((w.alloc (.cells #[a, b, c, d] t)).alloc (.cells #[a', b', c', d'] t')) w2) : w2.heap[w.heap.size]? = some (.cells #[a, b, c, d] t (0, 0)) :=
  (h.block _ (by rw [World.size_alloc, World.size_alloc]; omega)).trans ((heap_alloc_old _ _ (by rw [World.size_alloc]; omega)).trans (heap_alloc_new w _))
theorem two_boxes2 (h : Below ((w.alloc (.cells #[a, b, c, d] t)).alloc (.cells #[a', b', c', d'] t')).heap.size ((w.alloc (.cells #[a, b, c, d] t)).alloc (.cells #[a', b', c', d'] t')) w2) : w2.heap[w.heap.size + 1]? = some (.cells #[a', b', c', d'] t' (0, 0)) := by
  have e : w.heap.size + 1 = (w.alloc (.cells #[a, b, c, d] t)).heap.size := by rw [World.size_alloc]
  rw [e]
  exact (h.block _ (by rw [World.size_alloc (w.alloc _)]; omega)).trans (heap_alloc_new _ _)
theorem two_boxes (h : Below ((w.alloc (.cells #[a, b, c, d] t)).alloc (.cells #[a', b', c', d'] t')).heap.size ((w.alloc (.cells #[a, b, c, d] t)).alloc (.cells #[a', b', c', d'] t')) w2) : Below w.heap.size w w2 :=
  (below_alloc (below_alloc (Below.refl _ w) _) _).trans (lower_k h (by rw [World.size_alloc, World.size_alloc]; omega))
theorem cell4_0 (h : w.heap[g]? = some (.cells #[a, b, c, d] t (0, 0))) : w.cell? ⟨g, 0, none⟩ = some a := (blk_cell h 0).trans rfl
theorem cell4_1 (h : w.heap[g]? = some (.cells #[a, b, c, d] t (0, 0))) : w.cell? ⟨g, 1, none⟩ = some b := (blk_cell h 1).trans rfl
theorem cell4_2 (h : w.heap[g]? = some (.cells #[a, b, c, d] t (0, 0))) : w.cell? ⟨g, 2, none⟩ = some c := (blk_cell h 2).trans rfl
theorem cell4_3 (h : w.heap[g]? = some (.cells #[a, b, c, d] t (0, 0))) : w.cell? ⟨g, 3, none⟩ = some d := (blk_cell h 3).trans rfl
end
set_option maxRecDepth 20000 in
set_option maxHeartbeats 4000000 in
theorem take_calls (w : World) (r b l a now n : Int) (r1 r2 r3 r4 : Int) (h : PMD.limit_Fill.f r b l a now = some (r1, r2, r3, r4)) :
    Calls Tryd.prog 23 #[bk r b l a, .int .i64 now, .int .u64 n] w fun e w' => e = .returned (.tuple #[bk r1 r2 (if r3 < n then r3 else IntKind.u64.wrap (r3 - n)) r4, .bool (!decide (r3 < n))]) ∧ Below w.heap.size w w' := by
  have HF := Lib.hid (fun W => PMD.limit_Fill.calls r b l a now r1 r2 r3 r4 W h)
  clear h
  go_enter Tryd.func23, Tryd.ntmps23
  go_upto_region 2 with (go_at_call 18; refine (HF.out _).mono ?_; rintro e w2 ⟨rfl, hB2⟩; have hb1 := two_boxes1 hB2; have hb2 := two_boxes2 hB2; have HB2 := Lib.hid (two_boxes hB2); clear hB2; have HQ1 := Lib.hid hb1; have HQ2 := Lib.hid hb2; have hc0 := cell4_0 hb1; have hc1 := cell4_1 hb1; have hc2 := cell4_2 hb1; have hc3 := cell4_3 hb1; have hf0 := blk_frozen hb1 0; have hf1 := blk_frozen hb1 1; have hf2 := blk_frozen hb1 2; have hf3 := blk_frozen hb1 3; clear hb1 hb2)
  clear hc0 hc1 hc2 hc3 hf0 hf1 hf2 hf3
  obtain ⟨W3, hW3⟩ : ∃ W3, W3 = set4 w2 w.heap.size (.int .u64 r1) (.int .u64 r2) (.int .u64 r3) (.int .i64 r4) := ⟨_, rfl⟩
  have h31 := set4_at HQ1.out (.int .u64 r1) (.int .u64 r2) (.int .u64 r3) (.int .i64 r4)
  have h32 := set4_far HQ2.out (show w.heap.size + 1 ≠ w.heap.size by omega) (.int .u64 r1) (.int .u64 r2) (.int .u64 r3) (.int .i64 r4)
  have h3b := set4_below HB2.out (Nat.le_refl _) (.int .u64 r1) (.int .u64 r2) (.int .u64 r3) (.int .i64 r4)
  rw [← hW3] at h31 h32 h3b
  simp only [set4] at hW3
  rw [← hW3]
  clear hW3 HQ1 HQ2 HB2
  have G1 := Lib.hid h31
  have G2 := Lib.hid h32
  have GB := Lib.hid h3b
  have c0 := cell4_0 h31
  have c1 := cell4_1 h31
  have c2 := cell4_2 h31
  have c3 := cell4_3 h31
  have d0 := cell4_0 h32
  have d1 := cell4_1 h32
  have d2 := cell4_2 h32
  have d3 := cell4_3 h32
  have f2 := blk_frozen h31 2
  have g0 := blk_frozen h32 0
  have g1 := blk_frozen h32 1
  have g2 := blk_frozen h32 2
  have g3 := blk_frozen h32 3
  clear h31 h32 h3b
  by_cases hlt : r3 < n
  · have hd : decide (r3 < n) = true := decide_eq_true hlt
    go_wp2
    refine bodyPost_ret (results_ct rfl _ _ (w.heap.size + 1) 30 #[.int .u64 r1, .int .u64 r2, .int .u64 r3, .int .i64 r4] (0, 0) _ rfl (set4_at G2.out _ _ _ _) Tryd.underlying30 rfl (by kernel_rfl)) rfl ?_
    exact ⟨by first | rfl | (simp [hd]; done), set4_below GB.out (by omega) _ _ _ _⟩
  · have hd : decide (r3 < n) = false := decide_eq_false hlt
    go_wp2
    refine bodyPost_ret (results_ct rfl _ _ (w.heap.size + 1) 30 #[.int .u64 r1, .int .u64 r2, .int .u64 (IntKind.u64.wrap (r3 - n)), .int .i64 r4] (0, 0) _ rfl (set4_at (blk_far (p := ⟨w.heap.size, 2, none⟩) G2.out (by show w.heap.size + 1 ≠ w.heap.size; omega) _) _ _ _ _) Tryd.underlying30 rfl (by kernel_rfl)) rfl ?_
    exact ⟨by first | rfl | (simp [hd]; done), set4_below (below_set GB.out (Nat.le_refl _)) (by omega) _ _ _ _⟩
section
variable {w w2 : World} {a b a' b' : Value} {t t' g : Nat}
end
theorem drawn_b {w w' : World} (h : Drawn0 w w') : Below w.heap.size w w' := by
  obtain ⟨n, rfl⟩ := h
  exact pw_below_drewN (Below.refl _ _) n
end Go.Proofs.YtbpmgaaipkenkaaDoor
end
section
namespace Go.Proofs.YtbpmgaaipkenkaaDoor
open Go Go.RowKit Go.Proofs.YtbpmgaaipkenkaaDoorW.PrintWords Go.Proofs.YtbpmgaaipkenkaaDoorW.PrintLast Go.Proofs.YtbpmgaaipkenkaaDoorW.PrintMore
set_option linter.unusedVariables false
set_option linter.unusedSimpArgs false
attribute [local go_sem ↓] Go.wp_at_zero Go.wp_at_succ
theorem full1 : PMD.limit_Full.f 2 5 0 = some (2, 5, 5, 0) := by kernel_rfl
theorem fill1 : PMD.limit_Fill.f 2 5 5 0 0 = some (2, 5, 5, 0) := by kernel_rfl
theorem fill2 : PMD.limit_Fill.f 2 5 1 0 1 = some (2, 5, 3, 1) := by kernel_rfl
theorem fill3 : PMD.limit_Fill.f 2 5 3 1 2 = some (2, 5, 5, 2) := by kernel_rfl
theorem times1 : PMD.limit_Times.f 9223372036854775808 2 = some 18446744073709551615 := by kernel_rfl
theorem take1_c (W : World) : Calls Tryd.prog 23 #[bk 2 5 5 0, .int .i64 0, .int .u64 4] W fun e w' => e = .returned (.tuple #[bk 2 5 1 0, .bool true]) ∧ Below W.heap.size W w' := by
  have h := take_calls W 2 5 5 0 0 4 2 5 5 0 fill1
  have e1 : (if (5 : Int) < 4 then (5 : Int) else IntKind.u64.wrap (5 - 4)) = 1 := by decide
  have e2 : (!decide ((5 : Int) < 4)) = true := by decide
  rw [e1, e2] at h
  exact h
theorem take2_c (W : World) : Calls Tryd.prog 23 #[bk 2 5 1 0, .int .i64 1, .int .u64 4] W fun e w' => e = .returned (.tuple #[bk 2 5 3 1, .bool false]) ∧ Below W.heap.size W w' := by
  have h := take_calls W 2 5 1 0 1 4 2 5 3 1 fill2
  have e1 : (if (3 : Int) < 4 then (3 : Int) else IntKind.u64.wrap (3 - 4)) = 3 := by decide
  have e2 : (!decide ((3 : Int) < 4)) = false := by decide
  rw [e1, e2] at h
  exact h
theorem take3_c (W : World) : Calls Tryd.prog 23 #[bk 2 5 3 1, .int .i64 2, .int .u64 4] W fun e w' => e = .returned (.tuple #[bk 2 5 1 2, .bool true]) ∧ Below W.heap.size W w' := by
  have h := take_calls W 2 5 3 1 2 4 2 5 5 2 fill3
  have e1 : (if (5 : Int) < 4 then (5 : Int) else IntKind.u64.wrap (5 - 4)) = 1 := by decide
  have e2 : (!decide ((5 : Int) < 4)) = true := by decide
  rw [e1, e2] at h
  exact h
theorem full_c (W : World) : Calls Tryd.prog 17 #[.int .u64 2, .int .u64 5, .int .i64 0] W fun e w' => e = .returned (bk 2 5 5 0) ∧ Below W.heap.size W w' := PMD.limit_Full.calls 2 5 0 2 5 5 0 W full1
theorem times_c (W : World) : Calls Tryd.prog 14 #[.int .u64 9223372036854775808, .int .u64 2] W fun e w' => e = .returned (.int .u64 18446744073709551615) ∧ Below W.heap.size W w' :=
  (PMD.limit_Times.calls 9223372036854775808 2 18446744073709551615 W times1).mono fun e w' h => ⟨h.1, drawn_b h.2⟩
set_option maxRecDepth 20000 in
set_option maxHeartbeats 8000000 in
theorem live_calls (w : World) (hT : Tab w) : Calls Tryd.prog 11 #[] w fun e w' => e = .returned (.bool true) ∧ Below w.heap.size w w' := by
  have HT := Lib.hid (fun (W : World) (hW : Below w.heap.size w W) => Tab_below hT hW)
  clear hT
  go_enter Tryd.func11, Tryd.ntmps11
  go_upto_region 2 with (first
    | (go_at_call 17; (with_reducible refine (full_c w).mono ?_); rintro e w1 ⟨rfl, hB1⟩; have HB1 := Lib.hid hB1; clear hB1)
    | (go_at_call 23; (with_reducible refine (take1_c w1).mono ?_); rintro e w2 ⟨rfl, hB2⟩; have HB2 := Lib.hid (HB1.out.trans (lower_k hB2 HB1.out.size)); clear hB2))
  obtain ⟨pb, hpb⟩ : ∃ p, p = w2.heap.size := ⟨_, rfl⟩
  obtain ⟨W3, hW3⟩ : ∃ W, W = w2.alloc (.cells #[.int .u64 2, .int .u64 5, .int .u64 1, .int .i64 0] 30) := ⟨_, rfl⟩
  have hb3 : W3.heap[pb]? = some (.cells #[.int .u64 2, .int .u64 5, .int .u64 1, .int .i64 0] 30 (0, 0)) := by rw [hW3, hpb]; exact heap_alloc_new w2 _
  have HB3 : Hid (Below w.heap.size w W3) := Lib.hid (by rw [hW3]; exact below_alloc HB2.out _)
  have HPB : Hid (w.heap.size ≤ pb) := Lib.hid (by rw [hpb]; exact HB2.out.size)
  rw [← hW3, ← hpb]
  have Q3 := Lib.hid hb3
  have c0 := cell4_0 hb3
  have c1 := cell4_1 hb3
  have c2 := cell4_2 hb3
  have c3 := cell4_3 hb3
  clear hW3 hpb hb3 HB1 HB2
  go_upto_region 3 with (go_at_call 23; (with_reducible refine (take2_c W3).mono ?_); rintro e w4 ⟨rfl, hB4⟩; have HB4 := Lib.hid hB4; clear hB4)
  clear c0 c1 c2 c3
  obtain ⟨pc, hpc⟩ : ∃ p, p = w4.heap.size := ⟨_, rfl⟩
  obtain ⟨W5, hW5⟩ : ∃ W, W = w4.alloc (.cells #[.int .u64 2, .int .u64 5, .int .u64 3, .int .i64 1] 30) := ⟨_, rfl⟩
  have hc5 : W5.heap[pc]? = some (.cells #[.int .u64 2, .int .u64 5, .int .u64 3, .int .i64 1] 30 (0, 0)) := by rw [hW5, hpc]; exact heap_alloc_new w4 _
  have HB5 : Hid (Below W3.heap.size W3 W5) := Lib.hid (by rw [hW5]; exact below_alloc HB4.out _)
  rw [← hW5, ← hpc]
  have Q5 := Lib.hid hc5
  have c0 := cell4_0 hc5
  have c1 := cell4_1 hc5
  have c2 := cell4_2 hc5
  have c3 := cell4_3 hc5
  clear hW5 hpc hc5 HB4
  go_upto_region 4 with (go_at_call 23; (with_reducible refine (take3_c W5).mono ?_); rintro e w6 ⟨rfl, hB6⟩; have HB6 := Lib.hid hB6; clear hB6)
  clear c0 c1 c2 c3
  obtain ⟨W7, hW7⟩ : ∃ W, W = w6.alloc (.cells #[.int .u64 2, .int .u64 5, .int .u64 1, .int .i64 2] 30) := ⟨_, rfl⟩
  have HB7 : Hid (Below W5.heap.size W5 W7) := Lib.hid (by rw [hW7]; exact below_alloc HB6.out _)
  rw [← hW7]
  clear hW7 HB6
  obtain ⟨Wm, hWm⟩ : ∃ W, W = made W7 := ⟨_, rfl⟩
  obtain ⟨b, hb⟩ : ∃ b, b = W7.heap.size := ⟨_, rfl⟩
  have hnew := new_calls W7
  rw [← hWm, ← hb] at hnew
  have HNEW := Lib.hid hnew
  have HBm : Hid (Below W7.heap.size W7 Wm) := Lib.hid (by rw [hWm]; exact below_alloc (below_alloc (Below.refl _ _) _) _)
  have hbm : Wm.heap[b]? = some (.map #[] 0) := by rw [hWm, hb]; exact (heap_alloc_old _ _ (by rw [World.size_alloc]; omega)).trans (heap_alloc_new W7 _)
  have hgm : Wm.heap[b + 1]? = some (.cells #[.map (some b)] 72 (0, 0)) := by
    rw [hWm, hb]
    have e : W7.heap.size + 1 = (W7.alloc (.map #[] 0)).heap.size := by rw [World.size_alloc]
    unfold made
    rw [e]
    exact heap_alloc_new _ _
  have HBW : Hid (Below w.heap.size w Wm) := Lib.hid (HB3.out.trans (lower_k (HB5.out.trans (lower_k (HB7.out.trans (lower_k HBm.out HB7.out.size)) HB5.out.size)) HB3.out.size))
  have HBN : Hid (w.heap.size ≤ b) := Lib.hid (by rw [hb]; have h1 := HB3.out.size; have h2 := HB5.out.size; have h3 := HB7.out.size; omega)
  have hadm := admit_calls ((Wm.alloc (.cells #[.string sa, .string sx] 66)).alloc (.cells #[.slice (some ⟨Wm.heap.size, 0, none⟩) 1 1] 61)) (HT.out _ (below_alloc (below_alloc HBW.out _) _)) (b + 1) b Wm.heap.size (Wm.heap.size + 1)
    ((heap_alloc_old _ _ (by rw [World.size_alloc]; have := blk_lt hgm; omega)).trans ((heap_alloc_old _ _ (blk_lt hgm)).trans hgm))
    ((heap_alloc_old _ _ (by rw [World.size_alloc]; have := blk_lt hgm; omega)).trans ((heap_alloc_old _ _ (by have := blk_lt hgm; omega)).trans hbm))
    ((heap_alloc_old _ _ (by rw [World.size_alloc]; omega)).trans (heap_alloc_new _ _))
    (by
      have e : Wm.heap.size + 1 = (Wm.alloc (.cells #[.string sa, .string sx] 66)).heap.size := by rw [World.size_alloc]
      rw [e]
      exact heap_alloc_new _ _)
  have HADM := Lib.hid hadm
  have qb := Q3.out
  have qc := Q5.out
  have hb5 := (HB5.out.block pb (blk_lt qb)).trans qb
  have hb7 := (HB7.out.block pb (blk_lt hb5)).trans hb5
  have hbW := (HBm.out.block pb (blk_lt hb7)).trans hb7
  have hc7 := (HB7.out.block pc (blk_lt qc)).trans qc
  have hcW := (HBm.out.block pc (blk_lt hc7)).trans hc7
  have nb : pb ≠ b := by have := blk_lt hb7; omega
  have nc : pc ≠ b := by have := blk_lt hc7; omega
  have KB := Lib.hid hbW
  have KC := Lib.hid hcW
  have NB := Lib.hid (And.intro nb nc)
  clear hnew hadm hWm hb hbm hgm qb qc hb5 hb7 hbW hc7 hcW nb nc
  go_upto_region 8 with (first
    | (go_at_call 27; refine HNEW.out.mono ?_; rintro e w8 ⟨rfl, rfl⟩)
    | (go_at_call 30; refine HADM.out.mono ?_; rintro e w10 ⟨rfl, hM⟩; have HM := Lib.hid hM; clear hM))
  have hm0 := HM.out
  have hbx := below_alloc (below_alloc (Below.refl w8.heap.size w8) (.cells #[.string sa, .string sx] 66)) (.cells #[.slice (some ⟨w8.heap.size, 0, none⟩) 1 1] 61)
  have xb := hm0.blk ((hbx.block pb (blk_lt KB.out)).trans KB.out) (fun h => NB.out.1 h)
  have xc := hm0.blk ((hbx.block pc (blk_lt KC.out)).trans KC.out) (fun h => NB.out.2 h)
  have HBT : Hid (Below w.heap.size w w10) := Lib.hid ((below_alloc (below_alloc HBW.out _) _).trans (hm0.below (below_alloc (below_alloc HBW.out _) _).size (fun k hk => by rw [hk]; exact HBN.out)))
  have c2 := cell4_2 xb
  have d2 := cell4_2 xc
  clear hm0 hbx xb xc HM
  go_wp2_with (go_at_call 14; (with_reducible refine (times_c w10).mono ?_); rintro e w11 ⟨rfl, hB11⟩; have HB11 := Lib.hid (HBT.out.trans (lower_k hB11 HBT.out.size)); clear hB11)
  go_ret
  exact ⟨by first | rfl | (simp; done), HB11.out⟩
end Go.Proofs.YtbpmgaaipkenkaaDoor
end
section
namespace Go.Proofs.YtbpmgaaipkenkaaDoor.PMS
open Go.RowKit Go.Proofs.YtbpmgaaipkenkaaDoorW.PrintWords Go.Proofs.YtbpmgaaipkenkaaDoorW.PrintLast Go.Proofs.YtbpmgaaipkenkaaDoorW.PrintMore
attribute [local go_sem] max2_int min2_int max_two min_two max_three min_three max_four min_four
set_option linter.unusedVariables false
set_option linter.unusedSimpArgs false
mutual
def manometerlaw19_few.l0 : Nat → List (List (S66)) → List (List (S66)) → Int → Int → Option (Bool)
 | 0, _, _, _, _ => none
 | k + 1, x0, x11, x12, x13 => if x13 < x12 then (if 0 ≤ x13 then (if x13 < (x11.length : Int) then (if ((rd_L5 x11 x13).length : Int) > 30 then (some false) else (manometerlaw19_few.l1 k x0 x11 x12 x13 (rd_L5 x11 x13) ((rd_L5 x11 x13).length : Int) 0)) else (none)) else (none)) else (some (decide ((x0.length : Int) ≤ 40)))
def manometerlaw19_few.l1 : Nat → List (List (S66)) → List (List (S66)) → Int → Int → List (S66) → Int → Int → Option (Bool)
 | 0, _, _, _, _, _, _, _ => none
 | k + 1, x0, x11, x12, x13, x20, x21, x22 => if x22 < x21 then (if 0 ≤ x22 then (if x22 < (x20.length : Int) then (if (((rd_T66 x20 x22).f0).size : Int) > 300 then (some false) else (if (((rd_T66 x20 x22).f1).size : Int) > 300 then (some false) else (manometerlaw19_few.l1 k x0 x11 x12 x13 x20 x21 (wrap64 (x22 + 1))))) else (none)) else (none)) else (manometerlaw19_few.l0 k x0 x11 x12 (wrap64 (x13 + 1)))
end
def manometerlaw19_few.f (k : Nat) (l0 : List (List (S66))) : Option (Bool) := if 0 ≤ (mn (l0.length : Int) 40) then (if (mn (l0.length : Int) 40) ≤ (l0.length : Int) then ((some (l0.take ((mn (l0.length : Int) 40) : Int).toNat : List (List (S66)))).bind fun y165 => (manometerlaw19_few.l0 k l0 y165 (y165.length : Int) 0)) else (none)) else (none)
set_option maxHeartbeats 8000000 in
set_option maxRecDepth 100000 in
theorem manometerlaw19_few.calls (k : Nat) (A0 : Option Addr) (c0 : Nat) (l0 : List (List (S66))) (r : Bool) (w : World) (hr0 : Kd.C (Kd.slice 66 k66) w A0 l0.length l0) (hc0 : l0.length ≤ c0) (h : manometerlaw19_few.f k l0 = some r) :
  Calls Tryd.prog 28 #[.slice A0 l0.length c0] w fun e w' => e = .returned (.bool r) ∧ Below w.heap.size w w' := by
 have hu66 := Tryd.underlying66
 have HR0 := Aside0.mk hr0
 have HC0 := Aside0.mk hc0
 clear hr0 hc0
 have HB := Aside0.mk (Below.refl w.heap.size w)
 have H : (if 0 ≤ (mn (l0.length : Int) 40) then (if (mn (l0.length : Int) 40) ≤ (l0.length : Int) then ((some (l0.take ((mn (l0.length : Int) 40) : Int).toNat : List (List (S66)))).bind fun y165 => (manometerlaw19_few.l0 k l0 y165 (y165.length : Int) 0)) else (none)) else (none)) = some r := h
 clear h
 obtain ⟨ji2, hji2⟩ : ∃ j_ : Int, (mn (l0.length : Int) 40) = j_ := ⟨_, rfl⟩
 replace H : (if 0 ≤ (ji2) then (if (ji2) ≤ (l0.length : Int) then ((some (l0.take ((ji2) : Int).toNat : List (List (S66)))).bind fun y165 => (manometerlaw19_few.l0 k l0 y165 (y165.length : Int) 0)) else (none)) else (none)) = some r := by first | (rw [hji2] at H; exact H) | (simp only [hji2] at H ⊢; exact H)
 (try (have hji2h : ji2 ≤ 40 := by (rw [← hji2]; unfold mn; (repeat' split) <;> omega)))
 (try (have hji2g : ji2 ≤ 64 := by omega))
 (try (have hji2l : 0 ≤ ji2 := by (rw [← hji2]; unfold mn; (repeat' split) <;> omega)))
 (try (have hji2m : 0 ≤ ji2 := by omega))
 have hji2_ : (if 40 < (l0.length : Int) then 40 else (l0.length : Int)) = ji2 := hji2
 by_cases c3 : 0 ≤ (ji2)
 ·rw [if_pos c3] at H
  have c3b0 := eq_true c3
  have c3b1 : decide (0 ≤ (ji2)) = true := decide_eq_true c3
  clear c3
  by_cases c4 : (ji2) ≤ (l0.length : Int)
  ·rw [if_pos c4] at H
   have c4b0 := eq_true c4
   have c4b1 : decide ((ji2) ≤ (l0.length : Int)) = true := decide_eq_true c4
   clear c4
   obtain ⟨y165, hy165⟩ : ∃ y_ : List (List (S66)), y_ = (l0.take ((ji2) : Int).toNat) := ⟨_, rfl⟩
   replace H : (manometerlaw19_few.l0 k l0 y165 (y165.length : Int) 0) = some r := by first | (rw [hy165]; with_reducible exact H) | (have H2_ := (Option.bind_some _ _).symm.trans H; rw [hy165]; with_reducible exact H2_) | (have H2_ := (Option.bind_some _ _).symm.trans H; with_reducible exact H2_) | with_reducible exact H | (rw [hy165]; exact H) | exact H
   have Ny165 := Aside0.mk hy165
   clear hy165
   have H' := Aside0.mk H
   clear H
   have q5 : ((ji2) : Int) ≤ ((l0.length : Int) : Int) := of_decide_eq_true y4_
   obtain ⟨i05, hi05, _, hsz5, _⟩ := info_parts info61
   have hroom5 : l0.length ≤ c0 := HC0.out
   have hC5 : Kd.C (Kd.slice 66 k66) _ A0 l0.length l0 := HR0.out
   have hcut5 := cut_to (P := Tryd.prog) 50 61 .i64 Tryd.underlying50 hi05 A0 l0.length c0 (ji2) (of_decide_eq_true y4_) q5 hroom5
   have hr5 := Kd.C_take (m := ((ji2) : Int).toNat) hC5 (by omega)
   have hy5 : y165.length = ((ji2) : Int).toNat := (by rw [Ny165.out, List.length_take]; omega)
   rw [← Ny165.out] at hr5
   rw [← hy5] at hcut5
   have HR168 := Aside0.mk hr5
   have HC168 := Aside0.mk (show y165.length ≤ c0 from by omega)
   clear hr5 hC5 hroom5 hi05 hsz5
   have KY5 := Aside0.mk hy5
   clear hy5
   replace q5 := eq_true q5
   go_enter Tryd.func28, Tryd.ntmps28
   go_wp2
   go_loopg [13] k (fun kq v13 w' => ∃ (x13_1 : Int), v13 = .int .i64 x13_1 ∧ Aside0 (manometerlaw19_few.l0 kq l0 y165 (y165.length : Int) x13_1 = some r) ∧ Aside0 (kq ≤ k) ∧ Aside0 (Below w.heap.size w w'))
   case atStart => exact ⟨(0), y6_, H', ⟨Nat.le_refl _⟩, ⟨y1_⟩⟩
   case round =>
    clear H'
    try clear c2
    try clear p2
    try clear c3
    try clear c3b0
    try clear c3b1
    try clear c4
    try clear c4b0
    try clear c4b1
    try clear q5
    try clear q5
    obtain ⟨x13_1, rfl, HA, HK1, HB⟩ := hrel
    cases gk with
    | zero => exact absurd HA.out (by simp [manometerlaw19_few.l0])
    | succ k1 =>
     have H := HA.out
     clear HA
     simp only [manometerlaw19_few.l0] at H
     by_cases c6 : x13_1 < (y165.length : Int)
     ·rw [if_pos c6] at H
      have c6b0 : decide (x13_1 < (y165.length : Int)) = true := decide_eq_true c6
      clear c6
      by_cases c7 : 0 ≤ x13_1
      ·rw [if_pos c7] at H
       have c7b0 : decide (0 ≤ x13_1) = true := decide_eq_true c7
       clear c7
       by_cases c8 : x13_1 < (y165.length : Int)
       ·rw [if_pos c8] at H
        have c8b0 : decide (x13_1 < (y165.length : Int)) = true := decide_eq_true c8
        clear c8
        by_cases c9 : ((rd_L5 y165 x13_1).length : Int) > 30
        ·rw [if_pos c9] at H
         have c9b0 : decide (30 < ((rd_L5 y165 x13_1).length : Int)) = true := decide_eq_true c9
         have c9b1 : decide (30 < (rd_L5 y165 x13_1).length) = true := decide_eq_true (by omega)
         clear c9
         obtain rfl := Option.some.inj H
         have p169 : 0 ≤ (x13_1 : Int) := of_decide_eq_true y4_
         have q169 : x13_1 < (y165.length : Int) := of_decide_eq_true y4_
         obtain ⟨ad169, A169_0, c169_0, e169, hx169_0, hl169_0, hi169_0⟩ := at_L5 HR168.out x13_1 p169 q169
         cases e169
         replace hx169_0 := (HB.out.cell (World.block_lt_of_cell? w _ hx169_0)).trans hx169_0
         have HR169_0 := Aside0.mk hi169_0
         have HC169_0 := Aside0.mk hl169_0
         clear hi169_0 hl169_0
         replace p169 := eq_true p169
         replace q169 := eq_true q169
         go_wp2
         go_ret
         exact ⟨y29_, y1_⟩
        ·rw [if_neg c9] at H
         have c9b0 : decide (30 < ((rd_L5 y165 x13_1).length : Int)) = false := decide_eq_false c9
         have c9b1 : decide (30 < (rd_L5 y165 x13_1).length) = false := decide_eq_false (by omega)
         clear c9
         have H' := Aside0.mk H
         clear H
         have p169 : 0 ≤ (x13_1 : Int) := of_decide_eq_true y4_
         have q169 : x13_1 < (y165.length : Int) := of_decide_eq_true y4_
         obtain ⟨ad169, A169_0, c169_0, e169, hx169_0, hl169_0, hi169_0⟩ := at_L5 HR168.out x13_1 p169 q169
         cases e169
         replace hx169_0 := (HB.out.cell (World.block_lt_of_cell? w _ hx169_0)).trans hx169_0
         have HR169_0 := Aside0.mk hi169_0
         have HC169_0 := Aside0.mk hl169_0
         clear hi169_0 hl169_0
         replace p169 := eq_true p169
         replace q169 := eq_true q169
         go_wp2
         go_loopg [22] k1 (fun kq v22 w' => ∃ (x22_2 : Int), v22 = .int .i64 x22_2 ∧ Aside0 (manometerlaw19_few.l1 kq l0 y165 (y165.length : Int) x13_1 (rd_L5 y165 x13_1) ((rd_L5 y165 x13_1).length : Int) x22_2 = some r) ∧ Aside0 (kq ≤ k1) ∧ Aside0 (Below w.heap.size w w'))
         case atStart => exact ⟨(0), y6_, H', ⟨Nat.le_refl _⟩, ⟨y1_⟩⟩
         case round =>
          clear H'
          try clear c1
          try clear p1
          try clear q1
          try clear hx1
          try clear c2
          try clear p2
          try clear c3
          try clear c3b0
          try clear c3b1
          try clear c4
          try clear c4b0
          try clear c4b1
          try clear q5
          try clear c6
          try clear c6b0
          try clear c7
          try clear c7b0
          try clear c8
          try clear c8b0
          try clear c9
          try clear c9b0
          try clear c9b1
          try clear hx169_0
          try clear p169
          try clear p2
          try clear q169
          try clear q5
          obtain ⟨x22_2, rfl, HA, HK2, HB⟩ := hrel
          cases gk with
          | zero => exact absurd HA.out (by simp [manometerlaw19_few.l1])
          | succ k2 =>
           have H := HA.out
           clear HA
           simp only [manometerlaw19_few.l1] at H
           by_cases c10 : x22_2 < ((rd_L5 y165 x13_1).length : Int)
           ·rw [if_pos c10] at H
            have c10b0 : decide (x22_2 < ((rd_L5 y165 x13_1).length : Int)) = true := decide_eq_true c10
            clear c10
            by_cases c11 : 0 ≤ x22_2
            ·rw [if_pos c11] at H
             have c11b0 : decide (0 ≤ x22_2) = true := decide_eq_true c11
             clear c11
             by_cases c12 : x22_2 < ((rd_L5 y165 x13_1).length : Int)
             ·rw [if_pos c12] at H
              have c12b0 : decide (x22_2 < ((rd_L5 y165 x13_1).length : Int)) = true := decide_eq_true c12
              clear c12
              by_cases c13 : (((rd_T66 (rd_L5 y165 x13_1) x22_2).f0).size : Int) > 300
              ·rw [if_pos c13] at H
               have c13b0 : decide (300 < (((rd_T66 (rd_L5 y165 x13_1) x22_2).f0).size : Int)) = true := decide_eq_true c13
               have c13b1 : decide (300 < ((rd_T66 (rd_L5 y165 x13_1) x22_2).f0).size) = true := decide_eq_true (by omega)
               clear c13
               obtain rfl := Option.some.inj H
               have p170 : 0 ≤ (x22_2 : Int) := of_decide_eq_true y4_
               have q170 : x22_2 < ((rd_L5 y165 x13_1).length : Int) := of_decide_eq_true y4_
               obtain ⟨ad170, e170, hx170_0, hx170_1⟩ := at_T66 HR169_0.out x22_2 p170 q170
               cases e170
               replace hx170_0 := (HB.out.cell (World.block_lt_of_cell? w _ hx170_0)).trans hx170_0
               replace hx170_1 := (HB.out.cell (World.block_lt_of_cell? w _ hx170_1)).trans hx170_1
               replace p170 := eq_true p170
               replace q170 := eq_true q170
               go_wp2_with (first | ((with_reducible refine gate_dst (N := 6) rfl ?_); (try (refine gate_guard (by rfl) ?_; dsimp only)); refine box_event ?hg (N := 6) ?hd (cs := #[.string (⟨#[]⟩ : ByteArray), .string (⟨#[]⟩ : ByteArray)]) (t := 66) ?hr ?_; (case hd => rfl); (case hg => rfl); (case hr => first | (go_simp; done) | (go_simp; rfl)); intro gb171 hg w14 hbox hb; have n0_ := Aside0.mk (below_step y1_ hb); have n1_ := Aside0.mk (hbox); have n2_ := Aside0.mk ((y9_ : w.heap.size ≤ gb171)); have n3_ := Aside0.mk ((y9_ : w.heap.size ≤ gb171)); clear HB; have HB := n0_; have BK171 := n1_; have GW171 := n2_; have GE171 := n3_; clear n0_ n1_ n2_ n3_; clear hb hbox hg; have hcz15_0 : w14.cell? ⟨gb171, 0, none⟩ = some (.string (⟨#[]⟩ : ByteArray)) := (blk_cell BK171.out 0).trans rfl; have hcz15_1 : w14.cell? ⟨gb171, 1, none⟩ = some (.string (⟨#[]⟩ : ByteArray)) := (blk_cell BK171.out 1).trans rfl; have hfz15_0 := blk_frozen BK171.out 0; have hfz15_1 := blk_frozen BK171.out 1))
               go_ret
               exact ⟨y29_, y37_⟩
              ·rw [if_neg c13] at H
               have c13b0 : decide (300 < (((rd_T66 (rd_L5 y165 x13_1) x22_2).f0).size : Int)) = false := decide_eq_false c13
               have c13b1 : decide (300 < ((rd_T66 (rd_L5 y165 x13_1) x22_2).f0).size) = false := decide_eq_false (by omega)
               clear c13
               by_cases c16 : (((rd_T66 (rd_L5 y165 x13_1) x22_2).f1).size : Int) > 300
               ·rw [if_pos c16] at H
                have c16b0 : decide (300 < (((rd_T66 (rd_L5 y165 x13_1) x22_2).f1).size : Int)) = true := decide_eq_true c16
                have c16b1 : decide (300 < ((rd_T66 (rd_L5 y165 x13_1) x22_2).f1).size) = true := decide_eq_true (by omega)
                clear c16
                obtain rfl := Option.some.inj H
                have p170 : 0 ≤ (x22_2 : Int) := of_decide_eq_true y4_
                have q170 : x22_2 < ((rd_L5 y165 x13_1).length : Int) := of_decide_eq_true y4_
                obtain ⟨ad170, e170, hx170_0, hx170_1⟩ := at_T66 HR169_0.out x22_2 p170 q170
                cases e170
                replace hx170_0 := (HB.out.cell (World.block_lt_of_cell? w _ hx170_0)).trans hx170_0
                replace hx170_1 := (HB.out.cell (World.block_lt_of_cell? w _ hx170_1)).trans hx170_1
                replace p170 := eq_true p170
                replace q170 := eq_true q170
                go_wp2_with (first | ((with_reducible refine gate_dst (N := 6) rfl ?_); (try (refine gate_guard (by rfl) ?_; dsimp only)); refine box_event ?hg (N := 6) ?hd (cs := #[.string (⟨#[]⟩ : ByteArray), .string (⟨#[]⟩ : ByteArray)]) (t := 66) ?hr ?_; (case hd => rfl); (case hg => rfl); (case hr => first | (go_simp; done) | (go_simp; rfl)); intro gb171 hg w17 hbox hb; have n0_ := Aside0.mk (below_step y1_ hb); have n1_ := Aside0.mk (hbox); have n2_ := Aside0.mk ((y9_ : w.heap.size ≤ gb171)); have n3_ := Aside0.mk ((y9_ : w.heap.size ≤ gb171)); clear HB; have HB := n0_; have BK171 := n1_; have GW171 := n2_; have GE171 := n3_; clear n0_ n1_ n2_ n3_; clear hb hbox hg; have hcz18_0 : w17.cell? ⟨gb171, 0, none⟩ = some (.string (⟨#[]⟩ : ByteArray)) := (blk_cell BK171.out 0).trans rfl; have hcz18_1 : w17.cell? ⟨gb171, 1, none⟩ = some (.string (⟨#[]⟩ : ByteArray)) := (blk_cell BK171.out 1).trans rfl; have hfz18_0 := blk_frozen BK171.out 0; have hfz18_1 := blk_frozen BK171.out 1))
                go_ret
                exact ⟨y29_, y37_⟩
               ·rw [if_neg c16] at H
                have c16b0 : decide (300 < (((rd_T66 (rd_L5 y165 x13_1) x22_2).f1).size : Int)) = false := decide_eq_false c16
                have c16b1 : decide (300 < ((rd_T66 (rd_L5 y165 x13_1) x22_2).f1).size) = false := decide_eq_false (by omega)
                clear c16
                have H' := Aside0.mk H
                clear H
                have p170 : 0 ≤ (x22_2 : Int) := of_decide_eq_true y4_
                have q170 : x22_2 < ((rd_L5 y165 x13_1).length : Int) := of_decide_eq_true y4_
                obtain ⟨ad170, e170, hx170_0, hx170_1⟩ := at_T66 HR169_0.out x22_2 p170 q170
                cases e170
                replace hx170_0 := (HB.out.cell (World.block_lt_of_cell? w _ hx170_0)).trans hx170_0
                replace hx170_1 := (HB.out.cell (World.block_lt_of_cell? w _ hx170_1)).trans hx170_1
                replace p170 := eq_true p170
                replace q170 := eq_true q170
                go_wp2_with (first | ((with_reducible refine gate_dst (N := 6) rfl ?_); (try (refine gate_guard (by rfl) ?_; dsimp only)); refine box_event ?hg (N := 6) ?hd (cs := #[.string (⟨#[]⟩ : ByteArray), .string (⟨#[]⟩ : ByteArray)]) (t := 66) ?hr ?_; (case hd => rfl); (case hg => rfl); (case hr => first | (go_simp; done) | (go_simp; rfl)); intro gb171 hg w19 hbox hb; have n0_ := Aside0.mk (below_step y1_ hb); have n1_ := Aside0.mk (hbox); have n2_ := Aside0.mk ((y9_ : w.heap.size ≤ gb171)); have n3_ := Aside0.mk ((y9_ : w.heap.size ≤ gb171)); clear HB; have HB := n0_; have BK171 := n1_; have GW171 := n2_; have GE171 := n3_; clear n0_ n1_ n2_ n3_; clear hb hbox hg; have hcz20_0 : w19.cell? ⟨gb171, 0, none⟩ = some (.string (⟨#[]⟩ : ByteArray)) := (blk_cell BK171.out 0).trans rfl; have hcz20_1 : w19.cell? ⟨gb171, 1, none⟩ = some (.string (⟨#[]⟩ : ByteArray)) := (blk_cell BK171.out 1).trans rfl; have hfz20_0 := blk_frozen BK171.out 0; have hfz20_1 := blk_frozen BK171.out 1))
                go_roundg k2
                case measure => have := HK1.out; have := HK2.out; omega
                case rel => exact ⟨(wrap64 (x22_2 + 1)), y6_, H', ⟨by have := HK1.out; have := HK2.out; omega⟩, ⟨y37_⟩⟩
             ·rw [if_neg c12] at H
              exact absurd H (by simp)
            ·rw [if_neg c11] at H
             exact absurd H (by simp)
           ·rw [if_neg c10] at H
            have c10b0 : decide (x22_2 < ((rd_L5 y165 x13_1).length : Int)) = false := decide_eq_false c10
            clear c10
            have H' := Aside0.mk H
            clear H
            go_wp2
            go_roundg k2
            case measure => have := HK1.out; have := HK2.out; omega
            case rel => exact ⟨(wrap64 (x13_1 + 1)), y6_, H', ⟨by have := HK1.out; have := HK2.out; omega⟩, ⟨y1_⟩⟩
       ·rw [if_neg c8] at H
        exact absurd H (by simp)
      ·rw [if_neg c7] at H
       exact absurd H (by simp)
     ·rw [if_neg c6] at H
      have c6b0 : decide (x13_1 < (y165.length : Int)) = false := decide_eq_false c6
      clear c6
      obtain rfl := Option.some.inj H
      go_wp2
      go_ret
      exact ⟨y29_, y1_⟩
  ·rw [if_neg c4] at H
   exact absurd H (by simp)
 ·rw [if_neg c3] at H
  exact absurd H (by simp)
end Go.Proofs.YtbpmgaaipkenkaaDoor.PMS
end
section
namespace Go.Proofs.YtbpmgaaipkenkaaDoor
open Go Go.RowKit Go.Proofs.YtbpmgaaipkenkaaDoorW.PrintWords Go.Proofs.YtbpmgaaipkenkaaDoorW.PrintLast Go.Proofs.YtbpmgaaipkenkaaDoorW.PrintMore
set_option linter.unusedVariables false
set_option linter.unusedSimpArgs false
attribute [local go_sem ↓] Go.wp_at_zero Go.wp_at_succ
structure ComeS where
  f0 : List LS
  f1 : Int
  f2 : Bool
def kCome : Kd ComeS := Kd.iso (Kd.pair (Kd.slice 61 kLL) (Kd.pair (Kd.int .i64) Kd.bool)) (fun x : ComeS => (x.f0, x.f1, x.f2))
theorem kCome_open {w : World} {x : ComeS} {cs : List Value} (h : kCome.K w x cs) : ∃ A c, cs = [.slice A x.f0.length c, .int .i64 x.f1, .bool x.f2] ∧ x.f0.length ≤ c ∧ kLL.C w A x.f0.length x.f0 := by
  obtain ⟨c1, c2, rfl, ⟨A, c, rfl, h1, h2⟩, c3, c4, rfl, h3, h4⟩ := h
  have h3' : c3 = [.int .i64 x.f1] := h3
  have h4' : c4 = [.bool x.f2] := h4
  subst h3'
  subst h4'
  exact ⟨A, c, rfl, h1, h2⟩
theorem come_at {W : World} {A : Option Addr} {xs : List ComeS} (h : kCome.C W A xs.length xs) (z : ComeS) {i : Nat} (hi : i < xs.length) :
    ∃ ad LA LC, A = some ad ∧ W.cell? (ad.add (i * 3)) = some (.slice LA (xs.getD i z).f0.length LC) ∧ W.cell? ⟨(ad.add (i * 3)).block, (ad.add (i * 3)).off + 1, none⟩ = some (.int .i64 (xs.getD i z).f1) ∧ W.cell? ⟨(ad.add (i * 3)).block, (ad.add (i * 3)).off + 2, none⟩ = some (.bool (xs.getD i z).f2) ∧
      (xs.getD i z).f0.length ≤ LC ∧ kLL.C W LA (xs.getD i z).f0.length (xs.getD i z).f0 := by
  obtain ⟨ad, c, e, hl, hK, hcell⟩ := Kd.C_get h z (i : Int) (by omega) (by omega)
  rw [Int.toNat_natCast] at hK hcell
  obtain ⟨LA, LC, rfl, h1, h2⟩ := kCome_open hK
  have hc : ∀ j u, ([.slice LA (xs.getD i z).f0.length LC, .int .i64 (xs.getD i z).f1, .bool (xs.getD i z).f2] : List Value)[j]? = some u → W.cell? (ad.add (i * 3 + j)) = some u := hcell
  exact ⟨ad, LA, LC, e, hc 0 _ rfl, by rw [← add_field _ _ 1 (by omega)]; exact hc 1 _ rfl, by rw [← add_field _ _ 2 (by omega)]; exact hc 2 _ rfl, h1, h2⟩
theorem len_g (w : World) (g b : Nat) (l : List PV) (hg : w.heap[g]? = some (.cells #[.map (some b)] 72 (0, 0))) (hb : SM w b l) :
    Calls Tryd.prog 29 #[.pointer (some ⟨g, 0, none⟩)] w fun e w' => e = .returned (.int .i64 (l.length : Int)) ∧ Below w.heap.size w w' := by
  have HG := Lib.hid (fun (W : World) (hW : Below w.heap.size w W) => (hW.block g (blk_lt hg)).trans hg)
  have HB := Lib.hid (fun (W : World) (hW : Below w.heap.size w W) => hb.below hW)
  clear hg hb
  go_enter Tryd.func29, Tryd.ntmps29
  go_wp2_with (go_at_call 39; (with_reducible refine (ok_calls w g b (HG.out w (Below.refl _ w))).mono ?_); rintro e w1 ⟨rfl, hD⟩; have HB1 := Lib.hid (below_dr hD); clear hD; have hgc : w1.cell? ⟨g, 0, none⟩ = some (.map (some b)) := (blk_cell (HG.out w1 HB1.out) 0).trans rfl; have hl := len_sm w1 b l 3 (HB.out w1 HB1.out))
  go_ret
  exact ⟨rfl, HB1.out⟩
theorem Adm.sum {rt : LS → Int} {nm : LS → ByteArray} {l l' : List PV} {xs : List LS} {most n er : Int} (h : Adm rt nm l xs most n er l') : 0 ≤ n ∧ n ≤ xs.length ∧ (l'.length : Int) = l.length + n ∧ ((l'.length : Int) ≤ l.length ∨ (l'.length : Int) ≤ most) ∧ (er = 0 ∨ n = 0) := by
  rcases h with ⟨_, rfl, _, rfl⟩ | ⟨_, _, rfl, _, rfl⟩ | ⟨_, _, _, rfl, _, rfl⟩ | ⟨_, _, h1, h2, h3, h4, h5⟩
  · refine ⟨by omega, by omega, by omega, .inl (by omega), .inr rfl⟩
  · refine ⟨by omega, by omega, by omega, .inl (by omega), .inr rfl⟩
  · refine ⟨by omega, by omega, by omega, .inl (by omega), .inr rfl⟩
  · have h6 := h5.length_eq
    have h7 := freshK_len nm (l.map (·.1)) xs []
    rw [List.length_nil] at h7
    rw [List.length_map, List.length_append, List.length_map] at h6
    unfold freshK at *
    exact ⟨by omega, by omega, by omega, .inr (by omega), .inl h4⟩
end Go.Proofs.YtbpmgaaipkenkaaDoor
end
section
namespace Go.Proofs.YtbpmgaaipkenkaaDoor
open Go Go.RowKit Go.Proofs.YtbpmgaaipkenkaaDoorW.PrintWords Go.Proofs.YtbpmgaaipkenkaaDoorW.PrintLast Go.Proofs.YtbpmgaaipkenkaaDoorW.PrintMore
set_option linter.unusedVariables false
set_option linter.unusedSimpArgs false
attribute [local go_sem ↓] Go.wp_at_zero Go.wp_at_succ
structure Facts (rt : LS → Int) (nm : LS → ByteArray) (cmp : LS → LS → Int) : Prop where
  few : ∀ L : List LS, ∃ r, (∃ k, PMS.manometerlaw19_few.f k L = some r) ∧ (r = true → L.length ≤ 40 ∧ ∀ x ∈ L, x.length < 4398046511104 ∧ (∃ k, PMS.labels_Right.f k x = some (rt x)) ∧ (rt x = 0 → ∃ k, PMS.labels_Print.f k x = some (nm x)))
  ok : ∀ x : LS, rt x = 0 → x.length < 4398046511104 ∧ (∃ k, PMS.labels_Right.f k x = some (rt x)) ∧ (rt x = 0 → ∃ k, PMS.labels_Print.f k x = some (nm x))
  cmp : ∀ x y : LS, rt x = 0 → rt y = 0 → ∃ k, PMS.labels_Compare.f k x y = some (cmp x y)
structure Ser (rt : LS → Int) (nm : LS → ByteArray) (w wr : World) (g b : Nat) (l : List PV) : Prop where
  B : Below w.heap.size w wr
  G : wr.heap[g]? = some (.cells #[.map (some b)] 72 (0, 0))
  M : SM wr b l
  E : ∀ p ∈ l, Ent rt nm wr p
  b0 : w.heap.size ≤ b
theorem Ser.gb {rt : LS → Int} {nm : LS → ByteArray} {w wr : World} {g b : Nat} {l : List PV} (h : Ser rt nm w wr g b l) : g ≠ b := by
  intro e
  obtain ⟨es, c0, h1, _⟩ := h.M
  have h2 := h.G
  rw [e, h1] at h2
  cases h2
theorem Ser.below {rt : LS → Int} {nm : LS → ByteArray} {w wr w' : World} {g b : Nat} {l : List PV} (h : Ser rt nm w wr g b l) (hb : Below wr.heap.size wr w') : Ser rt nm w w' g b l :=
  ⟨h.B.trans (lower_m hb h.B.size), (hb.block g (blk_lt h.G)).trans h.G, h.M.below hb, fun p hp => (h.E p hp).ck (CK.below hb), h.b0⟩
theorem Ser.alloc {rt : LS → Int} {nm : LS → ByteArray} {w wr : World} {g b : Nat} {l : List PV} (h : Ser rt nm w wr g b l) (o : Obj) : Ser rt nm w (wr.alloc o) g b l := h.below (below_alloc (Below.refl _ _) o)
theorem Ser.mod {rt : LS → Int} {nm : LS → ByteArray} {w wr w' : World} {g b : Nat} {l l' : List PV} (h : Ser rt nm w wr g b l) (hm : Mod (fun k => k = b) wr w') (hs : SM w' b l') (he : ∀ p ∈ l', Ent rt nm w' p) : Ser rt nm w w' g b l' :=
  ⟨h.B.trans (hm.below h.B.size (fun k hk => by rw [hk]; exact h.b0)), (hm.block g (blk_lt h.G) h.gb).trans h.G, hs, he, h.b0⟩
theorem few_g (W : World) (A : Option Addr) (c : Nat) (L : List LS) (r : Bool) (hC : kLL.C W A L.length L) (hc : L.length ≤ c) (h : ∃ k, PMS.manometerlaw19_few.f k L = some r) :
    Calls Tryd.prog 28 #[.slice A L.length c] W fun e w' => e = .returned (.bool r) ∧ Below W.heap.size W w' := by
  obtain ⟨k, h⟩ := h
  exact PMS.manometerlaw19_few.calls k A c L r W hC hc h
end Go.Proofs.YtbpmgaaipkenkaaDoor
end
section
namespace Go.Proofs.YtbpmgaaipkenkaaDoor
open Go Go.RowKit Go.Proofs.YtbpmgaaipkenkaaDoorW.PrintWords Go.Proofs.YtbpmgaaipkenkaaDoorW.PrintLast Go.Proofs.YtbpmgaaipkenkaaDoorW.PrintMore
set_option linter.unusedVariables false
set_option linter.unusedSimpArgs false
attribute [local go_sem ↓] Go.wp_at_zero Go.wp_at_succ
def Says (rt : LS → Int) (nm : LS → ByteArray) (f : LS → Bool) (p : PV) (r : Bool) : Prop := ∃ ls, rt ls = 0 ∧ nm ls = p.1 ∧ f ls = r
structure L6 (rt : LS → Int) (nm : LS → ByteArray) (f : LS → Bool) (w wr : World) (b it : Nat) (l done left : List PV) : Prop where
  qi : IT wr it b left
  qp : l.Perm (done ++ left)
  qB : Below w.heap.size w wr
  qf : ∀ p ∈ done, Says rt nm f p false
  qw : w.heap.size ≤ it
set_option maxRecDepth 20000 in
set_option maxHeartbeats 8000000 in
theorem has_calls (w : World) (rt : LS → Int) (nm : LS → ByteArray) (f : LS → Bool) (g b : Nat) (l : List PV) (A : Option Addr) (c : Nat) (x : LS)
    (hg : w.heap[g]? = some (.cells #[.map (some b)] 72 (0, 0))) (hb : SM w b l) (hent : ∀ p ∈ l, Ent rt nm w p) (hC : kL.C w A x.length x) (hc : x.length ≤ c)
    (hs : ∀ y : LS, rt y = 0 → ∃ k, PMS.labels_Same.f k y x = some (f y)) :
    Calls Tryd.prog 35 #[.pointer (some ⟨g, 0, none⟩), .slice A x.length c] w fun e w' =>
      ∃ r : Bool, e = .returned (.bool r) ∧ (r = true → ∃ p ∈ l, Says rt nm f p true) ∧ (r = false → ∀ p ∈ l, Says rt nm f p false) ∧ Below w.heap.size w w' := by
  have HG := Lib.hid (fun (W : World) (hW : Below w.heap.size w W) => (hW.block g (blk_lt hg)).trans hg)
  have HB := Lib.hid (fun (W : World) (hW : Below w.heap.size w W) => hb.below hW)
  have HE := Lib.hid (fun (W : World) (hW : Below w.heap.size w W) => fun p hp => (hent p hp).ck (CK.below hW))
  have HC := Lib.hid (fun (W : World) (hW : Below w.heap.size w W) => Kd.C_below hC hW)
  have HS := Lib.hid hs
  clear hg hb hent hC hs
  go_enter Tryd.func35, Tryd.ntmps35
  go_upto_region 3 with (go_at_call 39; (with_reducible refine (ok_calls w g b (HG.out w (Below.refl _ w))).mono ?_); rintro e w1 ⟨rfl, hD⟩; have HB1 := Lib.hid (below_dr hD); clear hD)
  have hgc : w1.cell? ⟨g, 0, none⟩ = some (.map (some b)) := (blk_cell (HG.out w1 HB1.out) 0).trans rfl
  obtain ⟨o8, hrg, hI⟩ := range_sm w1 b l (HB.out w1 HB1.out)
  obtain ⟨it, hit⟩ : ∃ it, it = w1.heap.size := ⟨_, rfl⟩
  obtain ⟨W8, hW8⟩ : ∃ W8, W8 = w1.alloc o8 := ⟨_, rfl⟩
  have HL : Hid (L6 rt nm f w W8 b it l [] l) := Lib.hid (by
    rw [← hW8, ← hit] at hI
    exact ⟨hI, List.Perm.refl _, by rw [hW8]; exact below_alloc HB1.out o8, fun p hp => by simp at hp, by rw [hit]; exact HB1.out.size⟩)
  rw [← hW8, ← hit] at hrg
  clear hW8 hit hI
  go_wp2
  go_loopg [] l.length (fun kq wr => ∃ done left : List PV, left.length = kq ∧ Hid (L6 rt nm f w wr b it l done left))
  case atStart => exact ⟨[], l, rfl, HL.out⟩
  case round =>
    obtain ⟨done, left, hkl, hL⟩ := hrel
    rcases next_sm wr it b left hL.out.qi with ⟨h0, hnx⟩ | ⟨p, left', w1', W9, o9, hp, hw1, hW9, hnx, hI9, hen⟩
    · subst h0
      go_wp2
      go_ret
      refine ⟨false, rfl, (fun h => by cases h), fun _ p hp => hL.out.qf p ?_, hL.out.qB⟩
      have h1 := hL.out.qp.mem_iff.1 hp
      simpa using h1
    · have hpl : p ∈ l := hL.out.qp.mem_iff.2 (List.mem_append_right _ (hp.mem_iff.2 (by simp)))
      have HPL := Lib.hid hpl
      obtain ⟨ls, xa, xc, h1, h2, h3, h4, h5⟩ := (HE.out w (Below.refl _ w) p hpl).out
      obtain ⟨p1, p2⟩ := p
      have h1' : p2 = .slice (some xa) ls.length xc := h1
      subst h1'
      have hB9 : Below w.heap.size w W9 := by
        have hb1 : Below w.heap.size w w1' := by
          rcases hw1 with rfl | rfl
          · exact hL.out.qB
          · exact below_drew1 hL.out.qB
        rw [hW9]
        exact below_setO hb1 hL.out.qw
      have HX9 := Lib.hid (And.intro hB9 (And.intro hI9 (And.intro h2 (And.intro (C_ck (CK.below hB9) h3) (And.intro h4 h5)))))
      have HLEN : Hid (left.length = left'.length + 1) := Lib.hid hp.length_eq
      have HPR : Hid (l.Perm ((done ++ [(p1, .slice (some xa) ls.length xc)]) ++ left')) := Lib.hid (by
        rw [List.append_assoc]
        exact hL.out.qp.trans (hp.append_left done))
      have HQ := Lib.hid (And.intro hL.out.qf hL.out.qw)
      clear hpl h1 h2 h3 h4 h5 hB9 hW9 hw1 hI9 hp
      obtain ⟨r, hr⟩ : ∃ r, r = f ls := ⟨_, rfl⟩
      have HR : Hid (∃ k, PMS.labels_Same.f k ls x = some r) := Lib.hid (by rw [hr]; exact HS.out ls HX9.out.2.2.2.2.1)
      have HRR := Lib.hid hr
      clear hr
      have hcall : ∀ r', (∃ k, PMS.labels_Same.f k ls x = some r') → Calls Tryd.prog 49 #[.slice (some xa) ls.length xc, .slice A x.length c] W9 (fun e w' => e = .returned (.bool r') ∧ Below W9.heap.size W9 w') := fun r' ⟨k, hk⟩ =>
        (PMS.labels_Same.calls k (some xa) xc ls A c x r' W9 HX9.out.2.2.2.1 HX9.out.2.2.1 (HC.out W9 HX9.out.1) hc hk).mono (fun e w' h => ⟨h.1, below_dr h.2⟩)
      have HCALL := Lib.hid hcall
      clear hcall
      rcases r with _ | _
      · go_wp2_with (go_at_call 49; (with_reducible refine (HCALL.out false HR.out).mono ?_); rintro e w5 ⟨rfl, hB5⟩; have HI5 := Lib.hid (HX9.out.2.1.below hB5); have HB5 := Lib.hid (HX9.out.1.trans (lower_m hB5 HX9.out.1.size)); clear hB5)
        go_roundg (gk - 1)
        case measure => have := HLEN.out; omega
        case rel =>
          refine ⟨done ++ [(p1, .slice (some xa) ls.length xc)], left', by have := HLEN.out; omega, ?_⟩
          refine ⟨HI5.out, HPR.out, HB5.out, fun q hq => ?_, HQ.out.2⟩
          rcases List.mem_append.1 hq with hq | hq
          · exact HQ.out.1 q hq
          · rw [List.mem_singleton.1 hq]
            exact ⟨ls, HX9.out.2.2.2.2.1, HX9.out.2.2.2.2.2, HRR.out.symm⟩
      · go_wp2_with (go_at_call 49; (with_reducible refine (HCALL.out true HR.out).mono ?_); rintro e w5 ⟨rfl, hB5⟩; have HB5 := Lib.hid (HX9.out.1.trans (lower_m hB5 HX9.out.1.size)); clear hB5)
        go_ret
        exact ⟨true, rfl, fun _ => ⟨_, HPL.out, ls, HX9.out.2.2.2.2.1, HX9.out.2.2.2.2.2, HRR.out.symm⟩, (fun h => by cases h), HB5.out⟩
end Go.Proofs.YtbpmgaaipkenkaaDoor
end
section
namespace Go.Proofs.YtbpmgaaipkenkaaDoor
open Go Go.RowKit Go.Proofs.YtbpmgaaipkenkaaDoorW.PrintWords Go.Proofs.YtbpmgaaipkenkaaDoorW.PrintLast Go.Proofs.YtbpmgaaipkenkaaDoorW.PrintMore
set_option linter.unusedVariables false
set_option linter.unusedSimpArgs false
attribute [local go_sem ↓] Go.wp_at_zero Go.wp_at_succ
structure L7 (rt : LS → Int) (nm : LS → ByteArray) (w wr : World) (b it g2 b2 : Nat) (l done left : List PV) : Prop where
  qi : IT wr it b left
  qp : l.Perm (done ++ left)
  qB : Below w.heap.size w wr
  qm : SM wr b2 done
  qe : ∀ p ∈ l, Ent rt nm wr p
  qg : wr.heap[g2]? = some (.cells #[.map (some b2)] 72 (0, 0))
  qw : w.heap.size ≤ it ∧ w.heap.size ≤ b2 ∧ w.heap.size ≤ g2 ∧ b2 < it ∧ g2 < it
set_option maxRecDepth 20000 in
set_option maxHeartbeats 8000000 in
theorem clone_calls (w : World) (rt : LS → Int) (nm : LS → ByteArray) (g b : Nat) (l : List PV)
    (hg : w.heap[g]? = some (.cells #[.map (some b)] 72 (0, 0))) (hb : SM w b l) (hent : ∀ p ∈ l, Ent rt nm w p) (hn : (l.map (·.1)).Nodup) :
    Calls Tryd.prog 32 #[.pointer (some ⟨g, 0, none⟩)] w fun e w' =>
      ∃ (g2 b2 : Nat) (l2 : List PV), e = .returned (.pointer (some ⟨g2, 0, none⟩)) ∧ w'.heap[g2]? = some (.cells #[.map (some b2)] 72 (0, 0)) ∧ SM w' b2 l2 ∧ l2.Perm l ∧ (∀ p ∈ l2, Ent rt nm w' p) ∧ w.heap.size ≤ b2 ∧ w.heap.size ≤ g2 ∧ Below w.heap.size w w' := by
  have HG := Lib.hid (fun (W : World) (hW : Below w.heap.size w W) => (hW.block g (blk_lt hg)).trans hg)
  have HB := Lib.hid (fun (W : World) (hW : Below w.heap.size w W) => hb.below hW)
  have HE := Lib.hid (fun (W : World) (hW : Below w.heap.size w W) => fun p hp => (hent p hp).ck (CK.below hW))
  have HBL := Lib.hid hb.lt
  have HN := Lib.hid hn
  clear hg hb hent hn
  go_enter Tryd.func32, Tryd.ntmps32
  go_upto_region 4 with (first
    | (go_at_call 39; (with_reducible refine (ok_calls w g b (HG.out w (Below.refl _ w))).mono ?_); rintro e w1 ⟨rfl, hD⟩; have HB1 := Lib.hid (below_dr hD); clear hD)
    | (go_at_call 27; (with_reducible refine (new_calls w1).mono ?_); rintro e w2 ⟨rfl, hw2⟩; have HW2 := Lib.hid hw2; clear hw2))
  obtain ⟨b2, hb2⟩ : ∃ b2, b2 = w1.heap.size := ⟨_, rfl⟩
  obtain ⟨g2, hg2⟩ : ∃ g2, g2 = w1.heap.size + 1 := ⟨_, rfl⟩
  have hB12 : Below w1.heap.size w1 w2 := by rw [HW2.out]; exact below_alloc (below_alloc (Below.refl _ _) _) _
  have HB2 : Hid (Below w.heap.size w w2) := Lib.hid (HB1.out.trans (lower_m hB12 HB1.out.size))
  have h2b : w2.heap[b2]? = some (.map #[] 0) := by
    have h0 : (w1.alloc (.map #[] 0)).heap[w1.heap.size]? = some (.map #[] 0) := heap_alloc_new w1 _
    have hB : Below (w1.alloc (.map #[] 0)).heap.size (w1.alloc (.map #[] 0)) w2 := by rw [HW2.out]; exact below_alloc (Below.refl _ _) _
    rw [hb2]
    exact (hB.block _ (by simp)).trans h0
  have h2g : w2.heap[g2]? = some (.cells #[.map (some b2)] 72 (0, 0)) := by
    have h1 := heap_alloc_new (w1.alloc (.map #[] 0)) (.cells #[.map (some w1.heap.size)] 72)
    rw [hg2, hb2, HW2.out]
    simpa [made] using h1
  have hs2 : w2.heap.size = w1.heap.size + 2 := by rw [HW2.out]; simp [made]
  have HS2 := Lib.hid (And.intro h2b (And.intro h2g (And.intro hs2 (And.intro hb2 hg2))))
  rw [← hg2]
  clear hB12 h2b h2g hs2 hb2 hg2 HW2
  have hgc : w2.cell? ⟨g, 0, none⟩ = some (.map (some b)) := (blk_cell (HG.out w2 HB2.out) 0).trans rfl
  obtain ⟨o8, hrg, hI⟩ := range_sm w2 b l (HB.out w2 HB2.out)
  obtain ⟨it, hit⟩ : ∃ it, it = w2.heap.size := ⟨_, rfl⟩
  obtain ⟨W8, hW8⟩ : ∃ W8, W8 = w2.alloc o8 := ⟨_, rfl⟩
  have HL : Hid (L7 rt nm w W8 b it g2 b2 l [] l) := Lib.hid (by
    rw [← hW8, ← hit] at hI
    obtain ⟨q1, q2, q3, q4, q5⟩ := HS2.out
    have hsz := HB1.out.size
    have h28 : Below w2.heap.size w2 W8 := by rw [hW8]; exact below_alloc (Below.refl _ _) o8
    have hB8 : Below w.heap.size w W8 := HB2.out.trans (lower_m h28 HB2.out.size)
    exact ⟨hI, List.Perm.refl _, hB8, (SM.empty q1).below h28, HE.out _ hB8, (h28.block g2 (blk_lt q2)).trans q2, by omega, by omega, by omega, by omega, by omega⟩)
  rw [← hW8, ← hit] at hrg
  clear hW8 hit hI
  go_wp2
  go_loopg [] l.length (fun kq wr => ∃ done left : List PV, left.length = kq ∧ Hid (L7 rt nm w wr b it g2 b2 l done left))
  case atStart => exact ⟨[], l, rfl, HL.out⟩
  case round =>
    obtain ⟨done, left, hkl, hL⟩ := hrel
    rcases next_sm wr it b left hL.out.qi with ⟨h0, hnx⟩ | ⟨p, left', w1', W9, o9, hp, hw1, hW9, hnx, hI9, hen⟩
    · subst h0
      go_wp2
      go_ret
      have hpd : l.Perm done := by
        have := hL.out.qp
        rwa [List.append_nil] at this
      exact ⟨g2, b2, done, rfl, hL.out.qg, hL.out.qm, hpd.symm, fun p hp => hL.out.qe p (hpd.mem_iff.2 hp), hL.out.qw.2.1, hL.out.qw.2.2.1, hL.out.qB⟩
    · obtain ⟨z1, z2, z3, z4, z5⟩ := hL.out.qw
      have hbl := HBL.out
      have hw1h : w1'.heap = wr.heap := by rcases hw1 with rfl | rfl <;> rfl
      have h9m : SM W9 b2 done := hL.out.qm.of_eq (by rw [hW9, setO_far _ _ _ _ (by omega), hw1h])
      have h9g : W9.heap[g2]? = some (.cells #[.map (some b2)] 72 (0, 0)) := by rw [hW9, setO_far _ _ _ _ (by omega), hw1h]; exact hL.out.qg
      have hck9 : CK wr W9 := by
        have h1 : CK wr w1' := fun a v hv => (cell_heap (w := wr) (w' := w1') a (congrArg (fun h => h[a.block]?) hw1h)).trans hv
        have h2 : IT w1' it b left := hL.out.qi.of_eq (by rw [hw1h]) (by rw [hw1h])
        rw [hW9]
        exact h1.trans (CK.iterset h2)
      have hB9 : Below w.heap.size w W9 := by
        have hb1 : Below w.heap.size w w1' := by
          rcases hw1 with rfl | rfl
          · exact hL.out.qB
          · exact below_drew1 hL.out.qB
        rw [hW9]
        exact below_setO hb1 z1
      have hperm : l.Perm (done ++ p :: left') := hL.out.qp.trans (hp.append_left done)
      have hnew : p.1 ∉ done.map (·.1) := by
        intro hm
        have n3 := (hperm.map (·.1)).nodup_iff.1 HN.out
        rw [List.map_append, List.map_cons] at n3
        exact (List.nodup_append.1 n3).2.2 p.1 hm p.1 (by simp) rfl
      obtain ⟨es, c0, hmu, h10⟩ := update_sm W9 b2 done p.1 p.2 h9m
      rw [putP_new hnew] at h10
      obtain ⟨W10, hW10⟩ : ∃ W10, W10 = setO W9 b2 (.map es c0) := ⟨_, rfl⟩
      have hgb2 : g2 ≠ b2 := by
        intro e
        obtain ⟨es, c0, h1, _⟩ := h9m
        rw [e, h1] at h9g
        cases h9g
      have HL2 : Hid (L7 rt nm w W10 b it g2 b2 l (done ++ [p]) left') := Lib.hid (by
        have hck : CK wr W10 := by rw [hW10]; exact hck9.trans (CK.mapset h9m)
        refine ⟨?_, ?_, ?_, ?_, fun q hq => (hL.out.qe q hq).ck hck, ?_, z1, z2, z3, z4, z5⟩
        · exact hI9.of_eq (by rw [hW10, setO_far _ _ _ _ (by omega)]) (by rw [hW10, setO_far _ _ _ _ (by omega)])
        · rw [List.append_assoc]
          exact hperm
        · rw [hW10]
          exact below_setO hB9 z2
        · rw [hW10]
          exact h10
        · rw [hW10, setO_far _ _ _ _ hgb2]
          exact h9g)
      have hgc2 : W9.cell? ⟨g2, 0, none⟩ = some (.map (some b2)) := (blk_cell h9g 0).trans rfl
      have HLEN : Hid (left.length = left'.length + 1) := Lib.hid hp.length_eq
      rw [← hW10] at hmu
      obtain ⟨p1, p2⟩ := p
      clear hgb2 hw1h h9m h9g hck9 hB9 hperm hnew h10 hW10 hI9 hW9 hw1 hp z1 z2 z3 z4 z5 hbl
      go_wp2
      go_roundg (gk - 1)
      case measure => have := HLEN.out; omega
      case rel => exact ⟨done ++ [(p1, p2)], left', by have := HLEN.out; omega, HL2.out⟩
end Go.Proofs.YtbpmgaaipkenkaaDoor
end
section
namespace Go.Proofs.YtbpmgaaipkenkaaDoor.PMS
open Go.RowKit Go.Proofs.YtbpmgaaipkenkaaDoorW.PrintWords Go.Proofs.YtbpmgaaipkenkaaDoorW.PrintLast Go.Proofs.YtbpmgaaipkenkaaDoorW.PrintMore
attribute [local go_sem] max2_int min2_int max_two min_two max_three min_three max_four min_four
set_option linter.unusedVariables false
set_option linter.unusedSimpArgs false
def manometerref05_Letter.f (a0 : Int) : Option (Bool) := if a0 ≥ 97 then (if a0 ≤ 122 then (some true) else (if a0 ≥ 65 then (if a0 ≤ 90 then (some true) else (if a0 ≥ 48 then (if a0 ≤ 57 then (some true) else (some (a0 == 95))) else (some (a0 == 95)))) else (if a0 ≥ 48 then (if a0 ≤ 57 then (some true) else (some (a0 == 95))) else (some (a0 == 95))))) else (if a0 ≥ 65 then (if a0 ≤ 90 then (some true) else (if a0 ≥ 48 then (if a0 ≤ 57 then (some true) else (some (a0 == 95))) else (some (a0 == 95)))) else (if a0 ≥ 48 then (if a0 ≤ 57 then (some true) else (some (a0 == 95))) else (some (a0 == 95))))
set_option maxHeartbeats 8000000 in
set_option maxRecDepth 100000 in
theorem manometerref05_Letter.calls (a0 : Int) (r : Bool) (w : World) (h : manometerref05_Letter.f a0 = some r) :
  Calls Tryd.prog 57 #[.int .u8 a0] w fun e w' => e = .returned (.bool r) ∧ Drawn0 w w' := by
 have H : (if a0 ≥ 97 then (if a0 ≤ 122 then (some true) else (if a0 ≥ 65 then (if a0 ≤ 90 then (some true) else (if a0 ≥ 48 then (if a0 ≤ 57 then (some true) else (some (a0 == 95))) else (some (a0 == 95)))) else (if a0 ≥ 48 then (if a0 ≤ 57 then (some true) else (some (a0 == 95))) else (some (a0 == 95))))) else (if a0 ≥ 65 then (if a0 ≤ 90 then (some true) else (if a0 ≥ 48 then (if a0 ≤ 57 then (some true) else (some (a0 == 95))) else (some (a0 == 95)))) else (if a0 ≥ 48 then (if a0 ≤ 57 then (some true) else (some (a0 == 95))) else (some (a0 == 95))))) = some r := h
 clear h
 by_cases c2 : a0 ≥ 97
 ·rw [if_pos c2] at H
  have c2b0 : decide (97 ≤ a0) = true := decide_eq_true c2
  clear c2
  by_cases c3 : a0 ≤ 122
  ·rw [if_pos c3] at H
   have c3b0 : decide (a0 ≤ 122) = true := decide_eq_true c3
   clear c3
   obtain rfl := Option.some.inj H
   go_enter Tryd.func57, Tryd.ntmps57
   go_wp2
   go_ret
   exact ⟨y11_, y7_⟩
  ·rw [if_neg c3] at H
   have c3b0 : decide (a0 ≤ 122) = false := decide_eq_false c3
   clear c3
   by_cases c4 : a0 ≥ 65
   ·rw [if_pos c4] at H
    have c4b0 : decide (65 ≤ a0) = true := decide_eq_true c4
    clear c4
    by_cases c5 : a0 ≤ 90
    ·rw [if_pos c5] at H
     have c5b0 : decide (a0 ≤ 90) = true := decide_eq_true c5
     clear c5
     obtain rfl := Option.some.inj H
     go_enter Tryd.func57, Tryd.ntmps57
     go_wp2
     go_ret
     exact ⟨y11_, y7_⟩
    ·rw [if_neg c5] at H
     have c5b0 : decide (a0 ≤ 90) = false := decide_eq_false c5
     clear c5
     by_cases c6 : a0 ≥ 48
     ·rw [if_pos c6] at H
      have c6b0 : decide (48 ≤ a0) = true := decide_eq_true c6
      clear c6
      by_cases c7 : a0 ≤ 57
      ·rw [if_pos c7] at H
       have c7b0 : decide (a0 ≤ 57) = true := decide_eq_true c7
       clear c7
       obtain rfl := Option.some.inj H
       go_enter Tryd.func57, Tryd.ntmps57
       go_wp2
       go_ret
       exact ⟨y11_, y7_⟩
      ·rw [if_neg c7] at H
       have c7b0 : decide (a0 ≤ 57) = false := decide_eq_false c7
       clear c7
       obtain rfl := Option.some.inj H
       go_enter Tryd.func57, Tryd.ntmps57
       go_wp2
       go_ret
       exact ⟨y11_, y7_⟩
     ·rw [if_neg c6] at H
      have c6b0 : decide (48 ≤ a0) = false := decide_eq_false c6
      clear c6
      obtain rfl := Option.some.inj H
      go_enter Tryd.func57, Tryd.ntmps57
      go_wp2
      go_ret
      exact ⟨y11_, y7_⟩
   ·rw [if_neg c4] at H
    have c4b0 : decide (65 ≤ a0) = false := decide_eq_false c4
    clear c4
    by_cases c8 : a0 ≥ 48
    ·rw [if_pos c8] at H
     have c8b0 : decide (48 ≤ a0) = true := decide_eq_true c8
     clear c8
     by_cases c9 : a0 ≤ 57
     ·rw [if_pos c9] at H
      have c9b0 : decide (a0 ≤ 57) = true := decide_eq_true c9
      clear c9
      obtain rfl := Option.some.inj H
      go_enter Tryd.func57, Tryd.ntmps57
      go_wp2
      go_ret
      exact ⟨y11_, y7_⟩
     ·rw [if_neg c9] at H
      have c9b0 : decide (a0 ≤ 57) = false := decide_eq_false c9
      clear c9
      obtain rfl := Option.some.inj H
      go_enter Tryd.func57, Tryd.ntmps57
      go_wp2
      go_ret
      exact ⟨y11_, y7_⟩
    ·rw [if_neg c8] at H
     have c8b0 : decide (48 ≤ a0) = false := decide_eq_false c8
     clear c8
     obtain rfl := Option.some.inj H
     go_enter Tryd.func57, Tryd.ntmps57
     go_wp2
     go_ret
     exact ⟨y11_, y7_⟩
 ·rw [if_neg c2] at H
  have c2b0 : decide (97 ≤ a0) = false := decide_eq_false c2
  clear c2
  by_cases c10 : a0 ≥ 65
  ·rw [if_pos c10] at H
   have c10b0 : decide (65 ≤ a0) = true := decide_eq_true c10
   clear c10
   by_cases c11 : a0 ≤ 90
   ·rw [if_pos c11] at H
    have c11b0 : decide (a0 ≤ 90) = true := decide_eq_true c11
    clear c11
    obtain rfl := Option.some.inj H
    go_enter Tryd.func57, Tryd.ntmps57
    go_wp2
    go_ret
    exact ⟨y11_, y7_⟩
   ·rw [if_neg c11] at H
    have c11b0 : decide (a0 ≤ 90) = false := decide_eq_false c11
    clear c11
    by_cases c12 : a0 ≥ 48
    ·rw [if_pos c12] at H
     have c12b0 : decide (48 ≤ a0) = true := decide_eq_true c12
     clear c12
     by_cases c13 : a0 ≤ 57
     ·rw [if_pos c13] at H
      have c13b0 : decide (a0 ≤ 57) = true := decide_eq_true c13
      clear c13
      obtain rfl := Option.some.inj H
      go_enter Tryd.func57, Tryd.ntmps57
      go_wp2
      go_ret
      exact ⟨y11_, y7_⟩
     ·rw [if_neg c13] at H
      have c13b0 : decide (a0 ≤ 57) = false := decide_eq_false c13
      clear c13
      obtain rfl := Option.some.inj H
      go_enter Tryd.func57, Tryd.ntmps57
      go_wp2
      go_ret
      exact ⟨y11_, y7_⟩
    ·rw [if_neg c12] at H
     have c12b0 : decide (48 ≤ a0) = false := decide_eq_false c12
     clear c12
     obtain rfl := Option.some.inj H
     go_enter Tryd.func57, Tryd.ntmps57
     go_wp2
     go_ret
     exact ⟨y11_, y7_⟩
  ·rw [if_neg c10] at H
   have c10b0 : decide (65 ≤ a0) = false := decide_eq_false c10
   clear c10
   by_cases c14 : a0 ≥ 48
   ·rw [if_pos c14] at H
    have c14b0 : decide (48 ≤ a0) = true := decide_eq_true c14
    clear c14
    by_cases c15 : a0 ≤ 57
    ·rw [if_pos c15] at H
     have c15b0 : decide (a0 ≤ 57) = true := decide_eq_true c15
     clear c15
     obtain rfl := Option.some.inj H
     go_enter Tryd.func57, Tryd.ntmps57
     go_wp2
     go_ret
     exact ⟨y11_, y7_⟩
    ·rw [if_neg c15] at H
     have c15b0 : decide (a0 ≤ 57) = false := decide_eq_false c15
     clear c15
     obtain rfl := Option.some.inj H
     go_enter Tryd.func57, Tryd.ntmps57
     go_wp2
     go_ret
     exact ⟨y11_, y7_⟩
   ·rw [if_neg c14] at H
    have c14b0 : decide (48 ≤ a0) = false := decide_eq_false c14
    clear c14
    obtain rfl := Option.some.inj H
    go_enter Tryd.func57, Tryd.ntmps57
    go_wp2
    go_ret
    exact ⟨y11_, y7_⟩
def manometerref05_Named.l0 : Nat → ByteArray → Int → Int → Option (Bool)
 | 0, _, _, _ => none
 | k + 1, x0, x5, x6 => if x6 < x5 then (if 0 ≤ x6 then (if x6 < (x0.size : Int) then ((manometerref05_Letter.f (bt x0 x6)).bind fun t146 => (if t146 = true then (manometerref05_Named.l0 k x0 x5 (wrap64 (x6 + 1))) else (some false))) else (none)) else (none)) else (if (x0.size : Int) ≥ 1 then (if (x0.size : Int) ≤ 64 then (if 0 < (x0.size : Int) then (if (bt x0 0) < 48 then (some true) else (some (decide ((bt x0 0) > 57)))) else (none)) else (some false)) else (some false))
def manometerref05_Named.f (k : Nat) (a0 : ByteArray) : Option (Bool) := manometerref05_Named.l0 k a0 (a0.size : Int) 0
set_option maxHeartbeats 8000000 in
set_option maxRecDepth 100000 in
theorem manometerref05_Named.calls (k : Nat) (a0 : ByteArray) (r : Bool) (w : World) (h : manometerref05_Named.f k a0 = some r) :
  Calls Tryd.prog 52 #[.string a0] w fun e w' => e = .returned (.bool r) ∧ Drawn0 w w' := by
 have H : (manometerref05_Named.l0 k a0 (a0.size : Int) 0) = some r := h
 clear h
 have H' := Aside0.mk H
 clear H
 go_enter Tryd.func52, Tryd.ntmps52
 go_wp2
 go_loopg [6] k (fun kq v6 w' => ∃ (x6_1 : Int), v6 = .int .i64 x6_1 ∧ Aside0 (manometerref05_Named.l0 kq a0 (a0.size : Int) x6_1 = some r) ∧ Aside0 (kq ≤ k) ∧ Drawn0 w w')
 case atStart => exact ⟨(0), y6_, H', ⟨Nat.le_refl _⟩, y7_⟩
 case round =>
  clear H'
  obtain ⟨x6_1, rfl, HA, HK1, ⟨m1, rfl⟩⟩ := hrel
  cases gk with
  | zero => exact absurd HA.out (by simp [manometerref05_Named.l0])
  | succ k1 =>
   have H := HA.out
   clear HA
   simp only [manometerref05_Named.l0] at H
   by_cases c2 : x6_1 < (a0.size : Int)
   ·rw [if_pos c2] at H
    have c2b0 : decide (x6_1 < (a0.size : Int)) = true := decide_eq_true c2
    clear c2
    by_cases c3 : 0 ≤ x6_1
    ·rw [if_pos c3] at H
     have c3b0 : decide (0 ≤ x6_1) = true := decide_eq_true c3
     clear c3
     by_cases c4 : x6_1 < (a0.size : Int)
     ·rw [if_pos c4] at H
      have c4b0 : decide (x6_1 < (a0.size : Int)) = true := decide_eq_true c4
      clear c4
      replace H := Option.bind_eq_some_iff.mp H
      obtain ⟨t146, A60, H⟩ := H
      replace H : (if t146 = true then (manometerref05_Named.l0 k1 a0 (a0.size : Int) (wrap64 (x6_1 + 1))) else (some false)) = some r := H
      have A6 := Aside0.mk A60
      clear A60
      by_cases c7 : t146 = true
      ·subst c7
       have H1 : (manometerref05_Named.l0 k1 a0 (a0.size : Int) (wrap64 (x6_1 + 1))) = some r := by rw [if_pos rfl] at H; exact H
       clear H
       have H := H1
       clear H1
       have H' := Aside0.mk H
       clear H
       have p5 : 0 ≤ (x6_1 : Int) := of_decide_eq_true y4_
       have q5 : x6_1 < (a0.size : Int) := of_decide_eq_true y4_
       have hx5 := bt_at a0 x6_1
       replace p5 := eq_true p5
       replace q5 := eq_true q5
       go_wp2_with (first | ((with_reducible refine gate_callee (f := 57) rfl ?_); refine goesL_ (some 12) rfl rfl Tryd.func57 (by kernel_rfl) rfl #[.int .u8 (bt a0 x6_1)] rfl y8_ ?_; (with_reducible refine (manometerref05_Letter.calls (bt a0 x6_1) true _ A6.out).mono ?_); rintro e w' ⟨rfl, ⟨nd, rfl⟩⟩; refine ⟨_, rfl, ?_⟩))
       go_roundg k1
       case measure => have := HK1.out; omega
       case rel => exact ⟨(wrap64 (x6_1 + 1)), y6_, H', ⟨y51_⟩, y7_⟩
      ·replace c7 := Bool.eq_false_iff.mpr c7
       subst c7
       have H1 : (some false) = some r := by rw [if_neg (show ¬ (false = true) by decide)] at H; exact H
       clear H
       have H := H1
       clear H1
       obtain rfl := Option.some.inj H
       have p5 : 0 ≤ (x6_1 : Int) := of_decide_eq_true y4_
       have q5 : x6_1 < (a0.size : Int) := of_decide_eq_true y4_
       have hx5 := bt_at a0 x6_1
       replace p5 := eq_true p5
       replace q5 := eq_true q5
       go_wp2_with (first | ((with_reducible refine gate_callee (f := 57) rfl ?_); refine goesL_ (some 12) rfl rfl Tryd.func57 (by kernel_rfl) rfl #[.int .u8 (bt a0 x6_1)] rfl y8_ ?_; (with_reducible refine (manometerref05_Letter.calls (bt a0 x6_1) false _ A6.out).mono ?_); rintro e w' ⟨rfl, ⟨nd, rfl⟩⟩; refine ⟨_, rfl, ?_⟩))
       go_ret
       exact ⟨y11_, y7_⟩
     ·rw [if_neg c4] at H
      exact absurd H (by simp)
    ·rw [if_neg c3] at H
     exact absurd H (by simp)
   ·rw [if_neg c2] at H
    have c2b0 : decide (x6_1 < (a0.size : Int)) = false := decide_eq_false c2
    clear c2
    by_cases c8 : (a0.size : Int) ≥ 1
    ·rw [if_pos c8] at H
     have c8b0 : decide (1 ≤ (a0.size : Int)) = true := decide_eq_true c8
     have c8b1 : decide (1 ≤ a0.size) = true := decide_eq_true (by omega)
     clear c8
     by_cases c9 : (a0.size : Int) ≤ 64
     ·rw [if_pos c9] at H
      have c9b0 : decide ((a0.size : Int) ≤ 64) = true := decide_eq_true c9
      have c9b1 : decide (a0.size ≤ 64) = true := decide_eq_true (by omega)
      clear c9
      by_cases c10 : 0 < (a0.size : Int)
      ·rw [if_pos c10] at H
       have c10b0 : decide (0 < (a0.size : Int)) = true := decide_eq_true c10
       have c10b1 : decide (0 < a0.size) = true := decide_eq_true (by omega)
       clear c10
       by_cases c12 : (bt a0 0) < 48
       ·rw [if_pos c12] at H
        have c12b0 : decide ((bt a0 0) < 48) = true := decide_eq_true c12
        clear c12
        obtain rfl := Option.some.inj H
        have p11 : 0 ≤ (0 : Int) := (by omega)
        have q11 : 0 < a0.size := (by have : (0 : Int) < (a0.size : Int) := of_decide_eq_true y4_; omega)
        have hx11 : ∀ h : 0 < a0.size, ((a0[0]'h).toNat : Int) = bt a0 0 := bt_at a0 0
        clear p11
        have qi11 : (0 < (a0.size : Int)) = True := eq_true (of_decide_eq_true y4_)
        replace q11 := eq_true q11
        go_wp2
        go_ret
        exact ⟨y11_, y7_⟩
       ·rw [if_neg c12] at H
        have c12b0 : decide ((bt a0 0) < 48) = false := decide_eq_false c12
        clear c12
        obtain rfl := Option.some.inj H
        have p11 : 0 ≤ (0 : Int) := (by omega)
        have q11 : 0 < a0.size := (by have : (0 : Int) < (a0.size : Int) := of_decide_eq_true y4_; omega)
        have hx11 : ∀ h : 0 < a0.size, ((a0[0]'h).toNat : Int) = bt a0 0 := bt_at a0 0
        clear p11
        have qi11 : (0 < (a0.size : Int)) = True := eq_true (of_decide_eq_true y4_)
        replace q11 := eq_true q11
        have p13 : 0 ≤ (0 : Int) := (by omega)
        have q13 : 0 < a0.size := (by have : (0 : Int) < (a0.size : Int) := of_decide_eq_true y4_; omega)
        have hx13 : ∀ h : 0 < a0.size, ((a0[0]'h).toNat : Int) = bt a0 0 := bt_at a0 0
        clear p13
        have qi13 : (0 < (a0.size : Int)) = True := eq_true (of_decide_eq_true y4_)
        replace q13 := eq_true q13
        go_wp2
        go_ret
        exact ⟨y11_, y7_⟩
      ·rw [if_neg c10] at H
       exact absurd H (by simp)
     ·rw [if_neg c9] at H
      have c9b0 : decide ((a0.size : Int) ≤ 64) = false := decide_eq_false c9
      have c9b1 : decide (a0.size ≤ 64) = false := decide_eq_false (by omega)
      clear c9
      obtain rfl := Option.some.inj H
      go_wp2
      go_ret
      exact ⟨y11_, y7_⟩
    ·rw [if_neg c8] at H
     have c8b0 : decide (1 ≤ (a0.size : Int)) = false := decide_eq_false c8
     have c8b1 : decide (1 ≤ a0.size) = false := decide_eq_false (by omega)
     clear c8
     obtain rfl := Option.some.inj H
     go_wp2
     go_ret
     exact ⟨y11_, y7_⟩
def manometerref05_more.l0 : Nat → ByteArray → Int → Int → Int → Option (Bool)
 | 0, _, _, _, _ => none
 | k + 1, x0, x1, x14, x15 => if x15 < x14 then (if 0 ≤ (wrap64 (x1 + x15)) then (if (wrap64 (x1 + x15)) < (x0.size : Int) then (if ((Int.tdiv (bt x0 (wrap64 (x1 + x15))) 64) % 256) = 2 then (manometerref05_more.l0 k x0 x1 x14 (wrap64 (x15 + 1))) else (some false)) else (none)) else (none)) else (some true)
def manometerref05_more.f (k : Nat) (a0 : ByteArray) (a1 : Int) (a2 : Int) : Option (Bool) := if a1 > (wrap64 ((a0.size : Int) - a2)) then (some false) else (manometerref05_more.l0 k a0 a1 a2 0)
set_option maxHeartbeats 8000000 in
set_option maxRecDepth 100000 in
theorem manometerref05_more.calls (k : Nat) (a0 : ByteArray) (a1 : Int) (a2 : Int) (r : Bool) (w : World) (h : manometerref05_more.f k a0 a1 a2 = some r) :
  Calls Tryd.prog 64 #[.string a0, .int .i64 a1, .int .i64 a2] w fun e w' => e = .returned (.bool r) ∧ Drawn0 w w' := by
 have H : (if a1 > (wrap64 ((a0.size : Int) - a2)) then (some false) else (manometerref05_more.l0 k a0 a1 a2 0)) = some r := h
 clear h
 by_cases c4 : a1 > (wrap64 ((a0.size : Int) - a2))
 ·rw [if_pos c4] at H
  have c4b0 : decide ((wrap64 ((a0.size : Int) - a2)) < a1) = true := decide_eq_true c4
  clear c4
  obtain rfl := Option.some.inj H
  go_enter Tryd.func64, Tryd.ntmps64
  go_wp2
  go_ret
  exact ⟨y11_, y7_⟩
 ·rw [if_neg c4] at H
  have c4b0 : decide ((wrap64 ((a0.size : Int) - a2)) < a1) = false := decide_eq_false c4
  clear c4
  have H' := Aside0.mk H
  clear H
  go_enter Tryd.func64, Tryd.ntmps64
  go_wp2
  go_loopg [15] k (fun kq v15 w' => ∃ (x15_1 : Int), v15 = .int .i64 x15_1 ∧ Aside0 (manometerref05_more.l0 kq a0 a1 a2 x15_1 = some r) ∧ Aside0 (kq ≤ k) ∧ Drawn0 w w')
  case atStart => exact ⟨(0), y6_, H', ⟨Nat.le_refl _⟩, y7_⟩
  case round =>
   clear H'
   try clear p2
   try clear c4
   try clear c4b0
   obtain ⟨x15_1, rfl, HA, HK1, ⟨m1, rfl⟩⟩ := hrel
   cases gk with
   | zero => exact absurd HA.out (by simp [manometerref05_more.l0])
   | succ k1 =>
    have H := HA.out
    clear HA
    simp only [manometerref05_more.l0] at H
    by_cases c5 : x15_1 < a2
    ·rw [if_pos c5] at H
     have c5b0 : decide (x15_1 < a2) = true := decide_eq_true c5
     clear c5
     obtain ⟨ji6, hji6⟩ : ∃ j_ : Int, (wrap64 (a1 + x15_1)) = j_ := ⟨_, rfl⟩
     replace H : (if 0 ≤ (ji6) then (if (ji6) < (a0.size : Int) then (if ((Int.tdiv (bt a0 (ji6)) 64) % 256) = 2 then (manometerref05_more.l0 k1 a0 a1 a2 (wrap64 (x15_1 + 1))) else (some false)) else (none)) else (none)) = some r := by first | (rw [hji6] at H; exact H) | (simp only [hji6] at H ⊢; exact H)
     have hji6w : (IntKind.i64.wrap (a1 + x15_1)) = ji6 := (i64_w _).trans hji6
     by_cases c7 : 0 ≤ (ji6)
     ·rw [if_pos c7] at H
      have c7b0 : decide (0 ≤ (ji6)) = true := decide_eq_true c7
      clear c7
      by_cases c8 : (ji6) < (a0.size : Int)
      ·rw [if_pos c8] at H
       have c8b0 : decide ((ji6) < (a0.size : Int)) = true := decide_eq_true c8
       clear c8
       by_cases c10 : ((Int.tdiv (bt a0 (ji6)) 64) % 256) = 2
       ·rw [if_pos c10] at H
        have c10b0 : (((Int.tdiv (bt a0 (ji6)) 64) % 256) == 2) = true := beq_iff_eq.mpr c10
        have c10b1 : (((Int.tdiv (bt a0 (ji6)) 64) % 256) != 2) = false := bne_eq_false_iff_eq.mpr c10
        clear c10
        have H' := Aside0.mk H
        clear H
        have p9 : 0 ≤ ((ji6) : Int) := of_decide_eq_true y4_
        have q9 : (ji6) < (a0.size : Int) := of_decide_eq_true y4_
        have hx9 := bt_at a0 (ji6)
        replace p9 := eq_true p9
        replace q9 := eq_true q9
        go_wp2
        go_roundg k1
        case measure => have := HK1.out; omega
        case rel => exact ⟨(wrap64 (x15_1 + 1)), y6_, H', ⟨y51_⟩, y7_⟩
       ·rw [if_neg c10] at H
        have c10b0 : (((Int.tdiv (bt a0 (ji6)) 64) % 256) == 2) = false := beq_eq_false_iff_ne.mpr c10
        have c10b1 : (((Int.tdiv (bt a0 (ji6)) 64) % 256) != 2) = true := bne_iff_ne.mpr c10
        obtain rfl := Option.some.inj H
        have p9 : 0 ≤ ((ji6) : Int) := of_decide_eq_true y4_
        have q9 : (ji6) < (a0.size : Int) := of_decide_eq_true y4_
        have hx9 := bt_at a0 (ji6)
        replace p9 := eq_true p9
        replace q9 := eq_true q9
        go_wp2
        go_ret
        exact ⟨by first | rfl | (simp; done) | ((simp only [← hji6] <;> (first | rfl | simp)); done) | (congr 1; first | assumption | (symm; assumption)) | (simp [*]; done), y7_⟩
      ·rw [if_neg c8] at H
       exact absurd H (by simp)
     ·rw [if_neg c7] at H
      exact absurd H (by simp)
    ·rw [if_neg c5] at H
     have c5b0 : decide (x15_1 < a2) = false := decide_eq_false c5
     clear c5
     obtain rfl := Option.some.inj H
     go_wp2
     go_ret
     exact ⟨y11_, y7_⟩
end Go.Proofs.YtbpmgaaipkenkaaDoor.PMS
end
