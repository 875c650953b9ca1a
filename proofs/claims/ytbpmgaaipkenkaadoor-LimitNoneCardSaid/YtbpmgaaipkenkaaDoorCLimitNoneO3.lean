import Derived.Test.YtbpmgaaipkenkaaDoorCLimitNonePMDx0
import Derived.Test.YtbpmgaaipkenkaaDoorCLimitNonePMDx1
import Derived.Test.YtbpmgaaipkenkaaDoorCLimitNoneO2
import Derived.Lib.LaidU8
import Derived.LaidMore
import Derived.Test.YtbpmgaaipkenkaaDoorCLimitNonePMCx0
import Derived.Test.YtbpmgaaipkenkaaDoorRows
import Derived.Lib.LaidU8T
section
namespace Go.Proofs.YtbpmgaaipkenkaaDoor
open Go Go.RowKit Go.Proofs.YtbpmgaaipkenkaaDoorW.PrintWords Go.Proofs.YtbpmgaaipkenkaaDoorW.PrintLast Go.Proofs.YtbpmgaaipkenkaaDoorW.PrintMore
set_option linter.unusedVariables false
set_option linter.unusedSimpArgs false
attribute [local go_sem ↓] Go.wp_at_zero Go.wp_at_succ
attribute [local go_sem] max2_int min2_int max_two min_two
abbrev bk (r b l a : Int) : Value := .agg #[.int .u64 r, .int .u64 b, .int .u64 l, .int .i64 a]
abbrev set4 (w : World) (g : Nat) (a b c d : Value) : World := (((w.setCell ⟨g, 0, none⟩ a).setCell ⟨g, 1, none⟩ b).setCell ⟨g, 2, none⟩ c).setCell ⟨g, 3, none⟩ d
theorem set4_at {w : World} {g t : Nat} {a b c d : Value} (h : w.heap[g]? = some (.cells #[a, b, c, d] t (0, 0))) (a' b' c' d' : Value) :
    (set4 w g a' b' c' d').heap[g]? = some (.cells #[a', b', c', d'] t (0, 0)) := blk_set (blk_set (blk_set (blk_set h 0 a') 1 b') 2 c') 3 d'
theorem set4_far {w : World} {g k t : Nat} {cs : Array Value} (h : w.heap[k]? = some (.cells cs t (0, 0))) (hne : k ≠ g) (a' b' c' d' : Value) : (set4 w g a' b' c' d').heap[k]? = some (.cells cs t (0, 0)) :=
  blk_far (p := ⟨g, 3, none⟩) (blk_far (p := ⟨g, 2, none⟩) (blk_far (p := ⟨g, 1, none⟩) (blk_far (p := ⟨g, 0, none⟩) h hne _) hne _) hne _) hne _
theorem set4_below {w0 w : World} {g : Nat} (h : Below w0.heap.size w0 w) (hg : w0.heap.size ≤ g) (a b c d : Value) : Below w0.heap.size w0 (set4 w g a b c d) :=
  below_set (below_set (below_set (below_set h hg) hg) hg) hg
theorem lower_k {B B' : Nat} {w w' : World} (h : Below B w w') (hle : B' ≤ B) : Below B' w w' := ⟨h.os, h.tape, h.output, h.size, fun k hk => h.block k (by omega)⟩
section
variable {w w2 : World} {a b c d a' b' c' d' : Value} {t t' g : Nat}
theorem two_boxes1 (h : Below ((w.alloc (.cells #[a, b, c, d] t)).alloc (.cells #[a', b', c', d'] t')).heap.size ((w.alloc (.cells #[a, b, c, d] t)).alloc (.cells #[a', b', c', d'] t')) w2) : w2.heap[w.heap.size]? = some (.cells #[a, b, c, d] t (0, 0)) :=
  (h.block _ (by rw [World.size_alloc, World.size_alloc]; omega)).trans ((heap_alloc_old _ _ (by rw [World.size_alloc]; omega)).trans (heap_alloc_new w _))
theorem two_boxes2 (h : Below ((w.alloc (.cells #[a, b, c, d] t)).alloc (.cells #[a', b', c', d'] t')).heap.size ((w.alloc (.cells #[a, b, c, d] t)).alloc (.cells #[a', b', c', d'] t')) w2) : w2.heap[w.heap.size + 1]? = some (.cells #[a', b', c', d'] t' (0, 0)) := by
  have e : w.heap.size + 1 = (w.alloc (.cells #[a, b, c, d] t)).heap.size := by rw [World.size_alloc]
  rw [e]
  exact (h.block _ (by rw [World.size_alloc (w.alloc _)]; omega)).trans (heap_alloc_new _ _)
theorem two_boxes (h : Below ((w.alloc (.cells #[a, b, c, d] t)).alloc (.cells #[a', b', c', d'] t')).heap.size ((w.alloc (.cells #[a, b, c, d] t)).alloc (.cells #[a', b', c', d'] t')) w2) : Below w.heap.size w w2 :=
  (below_alloc (below_alloc (Below.refl _ w) _) _).trans (lower_k h (by rw [World.size_alloc, World.size_alloc]; omega))
theorem cell4_0 (h : w.heap[g]? = some (.cells #[a, b, c, d] t (0, 0))) : w.cell? ⟨g, 0, none⟩ = some a := (blk_cell h 0).trans rfl
theorem cell4_1 (h : w.heap[g]? = some (.cells #[a, b, c, d] t (0, 0))) : w.cell? ⟨g, 1, none⟩ = some b := (blk_cell h 1).trans rfl
theorem cell4_2 (h : w.heap[g]? = some (.cells #[a, b, c, d] t (0, 0))) : w.cell? ⟨g, 2, none⟩ = some c := (blk_cell h 2).trans rfl
theorem cell4_3 (h : w.heap[g]? = some (.cells #[a, b, c, d] t (0, 0))) : w.cell? ⟨g, 3, none⟩ = some d := (blk_cell h 3).trans rfl
end
set_option maxRecDepth 20000 in
set_option maxHeartbeats 4000000 in
theorem take_calls (w : World) (r b l a now n : Int) (r1 r2 r3 r4 : Int) (h : PMD.limit_Fill.f r b l a now = some (r1, r2, r3, r4)) :
    Calls Tryd.prog 23 #[bk r b l a, .int .i64 now, .int .u64 n] w fun e w' => e = .returned (.tuple #[bk r1 r2 (if r3 < n then r3 else IntKind.u64.wrap (r3 - n)) r4, .bool (!decide (r3 < n))]) ∧ Below w.heap.size w w' := by
  have HF := Lib.hid (fun W => PMD.limit_Fill.calls r b l a now r1 r2 r3 r4 W h)
  clear h
  go_enter Tryd.func23, Tryd.ntmps23
  go_upto_region 2 with (go_at_call 18; refine (HF.out _).mono ?_; rintro e w2 ⟨rfl, hB2⟩; have hb1 := two_boxes1 hB2; have hb2 := two_boxes2 hB2; have HB2 := Lib.hid (two_boxes hB2); clear hB2; have HQ1 := Lib.hid hb1; have HQ2 := Lib.hid hb2; have hc0 := cell4_0 hb1; have hc1 := cell4_1 hb1; have hc2 := cell4_2 hb1; have hc3 := cell4_3 hb1; have hf0 := blk_frozen hb1 0; have hf1 := blk_frozen hb1 1; have hf2 := blk_frozen hb1 2; have hf3 := blk_frozen hb1 3; clear hb1 hb2)
  clear hc0 hc1 hc2 hc3 hf0 hf1 hf2 hf3
  obtain ⟨W3, hW3⟩ : ∃ W3, W3 = set4 w2 w.heap.size (.int .u64 r1) (.int .u64 r2) (.int .u64 r3) (.int .i64 r4) := ⟨_, rfl⟩
  have h31 := set4_at HQ1.out (.int .u64 r1) (.int .u64 r2) (.int .u64 r3) (.int .i64 r4)
  have h32 := set4_far HQ2.out (show w.heap.size + 1 ≠ w.heap.size by omega) (.int .u64 r1) (.int .u64 r2) (.int .u64 r3) (.int .i64 r4)
  have h3b := set4_below HB2.out (Nat.le_refl _) (.int .u64 r1) (.int .u64 r2) (.int .u64 r3) (.int .i64 r4)
  rw [← hW3] at h31 h32 h3b
  simp only [set4] at hW3
  rw [← hW3]
  clear hW3 HQ1 HQ2 HB2
  have G1 := Lib.hid h31
  have G2 := Lib.hid h32
  have GB := Lib.hid h3b
  have c0 := cell4_0 h31
  have c1 := cell4_1 h31
  have c2 := cell4_2 h31
  have c3 := cell4_3 h31
  have d0 := cell4_0 h32
  have d1 := cell4_1 h32
  have d2 := cell4_2 h32
  have d3 := cell4_3 h32
  have f2 := blk_frozen h31 2
  have g0 := blk_frozen h32 0
  have g1 := blk_frozen h32 1
  have g2 := blk_frozen h32 2
  have g3 := blk_frozen h32 3
  clear h31 h32 h3b
  by_cases hlt : r3 < n
  · have hd : decide (r3 < n) = true := decide_eq_true hlt
    go_wp2
    refine bodyPost_ret (results_ct rfl _ _ (w.heap.size + 1) 30 #[.int .u64 r1, .int .u64 r2, .int .u64 r3, .int .i64 r4] (0, 0) _ rfl (set4_at G2.out _ _ _ _) Tryd.underlying30 rfl (by kernel_rfl)) rfl ?_
    exact ⟨by first | rfl | (simp [hd]; done), set4_below GB.out (by omega) _ _ _ _⟩
  · have hd : decide (r3 < n) = false := decide_eq_false hlt
    go_wp2
    refine bodyPost_ret (results_ct rfl _ _ (w.heap.size + 1) 30 #[.int .u64 r1, .int .u64 r2, .int .u64 (IntKind.u64.wrap (r3 - n)), .int .i64 r4] (0, 0) _ rfl (set4_at (blk_far (p := ⟨w.heap.size, 2, none⟩) G2.out (by show w.heap.size + 1 ≠ w.heap.size; omega) _) _ _ _ _) Tryd.underlying30 rfl (by kernel_rfl)) rfl ?_
    exact ⟨by first | rfl | (simp [hd]; done), set4_below (below_set GB.out (Nat.le_refl _)) (by omega) _ _ _ _⟩
section
variable {w w2 : World} {a b a' b' : Value} {t t' g : Nat}
end
theorem drawn_b {w w' : World} (h : Drawn0 w w') : Below w.heap.size w w' := by
  obtain ⟨n, rfl⟩ := h
  exact pw_below_drewN (Below.refl _ _) n
end Go.Proofs.YtbpmgaaipkenkaaDoor
end
section
namespace Go.Proofs.YtbpmgaaipkenkaaDoor
open Go Go.RowKit Go.Proofs.YtbpmgaaipkenkaaDoorW.PrintWords Go.Proofs.YtbpmgaaipkenkaaDoorW.PrintLast Go.Proofs.YtbpmgaaipkenkaaDoorW.PrintMore
set_option linter.unusedVariables false
set_option linter.unusedSimpArgs false
attribute [local go_sem ↓] Go.wp_at_zero Go.wp_at_succ
theorem full1 : PMD.limit_Full.f 2 5 0 = some (2, 5, 5, 0) := by kernel_rfl
theorem fill1 : PMD.limit_Fill.f 2 5 5 0 0 = some (2, 5, 5, 0) := by kernel_rfl
theorem fill2 : PMD.limit_Fill.f 2 5 1 0 1 = some (2, 5, 3, 1) := by kernel_rfl
theorem fill3 : PMD.limit_Fill.f 2 5 3 1 2 = some (2, 5, 5, 2) := by kernel_rfl
theorem times1 : PMD.limit_Times.f 9223372036854775808 2 = some 18446744073709551615 := by kernel_rfl
theorem take1_c (W : World) : Calls Tryd.prog 23 #[bk 2 5 5 0, .int .i64 0, .int .u64 4] W fun e w' => e = .returned (.tuple #[bk 2 5 1 0, .bool true]) ∧ Below W.heap.size W w' := by
  have h := take_calls W 2 5 5 0 0 4 2 5 5 0 fill1
  have e1 : (if (5 : Int) < 4 then (5 : Int) else IntKind.u64.wrap (5 - 4)) = 1 := by decide
  have e2 : (!decide ((5 : Int) < 4)) = true := by decide
  rw [e1, e2] at h
  exact h
theorem take2_c (W : World) : Calls Tryd.prog 23 #[bk 2 5 1 0, .int .i64 1, .int .u64 4] W fun e w' => e = .returned (.tuple #[bk 2 5 3 1, .bool false]) ∧ Below W.heap.size W w' := by
  have h := take_calls W 2 5 1 0 1 4 2 5 3 1 fill2
  have e1 : (if (3 : Int) < 4 then (3 : Int) else IntKind.u64.wrap (3 - 4)) = 3 := by decide
  have e2 : (!decide ((3 : Int) < 4)) = false := by decide
  rw [e1, e2] at h
  exact h
theorem take3_c (W : World) : Calls Tryd.prog 23 #[bk 2 5 3 1, .int .i64 2, .int .u64 4] W fun e w' => e = .returned (.tuple #[bk 2 5 1 2, .bool true]) ∧ Below W.heap.size W w' := by
  have h := take_calls W 2 5 3 1 2 4 2 5 5 2 fill3
  have e1 : (if (5 : Int) < 4 then (5 : Int) else IntKind.u64.wrap (5 - 4)) = 1 := by decide
  have e2 : (!decide ((5 : Int) < 4)) = true := by decide
  rw [e1, e2] at h
  exact h
theorem full_c (W : World) : Calls Tryd.prog 17 #[.int .u64 2, .int .u64 5, .int .i64 0] W fun e w' => e = .returned (bk 2 5 5 0) ∧ Below W.heap.size W w' := PMD.limit_Full.calls 2 5 0 2 5 5 0 W full1
theorem times_c (W : World) : Calls Tryd.prog 14 #[.int .u64 9223372036854775808, .int .u64 2] W fun e w' => e = .returned (.int .u64 18446744073709551615) ∧ Below W.heap.size W w' :=
  (PMD.limit_Times.calls 9223372036854775808 2 18446744073709551615 W times1).mono fun e w' h => ⟨h.1, drawn_b h.2⟩
set_option maxRecDepth 20000 in
set_option maxHeartbeats 8000000 in
theorem live_calls (w : World) (hT : Tab w) : Calls Tryd.prog 11 #[] w fun e w' => e = .returned (.bool true) ∧ Below w.heap.size w w' := by
  have HT := Lib.hid (fun (W : World) (hW : Below w.heap.size w W) => Tab_below hT hW)
  clear hT
  go_enter Tryd.func11, Tryd.ntmps11
  go_upto_region 2 with (first
    | (go_at_call 17; (with_reducible refine (full_c w).mono ?_); rintro e w1 ⟨rfl, hB1⟩; have HB1 := Lib.hid hB1; clear hB1)
    | (go_at_call 23; (with_reducible refine (take1_c w1).mono ?_); rintro e w2 ⟨rfl, hB2⟩; have HB2 := Lib.hid (HB1.out.trans (lower_k hB2 HB1.out.size)); clear hB2))
  obtain ⟨pb, hpb⟩ : ∃ p, p = w2.heap.size := ⟨_, rfl⟩
  obtain ⟨W3, hW3⟩ : ∃ W, W = w2.alloc (.cells #[.int .u64 2, .int .u64 5, .int .u64 1, .int .i64 0] 30) := ⟨_, rfl⟩
  have hb3 : W3.heap[pb]? = some (.cells #[.int .u64 2, .int .u64 5, .int .u64 1, .int .i64 0] 30 (0, 0)) := by rw [hW3, hpb]; exact heap_alloc_new w2 _
  have HB3 : Hid (Below w.heap.size w W3) := Lib.hid (by rw [hW3]; exact below_alloc HB2.out _)
  have HPB : Hid (w.heap.size ≤ pb) := Lib.hid (by rw [hpb]; exact HB2.out.size)
  rw [← hW3, ← hpb]
  have Q3 := Lib.hid hb3
  have c0 := cell4_0 hb3
  have c1 := cell4_1 hb3
  have c2 := cell4_2 hb3
  have c3 := cell4_3 hb3
  clear hW3 hpb hb3 HB1 HB2
  go_upto_region 3 with (go_at_call 23; (with_reducible refine (take2_c W3).mono ?_); rintro e w4 ⟨rfl, hB4⟩; have HB4 := Lib.hid hB4; clear hB4)
  clear c0 c1 c2 c3
  obtain ⟨pc, hpc⟩ : ∃ p, p = w4.heap.size := ⟨_, rfl⟩
  obtain ⟨W5, hW5⟩ : ∃ W, W = w4.alloc (.cells #[.int .u64 2, .int .u64 5, .int .u64 3, .int .i64 1] 30) := ⟨_, rfl⟩
  have hc5 : W5.heap[pc]? = some (.cells #[.int .u64 2, .int .u64 5, .int .u64 3, .int .i64 1] 30 (0, 0)) := by rw [hW5, hpc]; exact heap_alloc_new w4 _
  have HB5 : Hid (Below W3.heap.size W3 W5) := Lib.hid (by rw [hW5]; exact below_alloc HB4.out _)
  rw [← hW5, ← hpc]
  have Q5 := Lib.hid hc5
  have c0 := cell4_0 hc5
  have c1 := cell4_1 hc5
  have c2 := cell4_2 hc5
  have c3 := cell4_3 hc5
  clear hW5 hpc hc5 HB4
  go_upto_region 4 with (go_at_call 23; (with_reducible refine (take3_c W5).mono ?_); rintro e w6 ⟨rfl, hB6⟩; have HB6 := Lib.hid hB6; clear hB6)
  clear c0 c1 c2 c3
  obtain ⟨W7, hW7⟩ : ∃ W, W = w6.alloc (.cells #[.int .u64 2, .int .u64 5, .int .u64 1, .int .i64 2] 30) := ⟨_, rfl⟩
  have HB7 : Hid (Below W5.heap.size W5 W7) := Lib.hid (by rw [hW7]; exact below_alloc HB6.out _)
  rw [← hW7]
  clear hW7 HB6
  obtain ⟨Wm, hWm⟩ : ∃ W, W = made W7 := ⟨_, rfl⟩
  obtain ⟨b, hb⟩ : ∃ b, b = W7.heap.size := ⟨_, rfl⟩
  have hnew := new_calls W7
  rw [← hWm, ← hb] at hnew
  have HNEW := Lib.hid hnew
  have HBm : Hid (Below W7.heap.size W7 Wm) := Lib.hid (by rw [hWm]; exact below_alloc (below_alloc (Below.refl _ _) _) _)
  have hbm : Wm.heap[b]? = some (.map #[] 0) := by rw [hWm, hb]; exact (heap_alloc_old _ _ (by rw [World.size_alloc]; omega)).trans (heap_alloc_new W7 _)
  have hgm : Wm.heap[b + 1]? = some (.cells #[.map (some b)] 72 (0, 0)) := by
    rw [hWm, hb]
    have e : W7.heap.size + 1 = (W7.alloc (.map #[] 0)).heap.size := by rw [World.size_alloc]
    unfold made
    rw [e]
    exact heap_alloc_new _ _
  have HBW : Hid (Below w.heap.size w Wm) := Lib.hid (HB3.out.trans (lower_k (HB5.out.trans (lower_k (HB7.out.trans (lower_k HBm.out HB7.out.size)) HB5.out.size)) HB3.out.size))
  have HBN : Hid (w.heap.size ≤ b) := Lib.hid (by rw [hb]; have h1 := HB3.out.size; have h2 := HB5.out.size; have h3 := HB7.out.size; omega)
  have hadm := admit_calls ((Wm.alloc (.cells #[.string sa, .string sx] 66)).alloc (.cells #[.slice (some ⟨Wm.heap.size, 0, none⟩) 1 1] 61)) (HT.out _ (below_alloc (below_alloc HBW.out _) _)) (b + 1) b Wm.heap.size (Wm.heap.size + 1)
    ((heap_alloc_old _ _ (by rw [World.size_alloc]; have := blk_lt hgm; omega)).trans ((heap_alloc_old _ _ (blk_lt hgm)).trans hgm))
    ((heap_alloc_old _ _ (by rw [World.size_alloc]; have := blk_lt hgm; omega)).trans ((heap_alloc_old _ _ (by have := blk_lt hgm; omega)).trans hbm))
    ((heap_alloc_old _ _ (by rw [World.size_alloc]; omega)).trans (heap_alloc_new _ _))
    (by
      have e : Wm.heap.size + 1 = (Wm.alloc (.cells #[.string sa, .string sx] 66)).heap.size := by rw [World.size_alloc]
      rw [e]
      exact heap_alloc_new _ _)
  have HADM := Lib.hid hadm
  have qb := Q3.out
  have qc := Q5.out
  have hb5 := (HB5.out.block pb (blk_lt qb)).trans qb
  have hb7 := (HB7.out.block pb (blk_lt hb5)).trans hb5
  have hbW := (HBm.out.block pb (blk_lt hb7)).trans hb7
  have hc7 := (HB7.out.block pc (blk_lt qc)).trans qc
  have hcW := (HBm.out.block pc (blk_lt hc7)).trans hc7
  have nb : pb ≠ b := by have := blk_lt hb7; omega
  have nc : pc ≠ b := by have := blk_lt hc7; omega
  have KB := Lib.hid hbW
  have KC := Lib.hid hcW
  have NB := Lib.hid (And.intro nb nc)
  clear hnew hadm hWm hb hbm hgm qb qc hb5 hb7 hbW hc7 hcW nb nc
  go_upto_region 8 with (first
    | (go_at_call 27; refine HNEW.out.mono ?_; rintro e w8 ⟨rfl, rfl⟩)
    | (go_at_call 30; refine HADM.out.mono ?_; rintro e w10 ⟨rfl, hM⟩; have HM := Lib.hid hM; clear hM))
  have hm0 := HM.out
  have hbx := below_alloc (below_alloc (Below.refl w8.heap.size w8) (.cells #[.string sa, .string sx] 66)) (.cells #[.slice (some ⟨w8.heap.size, 0, none⟩) 1 1] 61)
  have xb := hm0.blk ((hbx.block pb (blk_lt KB.out)).trans KB.out) (fun h => NB.out.1 h)
  have xc := hm0.blk ((hbx.block pc (blk_lt KC.out)).trans KC.out) (fun h => NB.out.2 h)
  have HBT : Hid (Below w.heap.size w w10) := Lib.hid ((below_alloc (below_alloc HBW.out _) _).trans (hm0.below (below_alloc (below_alloc HBW.out _) _).size (fun k hk => by rw [hk]; exact HBN.out)))
  have c2 := cell4_2 xb
  have d2 := cell4_2 xc
  clear hm0 hbx xb xc HM
  go_wp2_with (go_at_call 14; (with_reducible refine (times_c w10).mono ?_); rintro e w11 ⟨rfl, hB11⟩; have HB11 := Lib.hid (HBT.out.trans (lower_k hB11 HBT.out.size)); clear hB11)
  go_ret
  exact ⟨by first | rfl | (simp; done), HB11.out⟩
end Go.Proofs.YtbpmgaaipkenkaaDoor
end
section
namespace Go.Proofs.YtbpmgaaipkenkaaDoor
open Go Go.RowKit Go.Proofs.YtbpmgaaipkenkaaDoorW.PrintWords Go.Proofs.YtbpmgaaipkenkaaDoorW.PrintLast Go.Proofs.YtbpmgaaipkenkaaDoorW.PrintMore
set_option linter.unusedVariables false
set_option linter.unusedSimpArgs false
attribute [local go_sem ↓] Go.wp_at_zero Go.wp_at_succ
theorem ok_nil (w : World) : Calls Tryd.prog 39 #[.pointer none] w fun e w' => e = .returned (.bool false) ∧ Drawn0 w w' := by
  go_enter Tryd.func39, Tryd.ntmps39
  go_wp2
  go_ret
  exact ⟨rfl, ⟨0, rfl⟩⟩
set_option maxRecDepth 20000 in
theorem ok_unmade (w : World) (g : Nat) (hc : w.cell? ⟨g, 0, none⟩ = some (.map none)) : Calls Tryd.prog 39 #[.pointer (some ⟨g, 0, none⟩)] w fun e w' => e = .returned (.bool false) ∧ Drawn0 w w' := by
  have hn : ∀ W : World, (binOp .neq 70 (.map none) (.map none)).run Tryd.prog W = .ok (.bool false) W := fun W => run_neq_map_nil W _ _ _ none Tryd.underlying70
  go_enter Tryd.func39, Tryd.ntmps39
  go_wp2
  go_ret
  exact ⟨rfl, ⟨0, rfl⟩⟩
def No (w : World) (p : Option Addr) : Prop := p = none ∨ ∃ g, p = some ⟨g, 0, none⟩ ∧ w.cell? ⟨g, 0, none⟩ = some (.map none)
theorem ok_no (w : World) (p : Option Addr) (h : No w p) : Calls Tryd.prog 39 #[.pointer p] w fun e w' => e = .returned (.bool false) ∧ Drawn0 w w' := by
  rcases h with rfl | ⟨g, rfl, h⟩
  · exact ok_nil w
  · exact ok_unmade w g h
theorem admit_no (w : World) (p : Option Addr) (h : No w p) (A : Option Addr) (n c : Nat) : Calls Tryd.prog 30 #[.pointer p, .slice A n c, .int .i64 9] w fun e w' => e = .returned (.tuple #[.int .i64 0, .int .i64 2]) ∧ Below w.heap.size w w' := by
  go_enter Tryd.func30, Tryd.ntmps30
  go_wp2_with (go_at_call 39; (with_reducible refine (ok_no w p h).mono ?_); rintro e w1 ⟨rfl, hD⟩; have HB1 := Lib.hid (below_dr hD); clear hD)
  go_ret2
  exact ⟨rfl, HB1.out⟩
theorem has_no (w : World) (p : Option Addr) (h : No w p) (A : Option Addr) (n c : Nat) : Calls Tryd.prog 35 #[.pointer p, .slice A n c] w fun e w' => e = .returned (.bool false) ∧ Below w.heap.size w w' := by
  go_enter Tryd.func35, Tryd.ntmps35
  go_wp2_with (go_at_call 39; (with_reducible refine (ok_no w p h).mono ?_); rintro e w1 ⟨rfl, hD⟩; have HB1 := Lib.hid (below_dr hD); clear hD)
  go_ret
  exact ⟨rfl, HB1.out⟩
theorem len_no (w : World) (p : Option Addr) (h : No w p) : Calls Tryd.prog 29 #[.pointer p] w fun e w' => e = .returned (.int .i64 0) ∧ Below w.heap.size w w' := by
  go_enter Tryd.func29, Tryd.ntmps29
  go_wp2_with (go_at_call 39; (with_reducible refine (ok_no w p h).mono ?_); rintro e w1 ⟨rfl, hD⟩; have HB1 := Lib.hid (below_dr hD); clear hD)
  go_ret
  exact ⟨rfl, HB1.out⟩
theorem list_no (w : World) (p : Option Addr) (h : No w p) : Calls Tryd.prog 31 #[.pointer p] w fun e w' => e = .returned (.slice none 0 0) ∧ Below w.heap.size w w' := by
  go_enter Tryd.func31, Tryd.ntmps31
  go_wp2_with (go_at_call 39; (with_reducible refine (ok_no w p h).mono ?_); rintro e w1 ⟨rfl, hD⟩; have HB1 := Lib.hid (below_dr hD); clear hD)
  go_ret
  exact ⟨rfl, HB1.out⟩
theorem clone_no (w : World) (p : Option Addr) (h : No w p) : Calls Tryd.prog 32 #[.pointer p] w fun e w' => e = .returned (.pointer none) ∧ Below w.heap.size w w' := by
  go_enter Tryd.func32, Tryd.ntmps32
  go_wp2_with (go_at_call 39; (with_reducible refine (ok_no w p h).mono ?_); rintro e w1 ⟨rfl, hD⟩; have HB1 := Lib.hid (below_dr hD); clear hD)
  go_ret
  exact ⟨rfl, HB1.out⟩
set_option maxRecDepth 20000 in
set_option maxHeartbeats 8000000 in
theorem limitNone_calls (w : World) (hT : Tab w) (A : Option Addr) (n c : Nat) : Calls Tryd.prog 10 #[.slice A n c] w fun e w' => e = .returned (.bool true) ∧ Below w.heap.size w w' := by
  have HT := Lib.hid (fun (W : World) (hW : Below w.heap.size w W) => Tab_below hT hW)
  clear hT
  go_enter Tryd.func10, Tryd.ntmps10
  go_wp2
  obtain ⟨g, hg⟩ : ∃ g, g = w.heap.size := ⟨_, rfl⟩
  obtain ⟨W2, hW2⟩ : ∃ W2, W2 = (w.alloc (.cells #[.map none] 72)).alloc (.cells #[.pointer none, .pointer (some ⟨w.heap.size, 0, none⟩)] 48) := ⟨_, rfl⟩
  have HB2 : Hid (Below w.heap.size w W2) := Lib.hid (by rw [hW2]; exact below_alloc (below_alloc (Below.refl _ w) _) _)
  have HS : Hid (∀ W : World, Below W2.heap.size W2 W → W.cell? ⟨g, 0, none⟩ = some (.map none)) := Lib.hid (fun W hW => by
    have h0 : (w.alloc (.cells #[.map none] 72)).heap[w.heap.size]? = some (.cells #[.map none] 72 (0, 0)) := heap_alloc_new w _
    have h1 : W2.heap[w.heap.size]? = some (.cells #[.map none] 72 (0, 0)) := by rw [hW2]; exact ((below_alloc (Below.refl _ _) _).block _ (blk_lt h0)).trans h0
    rw [hg]
    exact (blk_cell ((hW.block _ (blk_lt h1)).trans h1) 0).trans rfl)
  have HA : Hid (∀ W : World, Below W2.heap.size W2 W → W.cell? ⟨g + 1, 0, none⟩ = some (.pointer none) ∧ W.cell? ⟨g + 1, 1, none⟩ = some (.pointer (some ⟨g, 0, none⟩))) := Lib.hid (fun W hW => by
    have h1 : W2.heap[w.heap.size + 1]? = some (.cells #[.pointer none, .pointer (some ⟨w.heap.size, 0, none⟩)] 48 (0, 0)) := by
      rw [hW2]
      have := heap_alloc_new (w.alloc (.cells #[.map none] 72)) (.cells #[.pointer none, .pointer (some ⟨w.heap.size, 0, none⟩)] 48 (0, 0))
      simpa using this
    rw [hg]
    exact ⟨(blk_cell ((hW.block _ (blk_lt h1)).trans h1) 0).trans rfl, (blk_cell ((hW.block _ (blk_lt h1)).trans h1) 1).trans rfl⟩)
  rw [← hW2, ← hg]
  clear hW2 hg
  go_loopg [11] 2 (fun kq s11 wr => ∃ i : Nat, i + kq = 2 ∧ s11 = .int .i64 (i : Int) ∧ Hid (Below W2.heap.size W2 wr))
  case atStart => exact ⟨0, rfl, rfl, Below.refl _ _⟩
  case round =>
    obtain ⟨i, hi, rfl, HBr⟩ := hrel
    obtain ⟨hc0, hc1⟩ := HA.out wr HBr.out
    rcases (by omega : i = 0 ∨ i = 1 ∨ i = 2) with rfl | rfl | rfl
    · have HN : Hid (∀ W : World, Below W2.heap.size W2 W → No W none) := Lib.hid (fun W hW => .inl rfl)
      go_wp2_with (first
        | (go_at_call 30; (with_reducible refine (admit_no _ none (HN.out _ (below_alloc HBr.out _)) _ _ _).mono ?_); rintro e w3 ⟨rfl, hB3⟩; have HB3 := Lib.hid ((below_alloc HBr.out _).trans (lower_m hB3 (below_alloc HBr.out _).size)); clear hB3)
        | (go_at_call 35; (with_reducible refine (has_no w3 none (HN.out _ HB3.out) _ _ _).mono ?_); rintro e w4 ⟨rfl, hB4⟩; have HB4 := Lib.hid (HB3.out.trans (lower_m hB4 HB3.out.size)); clear hB4)
        | (go_at_call 29; (with_reducible refine (len_no w4 none (HN.out _ HB4.out)).mono ?_); rintro e w5 ⟨rfl, hB5⟩; have HB5 := Lib.hid (HB4.out.trans (lower_m hB5 HB4.out.size)); clear hB5)
        | (go_at_call 31; (with_reducible refine (list_no w5 none (HN.out _ HB5.out)).mono ?_); rintro e w6 ⟨rfl, hB6⟩; have HB6 := Lib.hid (HB5.out.trans (lower_m hB6 HB5.out.size)); clear hB6)
        | (go_at_call 32; (with_reducible refine (clone_no w6 none (HN.out _ HB6.out)).mono ?_); rintro e w7 ⟨rfl, hB7⟩; have HB7 := Lib.hid (HB6.out.trans (lower_m hB7 HB6.out.size)); clear hB7))
      go_roundg (gk - 1)
      case measure => omega
      case rel => exact ⟨1, by omega, rfl, HB7.out⟩
    · have HN : Hid (∀ W : World, Below W2.heap.size W2 W → No W (some ⟨g, 0, none⟩)) := Lib.hid (fun W hW => .inr ⟨g, rfl, HS.out W hW⟩)
      go_wp2_with (first
        | (go_at_call 30; (with_reducible refine (admit_no _ (some ⟨g, 0, none⟩) (HN.out _ (below_alloc HBr.out _)) _ _ _).mono ?_); rintro e w3 ⟨rfl, hB3⟩; have HB3 := Lib.hid ((below_alloc HBr.out _).trans (lower_m hB3 (below_alloc HBr.out _).size)); clear hB3)
        | (go_at_call 35; (with_reducible refine (has_no w3 (some ⟨g, 0, none⟩) (HN.out _ HB3.out) _ _ _).mono ?_); rintro e w4 ⟨rfl, hB4⟩; have HB4 := Lib.hid (HB3.out.trans (lower_m hB4 HB3.out.size)); clear hB4)
        | (go_at_call 29; (with_reducible refine (len_no w4 (some ⟨g, 0, none⟩) (HN.out _ HB4.out)).mono ?_); rintro e w5 ⟨rfl, hB5⟩; have HB5 := Lib.hid (HB4.out.trans (lower_m hB5 HB4.out.size)); clear hB5)
        | (go_at_call 31; (with_reducible refine (list_no w5 (some ⟨g, 0, none⟩) (HN.out _ HB5.out)).mono ?_); rintro e w6 ⟨rfl, hB6⟩; have HB6 := Lib.hid (HB5.out.trans (lower_m hB6 HB5.out.size)); clear hB6)
        | (go_at_call 32; (with_reducible refine (clone_no w6 (some ⟨g, 0, none⟩) (HN.out _ HB6.out)).mono ?_); rintro e w7 ⟨rfl, hB7⟩; have HB7 := Lib.hid (HB6.out.trans (lower_m hB7 HB6.out.size)); clear hB7))
      go_roundg (gk - 1)
      case measure => omega
      case rel => exact ⟨2, by omega, rfl, HB7.out⟩
    · have HBz : Hid (Below w.heap.size w wr) := Lib.hid (HB2.out.trans (lower_m HBr.out HB2.out.size))
      go_wp2_with (go_at_call 11; (with_reducible refine (live_calls wr (HT.out wr HBz.out)).mono ?_); rintro e w8 ⟨rfl, hB8⟩; have HB8 := Lib.hid (HBz.out.trans (lower_m hB8 HBz.out.size)); clear hB8)
      go_ret
      exact ⟨rfl, HB8.out⟩
end Go.Proofs.YtbpmgaaipkenkaaDoor
end
section
namespace Go.Proofs.YtbpmgaaipkenkaaDoor
open Go.RowKit
set_option linter.unusedVariables false
theorem laid_plain {P : Program} {w : World} {l : List (String × DataW Unit)} (h : laidMetH P l w) (hf : (l.filter fun x => x.2.handleName?.isSome).isEmpty = true) : laidMet P l w := by
  unfold laidMetH at h
  split at h
  · exact h
  · rename_i h2
    rw [h2] at hf
    cases hf
end Go.Proofs.YtbpmgaaipkenkaaDoor
end
section
namespace Go.Proofs.YtbpmgaaipkenkaaDoor
open Go Go.RowKit Go.Shelf
set_option linter.unusedVariables false
theorem first_same : Go.Pinned.utf8First = Lib.firstData := by kernel_rfl
theorem accept_same : (Rows.laid_unicode_utf8_acceptRanges : DataW Unit) = Lib.acceptData := by kernel_rfl
theorem tab_of {w : World} (h : laidMetH Tryd.prog [("unicode/utf8.acceptRanges", Rows.laid_unicode_utf8_acceptRanges), ("unicode/utf8.first", Rows.laid_unicode_utf8_first)] w) : Tab w := by
  have hp := laid_plain h (by kernel_rfl)
  have h4 := Lib.laidMet.reads hp (List.Mem.head _)
  have h3 := Lib.laidMet.reads hp (List.Mem.tail _ (List.Mem.head _))
  rw [accept_same] at h4
  rw [show Rows.laid_unicode_utf8_first = Go.Pinned.utf8First from rfl, first_same] at h3
  exact utf8Tabs_of_readsT (U8Types.of196 Tryd.laysValid) ⟨by kernel_rfl, by kernel_rfl, by kernel_rfl, by kernel_rfl, by kernel_rfl, by kernel_rfl, by kernel_rfl⟩ h3 h4
end Go.Proofs.YtbpmgaaipkenkaaDoor
end
section
namespace Go.Proofs.YtbpmgaaipkenkaaDoor
open Go.RowKit Go.Proofs.YtbpmgaaipkenkaaDoorW.PrintWords Go.Proofs.YtbpmgaaipkenkaaDoorW.PrintMore Go.Proofs.YtbpmgaaipkenkaaDoorW.PrintLast Go.Deep
set_option linter.unusedVariables false
section
variable {H : Type} {enc : TypeId × Value → H} {P : Program} {w : World} {base : Nat} {spare : Nat → Bool} {held : Bool}
theorem opens_iso {α β : Type} {d : Kd α} {wf : α → Prop} {t : TypeId} (f : β → α) (g : α → β) (hg : ∀ y, f (g y) = y) (h : Opens enc P w base spare held t d wf) :
    Opens enc P w base spare held t (Kd.iso d f) (fun x => wf (f x)) := by
  intro fuel cs x hx
  obtain ⟨a, hK, hw⟩ := h fuel cs x hx
  refine ⟨g a, ?_, ?_⟩
  · show d.K w (f (g a)) cs
    rw [hg]
    exact hK
  · show wf (f (g a))
    rw [hg]
    exact hw
end
end Go.Proofs.YtbpmgaaipkenkaaDoor
end
