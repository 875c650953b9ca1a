import Derived.Test.YtbpmgaaipkenkaaDoorCLimitNeverPMDx0
import Derived.Test.YtbpmgaaipkenkaaDoorCLimitNeverPMDx1
import Derived.Test.YtbpmgaaipkenkaaDoorCLimitNeverPMSx0
import Derived.Test.YtbpmgaaipkenkaaDoorCLimitNeverPMCx0
import Derived.Test.YtbpmgaaipkenkaaDoorCLimitNeverG2
import Derived.Lib.ValidLaws
import Derived.Test.YtbpmgaaipkenkaaDoorCLimitNeverPMSx1
section
namespace Go.Proofs.YtbpmgaaipkenkaaDoor
open Go Go.RowKit Go.Proofs.YtbpmgaaipkenkaaDoorW.PrintWords Go.Proofs.YtbpmgaaipkenkaaDoorW.PrintLast Go.Proofs.YtbpmgaaipkenkaaDoorW.PrintMore
set_option linter.unusedVariables false
set_option linter.unusedSimpArgs false
attribute [local go_sem ↓] Go.wp_at_zero Go.wp_at_succ
attribute [local go_sem] max2_int min2_int max_two min_two
abbrev bk (r b l a : Int) : Value := .agg #[.int .u64 r, .int .u64 b, .int .u64 l, .int .i64 a]
abbrev set4 (w : World) (g : Nat) (a b c d : Value) : World := (((w.setCell ⟨g, 0, none⟩ a).setCell ⟨g, 1, none⟩ b).setCell ⟨g, 2, none⟩ c).setCell ⟨g, 3, none⟩ d
theorem set4_at {w : World} {g t : Nat} {a b c d : Value} (h : w.heap[g]? = some (.cells #[a, b, c, d] t (0, 0))) (a' b' c' d' : Value) :
    (set4 w g a' b' c' d').heap[g]? = some (.cells #[a', b', c', d'] t (0, 0)) := blk_set (blk_set (blk_set (blk_set h 0 a') 1 b') 2 c') 3 d'
theorem set4_far {w : World} {g k t : Nat} {cs : Array Value} (h : w.heap[k]? = some (.cells cs t (0, 0))) (hne : k ≠ g) (a' b' c' d' : Value) : (set4 w g a' b' c' d').heap[k]? = some (.cells cs t (0, 0)) :=
  blk_far (p := ⟨g, 3, none⟩) (blk_far (p := ⟨g, 2, none⟩) (blk_far (p := ⟨g, 1, none⟩) (blk_far (p := ⟨g, 0, none⟩) h hne _) hne _) hne _) hne _
theorem set4_below {w0 w : World} {g : Nat} (h : Below w0.heap.size w0 w) (hg : w0.heap.size ≤ g) (a b c d : Value) : Below w0.heap.size w0 (set4 w g a b c d) :=
  below_set (below_set (below_set (below_set h hg) hg) hg) hg
theorem lower_k {B B' : Nat} {w w' : World} (h : Below B w w') (hle : B' ≤ B) : Below B' w w' := ⟨h.os, h.tape, h.output, h.size, fun k hk => h.block k (by omega)⟩
section
variable {w w2 : World} {a b c d a' b' c' d' : Value} {t t' g : Nat}
theorem two_boxes1 (h : Below ((w.alloc (.cells #[a, b, c, d] t)).alloc (.cells #[a', b', c', d'] t')).heap.size ((w.alloc (.cells #[a, b, c, d] t)).alloc (.cells #[a', b', c', d'] t')) w2) : w2.heap[w.heap.size]? = some (.cells #[a, b, c, d] t (0, 0)) :=
  (h.block _ (by rw [World.size_alloc, World.size_alloc]; omega)).trans ((heap_alloc_old _ _ (by rw [World.size_alloc]; omega)).trans (heap_alloc_new w _))
theorem two_boxes2 (h : Below ((w.alloc (.cells #[a, b, c, d] t)).alloc (.cells #[a', b', c', d'] t')).heap.size ((w.alloc (.cells #[a, b, c, d] t)).alloc (.cells #[a', b', c', d'] t')) w2) : w2.heap[w.heap.size + 1]? = some (.cells #[a', b', c', d'] t' (0, 0)) := by
  have e : w.heap.size + 1 = (w.alloc (.cells #[a, b, c, d] t)).heap.size := by rw [World.size_alloc]
  rw [e]
  exact (h.block _ (by rw [World.size_alloc (w.alloc _)]; omega)).trans (heap_alloc_new _ _)
theorem two_boxes (h : Below ((w.alloc (.cells #[a, b, c, d] t)).alloc (.cells #[a', b', c', d'] t')).heap.size ((w.alloc (.cells #[a, b, c, d] t)).alloc (.cells #[a', b', c', d'] t')) w2) : Below w.heap.size w w2 :=
  (below_alloc (below_alloc (Below.refl _ w) _) _).trans (lower_k h (by rw [World.size_alloc, World.size_alloc]; omega))
theorem cell4_0 (h : w.heap[g]? = some (.cells #[a, b, c, d] t (0, 0))) : w.cell? ⟨g, 0, none⟩ = some a := (blk_cell h 0).trans rfl
theorem cell4_1 (h : w.heap[g]? = some (.cells #[a, b, c, d] t (0, 0))) : w.cell? ⟨g, 1, none⟩ = some b := (blk_cell h 1).trans rfl
theorem cell4_2 (h : w.heap[g]? = some (.cells #[a, b, c, d] t (0, 0))) : w.cell? ⟨g, 2, none⟩ = some c := (blk_cell h 2).trans rfl
theorem cell4_3 (h : w.heap[g]? = some (.cells #[a, b, c, d] t (0, 0))) : w.cell? ⟨g, 3, none⟩ = some d := (blk_cell h 3).trans rfl
end
set_option maxRecDepth 20000 in
set_option maxHeartbeats 4000000 in
theorem take_calls (w : World) (r b l a now n : Int) (r1 r2 r3 r4 : Int) (h : PMD.limit_Fill.f r b l a now = some (r1, r2, r3, r4)) :
    Calls Tryd.prog 23 #[bk r b l a, .int .i64 now, .int .u64 n] w fun e w' => e = .returned (.tuple #[bk r1 r2 (if r3 < n then r3 else IntKind.u64.wrap (r3 - n)) r4, .bool (!decide (r3 < n))]) ∧ Below w.heap.size w w' := by
  have HF := Lib.hid (fun W => PMD.limit_Fill.calls r b l a now r1 r2 r3 r4 W h)
  clear h
  go_enter Tryd.func23, Tryd.ntmps23
  go_upto_region 2 with (go_at_call 18; refine (HF.out _).mono ?_; rintro e w2 ⟨rfl, hB2⟩; have hb1 := two_boxes1 hB2; have hb2 := two_boxes2 hB2; have HB2 := Lib.hid (two_boxes hB2); clear hB2; have HQ1 := Lib.hid hb1; have HQ2 := Lib.hid hb2; have hc0 := cell4_0 hb1; have hc1 := cell4_1 hb1; have hc2 := cell4_2 hb1; have hc3 := cell4_3 hb1; have hf0 := blk_frozen hb1 0; have hf1 := blk_frozen hb1 1; have hf2 := blk_frozen hb1 2; have hf3 := blk_frozen hb1 3; clear hb1 hb2)
  clear hc0 hc1 hc2 hc3 hf0 hf1 hf2 hf3
  obtain ⟨W3, hW3⟩ : ∃ W3, W3 = set4 w2 w.heap.size (.int .u64 r1) (.int .u64 r2) (.int .u64 r3) (.int .i64 r4) := ⟨_, rfl⟩
  have h31 := set4_at HQ1.out (.int .u64 r1) (.int .u64 r2) (.int .u64 r3) (.int .i64 r4)
  have h32 := set4_far HQ2.out (show w.heap.size + 1 ≠ w.heap.size by omega) (.int .u64 r1) (.int .u64 r2) (.int .u64 r3) (.int .i64 r4)
  have h3b := set4_below HB2.out (Nat.le_refl _) (.int .u64 r1) (.int .u64 r2) (.int .u64 r3) (.int .i64 r4)
  rw [← hW3] at h31 h32 h3b
  simp only [set4] at hW3
  rw [← hW3]
  clear hW3 HQ1 HQ2 HB2
  have G1 := Lib.hid h31
  have G2 := Lib.hid h32
  have GB := Lib.hid h3b
  have c0 := cell4_0 h31
  have c1 := cell4_1 h31
  have c2 := cell4_2 h31
  have c3 := cell4_3 h31
  have d0 := cell4_0 h32
  have d1 := cell4_1 h32
  have d2 := cell4_2 h32
  have d3 := cell4_3 h32
  have f2 := blk_frozen h31 2
  have g0 := blk_frozen h32 0
  have g1 := blk_frozen h32 1
  have g2 := blk_frozen h32 2
  have g3 := blk_frozen h32 3
  clear h31 h32 h3b
  by_cases hlt : r3 < n
  · have hd : decide (r3 < n) = true := decide_eq_true hlt
    go_wp2
    refine bodyPost_ret (results_ct rfl _ _ (w.heap.size + 1) 30 #[.int .u64 r1, .int .u64 r2, .int .u64 r3, .int .i64 r4] (0, 0) _ rfl (set4_at G2.out _ _ _ _) Tryd.underlying30 rfl (by kernel_rfl)) rfl ?_
    exact ⟨by first | rfl | (simp [hd]; done), set4_below GB.out (by omega) _ _ _ _⟩
  · have hd : decide (r3 < n) = false := decide_eq_false hlt
    go_wp2
    refine bodyPost_ret (results_ct rfl _ _ (w.heap.size + 1) 30 #[.int .u64 r1, .int .u64 r2, .int .u64 (IntKind.u64.wrap (r3 - n)), .int .i64 r4] (0, 0) _ rfl (set4_at (blk_far (p := ⟨w.heap.size, 2, none⟩) G2.out (by show w.heap.size + 1 ≠ w.heap.size; omega) _) _ _ _ _) Tryd.underlying30 rfl (by kernel_rfl)) rfl ?_
    exact ⟨by first | rfl | (simp [hd]; done), set4_below (below_set GB.out (Nat.le_refl _)) (by omega) _ _ _ _⟩
section
variable {w w2 : World} {a b a' b' : Value} {t t' g : Nat}
end
theorem drawn_b {w w' : World} (h : Drawn0 w w') : Below w.heap.size w w' := by
  obtain ⟨n, rfl⟩ := h
  exact pw_below_drewN (Below.refl _ _) n
end Go.Proofs.YtbpmgaaipkenkaaDoor
end
section
namespace Go.Proofs.YtbpmgaaipkenkaaDoor
open Go Go.RowKit Go.Proofs.YtbpmgaaipkenkaaDoorW.PrintWords Go.Proofs.YtbpmgaaipkenkaaDoorW.PrintLast Go.Proofs.YtbpmgaaipkenkaaDoorW.PrintMore
set_option linter.unusedVariables false
set_option linter.unusedSimpArgs false
attribute [local go_sem ↓] Go.wp_at_zero Go.wp_at_succ
theorem full1 : PMD.limit_Full.f 2 5 0 = some (2, 5, 5, 0) := by kernel_rfl
theorem fill1 : PMD.limit_Fill.f 2 5 5 0 0 = some (2, 5, 5, 0) := by kernel_rfl
theorem fill2 : PMD.limit_Fill.f 2 5 1 0 1 = some (2, 5, 3, 1) := by kernel_rfl
theorem fill3 : PMD.limit_Fill.f 2 5 3 1 2 = some (2, 5, 5, 2) := by kernel_rfl
theorem times1 : PMD.limit_Times.f 9223372036854775808 2 = some 18446744073709551615 := by kernel_rfl
theorem take1_c (W : World) : Calls Tryd.prog 23 #[bk 2 5 5 0, .int .i64 0, .int .u64 4] W fun e w' => e = .returned (.tuple #[bk 2 5 1 0, .bool true]) ∧ Below W.heap.size W w' := by
  have h := take_calls W 2 5 5 0 0 4 2 5 5 0 fill1
  have e1 : (if (5 : Int) < 4 then (5 : Int) else IntKind.u64.wrap (5 - 4)) = 1 := by decide
  have e2 : (!decide ((5 : Int) < 4)) = true := by decide
  rw [e1, e2] at h
  exact h
theorem take2_c (W : World) : Calls Tryd.prog 23 #[bk 2 5 1 0, .int .i64 1, .int .u64 4] W fun e w' => e = .returned (.tuple #[bk 2 5 3 1, .bool false]) ∧ Below W.heap.size W w' := by
  have h := take_calls W 2 5 1 0 1 4 2 5 3 1 fill2
  have e1 : (if (3 : Int) < 4 then (3 : Int) else IntKind.u64.wrap (3 - 4)) = 3 := by decide
  have e2 : (!decide ((3 : Int) < 4)) = false := by decide
  rw [e1, e2] at h
  exact h
theorem take3_c (W : World) : Calls Tryd.prog 23 #[bk 2 5 3 1, .int .i64 2, .int .u64 4] W fun e w' => e = .returned (.tuple #[bk 2 5 1 2, .bool true]) ∧ Below W.heap.size W w' := by
  have h := take_calls W 2 5 3 1 2 4 2 5 5 2 fill3
  have e1 : (if (5 : Int) < 4 then (5 : Int) else IntKind.u64.wrap (5 - 4)) = 1 := by decide
  have e2 : (!decide ((5 : Int) < 4)) = true := by decide
  rw [e1, e2] at h
  exact h
theorem full_c (W : World) : Calls Tryd.prog 17 #[.int .u64 2, .int .u64 5, .int .i64 0] W fun e w' => e = .returned (bk 2 5 5 0) ∧ Below W.heap.size W w' := PMD.limit_Full.calls 2 5 0 2 5 5 0 W full1
theorem times_c (W : World) : Calls Tryd.prog 14 #[.int .u64 9223372036854775808, .int .u64 2] W fun e w' => e = .returned (.int .u64 18446744073709551615) ∧ Below W.heap.size W w' :=
  (PMD.limit_Times.calls 9223372036854775808 2 18446744073709551615 W times1).mono fun e w' h => ⟨h.1, drawn_b h.2⟩
set_option maxRecDepth 20000 in
set_option maxHeartbeats 8000000 in
theorem live_calls (w : World) (hT : Tab w) : Calls Tryd.prog 11 #[] w fun e w' => e = .returned (.bool true) ∧ Below w.heap.size w w' := by
  have HT := Lib.hid (fun (W : World) (hW : Below w.heap.size w W) => Tab_below hT hW)
  clear hT
  go_enter Tryd.func11, Tryd.ntmps11
  go_upto_region 2 with (first
    | (go_at_call 17; (with_reducible refine (full_c w).mono ?_); rintro e w1 ⟨rfl, hB1⟩; have HB1 := Lib.hid hB1; clear hB1)
    | (go_at_call 23; (with_reducible refine (take1_c w1).mono ?_); rintro e w2 ⟨rfl, hB2⟩; have HB2 := Lib.hid (HB1.out.trans (lower_k hB2 HB1.out.size)); clear hB2))
  obtain ⟨pb, hpb⟩ : ∃ p, p = w2.heap.size := ⟨_, rfl⟩
  obtain ⟨W3, hW3⟩ : ∃ W, W = w2.alloc (.cells #[.int .u64 2, .int .u64 5, .int .u64 1, .int .i64 0] 30) := ⟨_, rfl⟩
  have hb3 : W3.heap[pb]? = some (.cells #[.int .u64 2, .int .u64 5, .int .u64 1, .int .i64 0] 30 (0, 0)) := by rw [hW3, hpb]; exact heap_alloc_new w2 _
  have HB3 : Hid (Below w.heap.size w W3) := Lib.hid (by rw [hW3]; exact below_alloc HB2.out _)
  have HPB : Hid (w.heap.size ≤ pb) := Lib.hid (by rw [hpb]; exact HB2.out.size)
  rw [← hW3, ← hpb]
  have Q3 := Lib.hid hb3
  have c0 := cell4_0 hb3
  have c1 := cell4_1 hb3
  have c2 := cell4_2 hb3
  have c3 := cell4_3 hb3
  clear hW3 hpb hb3 HB1 HB2
  go_upto_region 3 with (go_at_call 23; (with_reducible refine (take2_c W3).mono ?_); rintro e w4 ⟨rfl, hB4⟩; have HB4 := Lib.hid hB4; clear hB4)
  clear c0 c1 c2 c3
  obtain ⟨pc, hpc⟩ : ∃ p, p = w4.heap.size := ⟨_, rfl⟩
  obtain ⟨W5, hW5⟩ : ∃ W, W = w4.alloc (.cells #[.int .u64 2, .int .u64 5, .int .u64 3, .int .i64 1] 30) := ⟨_, rfl⟩
  have hc5 : W5.heap[pc]? = some (.cells #[.int .u64 2, .int .u64 5, .int .u64 3, .int .i64 1] 30 (0, 0)) := by rw [hW5, hpc]; exact heap_alloc_new w4 _
  have HB5 : Hid (Below W3.heap.size W3 W5) := Lib.hid (by rw [hW5]; exact below_alloc HB4.out _)
  rw [← hW5, ← hpc]
  have Q5 := Lib.hid hc5
  have c0 := cell4_0 hc5
  have c1 := cell4_1 hc5
  have c2 := cell4_2 hc5
  have c3 := cell4_3 hc5
  clear hW5 hpc hc5 HB4
  go_upto_region 4 with (go_at_call 23; (with_reducible refine (take3_c W5).mono ?_); rintro e w6 ⟨rfl, hB6⟩; have HB6 := Lib.hid hB6; clear hB6)
  clear c0 c1 c2 c3
  obtain ⟨W7, hW7⟩ : ∃ W, W = w6.alloc (.cells #[.int .u64 2, .int .u64 5, .int .u64 1, .int .i64 2] 30) := ⟨_, rfl⟩
  have HB7 : Hid (Below W5.heap.size W5 W7) := Lib.hid (by rw [hW7]; exact below_alloc HB6.out _)
  rw [← hW7]
  clear hW7 HB6
  obtain ⟨Wm, hWm⟩ : ∃ W, W = made W7 := ⟨_, rfl⟩
  obtain ⟨b, hb⟩ : ∃ b, b = W7.heap.size := ⟨_, rfl⟩
  have hnew := new_calls W7
  rw [← hWm, ← hb] at hnew
  have HNEW := Lib.hid hnew
  have HBm : Hid (Below W7.heap.size W7 Wm) := Lib.hid (by rw [hWm]; exact below_alloc (below_alloc (Below.refl _ _) _) _)
  have hbm : Wm.heap[b]? = some (.map #[] 0) := by rw [hWm, hb]; exact (heap_alloc_old _ _ (by rw [World.size_alloc]; omega)).trans (heap_alloc_new W7 _)
  have hgm : Wm.heap[b + 1]? = some (.cells #[.map (some b)] 72 (0, 0)) := by
    rw [hWm, hb]
    have e : W7.heap.size + 1 = (W7.alloc (.map #[] 0)).heap.size := by rw [World.size_alloc]
    unfold made
    rw [e]
    exact heap_alloc_new _ _
  have HBW : Hid (Below w.heap.size w Wm) := Lib.hid (HB3.out.trans (lower_k (HB5.out.trans (lower_k (HB7.out.trans (lower_k HBm.out HB7.out.size)) HB5.out.size)) HB3.out.size))
  have HBN : Hid (w.heap.size ≤ b) := Lib.hid (by rw [hb]; have h1 := HB3.out.size; have h2 := HB5.out.size; have h3 := HB7.out.size; omega)
  have hadm := admit_calls ((Wm.alloc (.cells #[.string sa, .string sx] 66)).alloc (.cells #[.slice (some ⟨Wm.heap.size, 0, none⟩) 1 1] 61)) (HT.out _ (below_alloc (below_alloc HBW.out _) _)) (b + 1) b Wm.heap.size (Wm.heap.size + 1)
    ((heap_alloc_old _ _ (by rw [World.size_alloc]; have := blk_lt hgm; omega)).trans ((heap_alloc_old _ _ (blk_lt hgm)).trans hgm))
    ((heap_alloc_old _ _ (by rw [World.size_alloc]; have := blk_lt hgm; omega)).trans ((heap_alloc_old _ _ (by have := blk_lt hgm; omega)).trans hbm))
    ((heap_alloc_old _ _ (by rw [World.size_alloc]; omega)).trans (heap_alloc_new _ _))
    (by
      have e : Wm.heap.size + 1 = (Wm.alloc (.cells #[.string sa, .string sx] 66)).heap.size := by rw [World.size_alloc]
      rw [e]
      exact heap_alloc_new _ _)
  have HADM := Lib.hid hadm
  have qb := Q3.out
  have qc := Q5.out
  have hb5 := (HB5.out.block pb (blk_lt qb)).trans qb
  have hb7 := (HB7.out.block pb (blk_lt hb5)).trans hb5
  have hbW := (HBm.out.block pb (blk_lt hb7)).trans hb7
  have hc7 := (HB7.out.block pc (blk_lt qc)).trans qc
  have hcW := (HBm.out.block pc (blk_lt hc7)).trans hc7
  have nb : pb ≠ b := by have := blk_lt hb7; omega
  have nc : pc ≠ b := by have := blk_lt hc7; omega
  have KB := Lib.hid hbW
  have KC := Lib.hid hcW
  have NB := Lib.hid (And.intro nb nc)
  clear hnew hadm hWm hb hbm hgm qb qc hb5 hb7 hbW hc7 hcW nb nc
  go_upto_region 8 with (first
    | (go_at_call 27; refine HNEW.out.mono ?_; rintro e w8 ⟨rfl, rfl⟩)
    | (go_at_call 30; refine HADM.out.mono ?_; rintro e w10 ⟨rfl, hM⟩; have HM := Lib.hid hM; clear hM))
  have hm0 := HM.out
  have hbx := below_alloc (below_alloc (Below.refl w8.heap.size w8) (.cells #[.string sa, .string sx] 66)) (.cells #[.slice (some ⟨w8.heap.size, 0, none⟩) 1 1] 61)
  have xb := hm0.blk ((hbx.block pb (blk_lt KB.out)).trans KB.out) (fun h => NB.out.1 h)
  have xc := hm0.blk ((hbx.block pc (blk_lt KC.out)).trans KC.out) (fun h => NB.out.2 h)
  have HBT : Hid (Below w.heap.size w w10) := Lib.hid ((below_alloc (below_alloc HBW.out _) _).trans (hm0.below (below_alloc (below_alloc HBW.out _) _).size (fun k hk => by rw [hk]; exact HBN.out)))
  have c2 := cell4_2 xb
  have d2 := cell4_2 xc
  clear hm0 hbx xb xc HM
  go_wp2_with (go_at_call 14; (with_reducible refine (times_c w10).mono ?_); rintro e w11 ⟨rfl, hB11⟩; have HB11 := Lib.hid (HBT.out.trans (lower_k hB11 HBT.out.size)); clear hB11)
  go_ret
  exact ⟨by first | rfl | (simp; done), HB11.out⟩
end Go.Proofs.YtbpmgaaipkenkaaDoor
end
section
namespace Go.Proofs.YtbpmgaaipkenkaaDoor.PMS
open Go.RowKit Go.Proofs.YtbpmgaaipkenkaaDoorW.PrintWords Go.Proofs.YtbpmgaaipkenkaaDoorW.PrintLast Go.Proofs.YtbpmgaaipkenkaaDoorW.PrintMore
attribute [local go_sem] max2_int min2_int max_two min_two max_three min_three max_four min_four
set_option linter.unusedVariables false
set_option linter.unusedSimpArgs false
mutual
def manometerlaw19_few.l0 : Nat → List (List (S66)) → List (List (S66)) → Int → Int → Option (Bool)
 | 0, _, _, _, _ => none
 | k + 1, x0, x11, x12, x13 => if x13 < x12 then (if 0 ≤ x13 then (if x13 < (x11.length : Int) then (if ((rd_L5 x11 x13).length : Int) > 30 then (some false) else (manometerlaw19_few.l1 k x0 x11 x12 x13 (rd_L5 x11 x13) ((rd_L5 x11 x13).length : Int) 0)) else (none)) else (none)) else (some (decide ((x0.length : Int) ≤ 40)))
def manometerlaw19_few.l1 : Nat → List (List (S66)) → List (List (S66)) → Int → Int → List (S66) → Int → Int → Option (Bool)
 | 0, _, _, _, _, _, _, _ => none
 | k + 1, x0, x11, x12, x13, x20, x21, x22 => if x22 < x21 then (if 0 ≤ x22 then (if x22 < (x20.length : Int) then (if (((rd_T66 x20 x22).f0).size : Int) > 300 then (some false) else (if (((rd_T66 x20 x22).f1).size : Int) > 300 then (some false) else (manometerlaw19_few.l1 k x0 x11 x12 x13 x20 x21 (wrap64 (x22 + 1))))) else (none)) else (none)) else (manometerlaw19_few.l0 k x0 x11 x12 (wrap64 (x13 + 1)))
end
def manometerlaw19_few.f (k : Nat) (l0 : List (List (S66))) : Option (Bool) := if 0 ≤ (mn (l0.length : Int) 40) then (if (mn (l0.length : Int) 40) ≤ (l0.length : Int) then ((some (l0.take ((mn (l0.length : Int) 40) : Int).toNat : List (List (S66)))).bind fun y165 => (manometerlaw19_few.l0 k l0 y165 (y165.length : Int) 0)) else (none)) else (none)
set_option maxHeartbeats 8000000 in
set_option maxRecDepth 100000 in
theorem manometerlaw19_few.calls (k : Nat) (A0 : Option Addr) (c0 : Nat) (l0 : List (List (S66))) (r : Bool) (w : World) (hr0 : Kd.C (Kd.slice 66 k66) w A0 l0.length l0) (hc0 : l0.length ≤ c0) (h : manometerlaw19_few.f k l0 = some r) :
  Calls Tryd.prog 28 #[.slice A0 l0.length c0] w fun e w' => e = .returned (.bool r) ∧ Below w.heap.size w w' := by
 have hu66 := Tryd.underlying66
 have HR0 := Aside0.mk hr0
 have HC0 := Aside0.mk hc0
 clear hr0 hc0
 have HB := Aside0.mk (Below.refl w.heap.size w)
 have H : (if 0 ≤ (mn (l0.length : Int) 40) then (if (mn (l0.length : Int) 40) ≤ (l0.length : Int) then ((some (l0.take ((mn (l0.length : Int) 40) : Int).toNat : List (List (S66)))).bind fun y165 => (manometerlaw19_few.l0 k l0 y165 (y165.length : Int) 0)) else (none)) else (none)) = some r := h
 clear h
 obtain ⟨ji2, hji2⟩ : ∃ j_ : Int, (mn (l0.length : Int) 40) = j_ := ⟨_, rfl⟩
 replace H : (if 0 ≤ (ji2) then (if (ji2) ≤ (l0.length : Int) then ((some (l0.take ((ji2) : Int).toNat : List (List (S66)))).bind fun y165 => (manometerlaw19_few.l0 k l0 y165 (y165.length : Int) 0)) else (none)) else (none)) = some r := by first | (rw [hji2] at H; exact H) | (simp only [hji2] at H ⊢; exact H)
 (try (have hji2h : ji2 ≤ 40 := by (rw [← hji2]; unfold mn; (repeat' split) <;> omega)))
 (try (have hji2g : ji2 ≤ 64 := by omega))
 (try (have hji2l : 0 ≤ ji2 := by (rw [← hji2]; unfold mn; (repeat' split) <;> omega)))
 (try (have hji2m : 0 ≤ ji2 := by omega))
 have hji2_ : (if 40 < (l0.length : Int) then 40 else (l0.length : Int)) = ji2 := hji2
 by_cases c3 : 0 ≤ (ji2)
 ·rw [if_pos c3] at H
  have c3b0 := eq_true c3
  have c3b1 : decide (0 ≤ (ji2)) = true := decide_eq_true c3
  clear c3
  by_cases c4 : (ji2) ≤ (l0.length : Int)
  ·rw [if_pos c4] at H
   have c4b0 := eq_true c4
   have c4b1 : decide ((ji2) ≤ (l0.length : Int)) = true := decide_eq_true c4
   clear c4
   obtain ⟨y165, hy165⟩ : ∃ y_ : List (List (S66)), y_ = (l0.take ((ji2) : Int).toNat) := ⟨_, rfl⟩
   replace H : (manometerlaw19_few.l0 k l0 y165 (y165.length : Int) 0) = some r := by first | (rw [hy165]; with_reducible exact H) | (have H2_ := (Option.bind_some _ _).symm.trans H; rw [hy165]; with_reducible exact H2_) | (have H2_ := (Option.bind_some _ _).symm.trans H; with_reducible exact H2_) | with_reducible exact H | (rw [hy165]; exact H) | exact H
   have Ny165 := Aside0.mk hy165
   clear hy165
   have H' := Aside0.mk H
   clear H
   have q5 : ((ji2) : Int) ≤ ((l0.length : Int) : Int) := of_decide_eq_true y5_
   obtain ⟨i05, hi05, _, hsz5, _⟩ := info_parts info61
   have hroom5 : l0.length ≤ c0 := HC0.out
   have hC5 : Kd.C (Kd.slice 66 k66) _ A0 l0.length l0 := HR0.out
   have hcut5 := cut_to (P := Tryd.prog) 50 61 .i64 Tryd.underlying50 hi05 A0 l0.length c0 (ji2) (of_decide_eq_true y5_) q5 hroom5
   have hr5 := Kd.C_take (m := ((ji2) : Int).toNat) hC5 (by omega)
   have hy5 : y165.length = ((ji2) : Int).toNat := (by rw [Ny165.out, List.length_take]; omega)
   rw [← Ny165.out] at hr5
   rw [← hy5] at hcut5
   have HR168 := Aside0.mk hr5
   have HC168 := Aside0.mk (show y165.length ≤ c0 from by omega)
   clear hr5 hC5 hroom5 hi05 hsz5
   have KY5 := Aside0.mk hy5
   clear hy5
   replace q5 := eq_true q5
   go_enter Tryd.func28, Tryd.ntmps28
   go_wp2
   go_loopg [13] k (fun kq v13 w' => ∃ (x13_1 : Int), v13 = .int .i64 x13_1 ∧ Aside0 (manometerlaw19_few.l0 kq l0 y165 (y165.length : Int) x13_1 = some r) ∧ Aside0 (kq ≤ k) ∧ Aside0 (Below w.heap.size w w'))
   case atStart => exact ⟨(0), y7_, H', ⟨Nat.le_refl _⟩, ⟨y1_⟩⟩
   case round =>
    clear H'
    try clear c2
    try clear p2
    try clear c3
    try clear c3b0
    try clear c3b1
    try clear c4
    try clear c4b0
    try clear c4b1
    try clear q5
    try clear q5
    obtain ⟨x13_1, rfl, HA, HK1, HB⟩ := hrel
    cases gk with
    | zero => exact absurd HA.out (by simp [manometerlaw19_few.l0])
    | succ k1 =>
     have H := HA.out
     clear HA
     simp only [manometerlaw19_few.l0] at H
     by_cases c6 : x13_1 < (y165.length : Int)
     ·rw [if_pos c6] at H
      have c6b0 : decide (x13_1 < (y165.length : Int)) = true := decide_eq_true c6
      clear c6
      by_cases c7 : 0 ≤ x13_1
      ·rw [if_pos c7] at H
       have c7b0 : decide (0 ≤ x13_1) = true := decide_eq_true c7
       clear c7
       by_cases c8 : x13_1 < (y165.length : Int)
       ·rw [if_pos c8] at H
        have c8b0 : decide (x13_1 < (y165.length : Int)) = true := decide_eq_true c8
        clear c8
        by_cases c9 : ((rd_L5 y165 x13_1).length : Int) > 30
        ·rw [if_pos c9] at H
         have c9b0 : decide (30 < ((rd_L5 y165 x13_1).length : Int)) = true := decide_eq_true c9
         have c9b1 : decide (30 < (rd_L5 y165 x13_1).length) = true := decide_eq_true (by omega)
         clear c9
         obtain rfl := Option.some.inj H
         have p169 : 0 ≤ (x13_1 : Int) := of_decide_eq_true y5_
         have q169 : x13_1 < (y165.length : Int) := of_decide_eq_true y5_
         obtain ⟨ad169, A169_0, c169_0, e169, hx169_0, hl169_0, hi169_0⟩ := at_L5 HR168.out x13_1 p169 q169
         cases e169
         replace hx169_0 := (HB.out.cell (World.block_lt_of_cell? w _ hx169_0)).trans hx169_0
         have HR169_0 := Aside0.mk hi169_0
         have HC169_0 := Aside0.mk hl169_0
         clear hi169_0 hl169_0
         replace p169 := eq_true p169
         replace q169 := eq_true q169
         go_wp2
         go_ret
         exact ⟨y27_, y1_⟩
        ·rw [if_neg c9] at H
         have c9b0 : decide (30 < ((rd_L5 y165 x13_1).length : Int)) = false := decide_eq_false c9
         have c9b1 : decide (30 < (rd_L5 y165 x13_1).length) = false := decide_eq_false (by omega)
         clear c9
         have H' := Aside0.mk H
         clear H
         have p169 : 0 ≤ (x13_1 : Int) := of_decide_eq_true y5_
         have q169 : x13_1 < (y165.length : Int) := of_decide_eq_true y5_
         obtain ⟨ad169, A169_0, c169_0, e169, hx169_0, hl169_0, hi169_0⟩ := at_L5 HR168.out x13_1 p169 q169
         cases e169
         replace hx169_0 := (HB.out.cell (World.block_lt_of_cell? w _ hx169_0)).trans hx169_0
         have HR169_0 := Aside0.mk hi169_0
         have HC169_0 := Aside0.mk hl169_0
         clear hi169_0 hl169_0
         replace p169 := eq_true p169
         replace q169 := eq_true q169
         go_wp2
         go_loopg [22] k1 (fun kq v22 w' => ∃ (x22_2 : Int), v22 = .int .i64 x22_2 ∧ Aside0 (manometerlaw19_few.l1 kq l0 y165 (y165.length : Int) x13_1 (rd_L5 y165 x13_1) ((rd_L5 y165 x13_1).length : Int) x22_2 = some r) ∧ Aside0 (kq ≤ k1) ∧ Aside0 (Below w.heap.size w w'))
         case atStart => exact ⟨(0), y7_, H', ⟨Nat.le_refl _⟩, ⟨y1_⟩⟩
         case round =>
          clear H'
          try clear c1
          try clear p1
          try clear q1
          try clear hx1
          try clear c2
          try clear p2
          try clear c3
          try clear c3b0
          try clear c3b1
          try clear c4
          try clear c4b0
          try clear c4b1
          try clear q5
          try clear c6
          try clear c6b0
          try clear c7
          try clear c7b0
          try clear c8
          try clear c8b0
          try clear c9
          try clear c9b0
          try clear c9b1
          try clear hx169_0
          try clear p169
          try clear p2
          try clear q169
          try clear q5
          obtain ⟨x22_2, rfl, HA, HK2, HB⟩ := hrel
          cases gk with
          | zero => exact absurd HA.out (by simp [manometerlaw19_few.l1])
          | succ k2 =>
           have H := HA.out
           clear HA
           simp only [manometerlaw19_few.l1] at H
           by_cases c10 : x22_2 < ((rd_L5 y165 x13_1).length : Int)
           ·rw [if_pos c10] at H
            have c10b0 : decide (x22_2 < ((rd_L5 y165 x13_1).length : Int)) = true := decide_eq_true c10
            clear c10
            by_cases c11 : 0 ≤ x22_2
            ·rw [if_pos c11] at H
             have c11b0 : decide (0 ≤ x22_2) = true := decide_eq_true c11
             clear c11
             by_cases c12 : x22_2 < ((rd_L5 y165 x13_1).length : Int)
             ·rw [if_pos c12] at H
              have c12b0 : decide (x22_2 < ((rd_L5 y165 x13_1).length : Int)) = true := decide_eq_true c12
              clear c12
              by_cases c13 : (((rd_T66 (rd_L5 y165 x13_1) x22_2).f0).size : Int) > 300
              ·rw [if_pos c13] at H
               have c13b0 : decide (300 < (((rd_T66 (rd_L5 y165 x13_1) x22_2).f0).size : Int)) = true := decide_eq_true c13
               have c13b1 : decide (300 < ((rd_T66 (rd_L5 y165 x13_1) x22_2).f0).size) = true := decide_eq_true (by omega)
               clear c13
               obtain rfl := Option.some.inj H
               have p170 : 0 ≤ (x22_2 : Int) := of_decide_eq_true y5_
               have q170 : x22_2 < ((rd_L5 y165 x13_1).length : Int) := of_decide_eq_true y5_
               obtain ⟨ad170, e170, hx170_0, hx170_1⟩ := at_T66 HR169_0.out x22_2 p170 q170
               cases e170
               replace hx170_0 := (HB.out.cell (World.block_lt_of_cell? w _ hx170_0)).trans hx170_0
               replace hx170_1 := (HB.out.cell (World.block_lt_of_cell? w _ hx170_1)).trans hx170_1
               replace p170 := eq_true p170
               replace q170 := eq_true q170
               go_wp2_with (first | ((with_reducible refine gate_dst (N := 6) rfl ?_); (try (refine gate_guard (by rfl) ?_; dsimp only)); refine box_event ?hg (N := 6) ?hd (cs := #[.string (⟨#[]⟩ : ByteArray), .string (⟨#[]⟩ : ByteArray)]) (t := 66) ?hr ?_; (case hd => rfl); (case hg => rfl); (case hr => first | (go_simp; done) | (go_simp; rfl)); intro gb171 hg w14 hbox hb; have n0_ := Aside0.mk (below_step y1_ hb); have n1_ := Aside0.mk (hbox); have n2_ := Aside0.mk ((y8_ : w.heap.size ≤ gb171)); have n3_ := Aside0.mk ((y8_ : w.heap.size ≤ gb171)); clear HB; have HB := n0_; have BK171 := n1_; have GW171 := n2_; have GE171 := n3_; clear n0_ n1_ n2_ n3_; clear hb hbox hg; have hcz15_0 : w14.cell? ⟨gb171, 0, none⟩ = some (.string (⟨#[]⟩ : ByteArray)) := (blk_cell BK171.out 0).trans rfl; have hcz15_1 : w14.cell? ⟨gb171, 1, none⟩ = some (.string (⟨#[]⟩ : ByteArray)) := (blk_cell BK171.out 1).trans rfl; have hfz15_0 := blk_frozen BK171.out 0; have hfz15_1 := blk_frozen BK171.out 1))
               go_ret
               exact ⟨y27_, y32_⟩
              ·rw [if_neg c13] at H
               have c13b0 : decide (300 < (((rd_T66 (rd_L5 y165 x13_1) x22_2).f0).size : Int)) = false := decide_eq_false c13
               have c13b1 : decide (300 < ((rd_T66 (rd_L5 y165 x13_1) x22_2).f0).size) = false := decide_eq_false (by omega)
               clear c13
               by_cases c16 : (((rd_T66 (rd_L5 y165 x13_1) x22_2).f1).size : Int) > 300
               ·rw [if_pos c16] at H
                have c16b0 : decide (300 < (((rd_T66 (rd_L5 y165 x13_1) x22_2).f1).size : Int)) = true := decide_eq_true c16
                have c16b1 : decide (300 < ((rd_T66 (rd_L5 y165 x13_1) x22_2).f1).size) = true := decide_eq_true (by omega)
                clear c16
                obtain rfl := Option.some.inj H
                have p170 : 0 ≤ (x22_2 : Int) := of_decide_eq_true y5_
                have q170 : x22_2 < ((rd_L5 y165 x13_1).length : Int) := of_decide_eq_true y5_
                obtain ⟨ad170, e170, hx170_0, hx170_1⟩ := at_T66 HR169_0.out x22_2 p170 q170
                cases e170
                replace hx170_0 := (HB.out.cell (World.block_lt_of_cell? w _ hx170_0)).trans hx170_0
                replace hx170_1 := (HB.out.cell (World.block_lt_of_cell? w _ hx170_1)).trans hx170_1
                replace p170 := eq_true p170
                replace q170 := eq_true q170
                go_wp2_with (first | ((with_reducible refine gate_dst (N := 6) rfl ?_); (try (refine gate_guard (by rfl) ?_; dsimp only)); refine box_event ?hg (N := 6) ?hd (cs := #[.string (⟨#[]⟩ : ByteArray), .string (⟨#[]⟩ : ByteArray)]) (t := 66) ?hr ?_; (case hd => rfl); (case hg => rfl); (case hr => first | (go_simp; done) | (go_simp; rfl)); intro gb171 hg w17 hbox hb; have n0_ := Aside0.mk (below_step y1_ hb); have n1_ := Aside0.mk (hbox); have n2_ := Aside0.mk ((y8_ : w.heap.size ≤ gb171)); have n3_ := Aside0.mk ((y8_ : w.heap.size ≤ gb171)); clear HB; have HB := n0_; have BK171 := n1_; have GW171 := n2_; have GE171 := n3_; clear n0_ n1_ n2_ n3_; clear hb hbox hg; have hcz18_0 : w17.cell? ⟨gb171, 0, none⟩ = some (.string (⟨#[]⟩ : ByteArray)) := (blk_cell BK171.out 0).trans rfl; have hcz18_1 : w17.cell? ⟨gb171, 1, none⟩ = some (.string (⟨#[]⟩ : ByteArray)) := (blk_cell BK171.out 1).trans rfl; have hfz18_0 := blk_frozen BK171.out 0; have hfz18_1 := blk_frozen BK171.out 1))
                go_ret
                exact ⟨y27_, y32_⟩
               ·rw [if_neg c16] at H
                have c16b0 : decide (300 < (((rd_T66 (rd_L5 y165 x13_1) x22_2).f1).size : Int)) = false := decide_eq_false c16
                have c16b1 : decide (300 < ((rd_T66 (rd_L5 y165 x13_1) x22_2).f1).size) = false := decide_eq_false (by omega)
                clear c16
                have H' := Aside0.mk H
                clear H
                have p170 : 0 ≤ (x22_2 : Int) := of_decide_eq_true y5_
                have q170 : x22_2 < ((rd_L5 y165 x13_1).length : Int) := of_decide_eq_true y5_
                obtain ⟨ad170, e170, hx170_0, hx170_1⟩ := at_T66 HR169_0.out x22_2 p170 q170
                cases e170
                replace hx170_0 := (HB.out.cell (World.block_lt_of_cell? w _ hx170_0)).trans hx170_0
                replace hx170_1 := (HB.out.cell (World.block_lt_of_cell? w _ hx170_1)).trans hx170_1
                replace p170 := eq_true p170
                replace q170 := eq_true q170
                go_wp2_with (first | ((with_reducible refine gate_dst (N := 6) rfl ?_); (try (refine gate_guard (by rfl) ?_; dsimp only)); refine box_event ?hg (N := 6) ?hd (cs := #[.string (⟨#[]⟩ : ByteArray), .string (⟨#[]⟩ : ByteArray)]) (t := 66) ?hr ?_; (case hd => rfl); (case hg => rfl); (case hr => first | (go_simp; done) | (go_simp; rfl)); intro gb171 hg w19 hbox hb; have n0_ := Aside0.mk (below_step y1_ hb); have n1_ := Aside0.mk (hbox); have n2_ := Aside0.mk ((y8_ : w.heap.size ≤ gb171)); have n3_ := Aside0.mk ((y8_ : w.heap.size ≤ gb171)); clear HB; have HB := n0_; have BK171 := n1_; have GW171 := n2_; have GE171 := n3_; clear n0_ n1_ n2_ n3_; clear hb hbox hg; have hcz20_0 : w19.cell? ⟨gb171, 0, none⟩ = some (.string (⟨#[]⟩ : ByteArray)) := (blk_cell BK171.out 0).trans rfl; have hcz20_1 : w19.cell? ⟨gb171, 1, none⟩ = some (.string (⟨#[]⟩ : ByteArray)) := (blk_cell BK171.out 1).trans rfl; have hfz20_0 := blk_frozen BK171.out 0; have hfz20_1 := blk_frozen BK171.out 1))
                go_roundg k2
                case measure => have := HK1.out; have := HK2.out; omega
                case rel => exact ⟨(wrap64 (x22_2 + 1)), y7_, H', ⟨by have := HK1.out; have := HK2.out; omega⟩, ⟨y32_⟩⟩
             ·rw [if_neg c12] at H
              exact absurd H (by simp)
            ·rw [if_neg c11] at H
             exact absurd H (by simp)
           ·rw [if_neg c10] at H
            have c10b0 : decide (x22_2 < ((rd_L5 y165 x13_1).length : Int)) = false := decide_eq_false c10
            clear c10
            have H' := Aside0.mk H
            clear H
            go_wp2
            go_roundg k2
            case measure => have := HK1.out; have := HK2.out; omega
            case rel => exact ⟨(wrap64 (x13_1 + 1)), y7_, H', ⟨by have := HK1.out; have := HK2.out; omega⟩, ⟨y1_⟩⟩
       ·rw [if_neg c8] at H
        exact absurd H (by simp)
      ·rw [if_neg c7] at H
       exact absurd H (by simp)
     ·rw [if_neg c6] at H
      have c6b0 : decide (x13_1 < (y165.length : Int)) = false := decide_eq_false c6
      clear c6
      obtain rfl := Option.some.inj H
      go_wp2
      go_ret
      exact ⟨y27_, y1_⟩
  ·rw [if_neg c4] at H
   exact absurd H (by simp)
 ·rw [if_neg c3] at H
  exact absurd H (by simp)
end Go.Proofs.YtbpmgaaipkenkaaDoor.PMS
end
section
namespace Go.Proofs.YtbpmgaaipkenkaaDoor
open Go Go.RowKit Go.Proofs.YtbpmgaaipkenkaaDoorW.PrintWords Go.Proofs.YtbpmgaaipkenkaaDoorW.PrintLast Go.Proofs.YtbpmgaaipkenkaaDoorW.PrintMore
set_option linter.unusedVariables false
set_option linter.unusedSimpArgs false
attribute [local go_sem ↓] Go.wp_at_zero Go.wp_at_succ
structure ComeS where
  f0 : List LS
  f1 : Int
  f2 : Bool
def kCome : Kd ComeS := Kd.iso (Kd.pair (Kd.slice 61 kLL) (Kd.pair (Kd.int .i64) Kd.bool)) (fun x : ComeS => (x.f0, x.f1, x.f2))
theorem kCome_open {w : World} {x : ComeS} {cs : List Value} (h : kCome.K w x cs) : ∃ A c, cs = [.slice A x.f0.length c, .int .i64 x.f1, .bool x.f2] ∧ x.f0.length ≤ c ∧ kLL.C w A x.f0.length x.f0 := by
  obtain ⟨c1, c2, rfl, ⟨A, c, rfl, h1, h2⟩, c3, c4, rfl, h3, h4⟩ := h
  have h3' : c3 = [.int .i64 x.f1] := h3
  have h4' : c4 = [.bool x.f2] := h4
  subst h3'
  subst h4'
  exact ⟨A, c, rfl, h1, h2⟩
theorem come_at {W : World} {A : Option Addr} {xs : List ComeS} (h : kCome.C W A xs.length xs) (z : ComeS) {i : Nat} (hi : i < xs.length) :
    ∃ ad LA LC, A = some ad ∧ W.cell? (ad.add (i * 3)) = some (.slice LA (xs.getD i z).f0.length LC) ∧ W.cell? ⟨(ad.add (i * 3)).block, (ad.add (i * 3)).off + 1, none⟩ = some (.int .i64 (xs.getD i z).f1) ∧ W.cell? ⟨(ad.add (i * 3)).block, (ad.add (i * 3)).off + 2, none⟩ = some (.bool (xs.getD i z).f2) ∧
      (xs.getD i z).f0.length ≤ LC ∧ kLL.C W LA (xs.getD i z).f0.length (xs.getD i z).f0 := by
  obtain ⟨ad, c, e, hl, hK, hcell⟩ := Kd.C_get h z (i : Int) (by omega) (by omega)
  rw [Int.toNat_natCast] at hK hcell
  obtain ⟨LA, LC, rfl, h1, h2⟩ := kCome_open hK
  have hc : ∀ j u, ([.slice LA (xs.getD i z).f0.length LC, .int .i64 (xs.getD i z).f1, .bool (xs.getD i z).f2] : List Value)[j]? = some u → W.cell? (ad.add (i * 3 + j)) = some u := hcell
  exact ⟨ad, LA, LC, e, hc 0 _ rfl, by rw [← add_field _ _ 1 (by omega)]; exact hc 1 _ rfl, by rw [← add_field _ _ 2 (by omega)]; exact hc 2 _ rfl, h1, h2⟩
theorem len_g (w : World) (g b : Nat) (l : List PV) (hg : w.heap[g]? = some (.cells #[.map (some b)] 72 (0, 0))) (hb : SM w b l) :
    Calls Tryd.prog 29 #[.pointer (some ⟨g, 0, none⟩)] w fun e w' => e = .returned (.int .i64 (l.length : Int)) ∧ Below w.heap.size w w' := by
  have HG := Lib.hid (fun (W : World) (hW : Below w.heap.size w W) => (hW.block g (blk_lt hg)).trans hg)
  have HB := Lib.hid (fun (W : World) (hW : Below w.heap.size w W) => hb.below hW)
  clear hg hb
  go_enter Tryd.func29, Tryd.ntmps29
  go_wp2_with (go_at_call 39; (with_reducible refine (ok_calls w g b (HG.out w (Below.refl _ w))).mono ?_); rintro e w1 ⟨rfl, hD⟩; have HB1 := Lib.hid (below_dr hD); clear hD; have hgc : w1.cell? ⟨g, 0, none⟩ = some (.map (some b)) := (blk_cell (HG.out w1 HB1.out) 0).trans rfl; have hl := len_sm w1 b l 3 (HB.out w1 HB1.out))
  go_ret
  exact ⟨rfl, HB1.out⟩
theorem firstBad_zero {rt : LS → Int} : ∀ {xs : List LS}, (∀ x ∈ xs, rt x = 0) → firstBad rt xs = 0
  | [], _ => rfl
  | x :: l, h => by
    simp only [firstBad, if_pos (h x (by simp))]
    exact firstBad_zero (fun y hy => h y (by simp [hy]))
theorem freshK_none {nm : LS → ByteArray} {old : List ByteArray} : ∀ {xs : List LS}, (∀ x ∈ xs, nm x ∈ old) → freshK nm old xs = []
  | [], _ => rfl
  | x :: l, h => by
    unfold freshK
    rw [List.foldl_cons, addK_in (.inl (h x (by simp)))]
    exact freshK_none (fun y hy => h y (by simp [hy]))
theorem Adm.nothing {rt : LS → Int} {nm : LS → ByteArray} {l l' : List PV} {xs : List LS} {most n er : Int} (h : Adm rt nm l xs most n er l') (h1 : ∀ x ∈ xs, rt x = 0) (h2 : ∀ x ∈ xs, nm x ∈ l.map (·.1)) : n = 0 ∧ er = 0 ∧ l' = l := by
  have e1 := firstBad_zero h1
  have e2 := freshK_none h2
  rcases h with h | h | h | h
  · exact absurd e1 h.1
  · exact h.2.2
  · exact absurd e2 h.2.1
  · exact absurd e2 h.2.1
theorem Adm.sum {rt : LS → Int} {nm : LS → ByteArray} {l l' : List PV} {xs : List LS} {most n er : Int} (h : Adm rt nm l xs most n er l') : 0 ≤ n ∧ n ≤ xs.length ∧ (l'.length : Int) = l.length + n ∧ ((l'.length : Int) ≤ l.length ∨ (l'.length : Int) ≤ most) ∧ (er = 0 ∨ n = 0) := by
  rcases h with ⟨_, rfl, _, rfl⟩ | ⟨_, _, rfl, _, rfl⟩ | ⟨_, _, _, rfl, _, rfl⟩ | ⟨_, _, h1, h2, h3, h4, h5⟩
  · refine ⟨by omega, by omega, by omega, .inl (by omega), .inr rfl⟩
  · refine ⟨by omega, by omega, by omega, .inl (by omega), .inr rfl⟩
  · refine ⟨by omega, by omega, by omega, .inl (by omega), .inr rfl⟩
  · have h6 := h5.length_eq
    have h7 := freshK_len nm (l.map (·.1)) xs []
    rw [List.length_nil] at h7
    rw [List.length_map, List.length_append, List.length_map] at h6
    unfold freshK at *
    exact ⟨by omega, by omega, by omega, .inr (by omega), .inl h4⟩
theorem rows_of {w : World} {base : Nat} {A : Option Addr} {n c : Nat} {ss : List (SL × LS)} (h : kV.R 61 w base (fun _ => True) (.slice A n c) (ss.map (fun y : SL × LS => y.1))) (ht : ∀ q ∈ ss, Rd w q) :
    n = (ss.map (fun y : SL × LS => y.2)).length ∧ n ≤ c ∧ kLL.C w A (ss.map (fun y : SL × LS => y.2)).length (ss.map (fun y : SL × LS => y.2)) := by
  obtain ⟨A2, c2, e, h1, h2, h3, h4⟩ := Kd.R_reads h
  obtain ⟨rfl, rfl, rfl⟩ := Value.slice.inj e
  refine ⟨by rw [List.length_map, List.length_map], h1, rfl, by rw [List.length_map] at h3 ⊢; exact h3, fun hn => ?_⟩
  rw [List.length_map] at hn
  obtain ⟨ad, hA, hcs⟩ := h4 (by rw [List.length_map]; exact hn)
  refine ⟨ad, hA, fun j x hj => ?_⟩
  rw [List.getElem?_map] at hj
  obtain ⟨q, hq, rfl⟩ := Option.map_eq_some_iff.1 hj
  obtain ⟨cs, hl, hM, hcell⟩ := hcs j q.1 (by rw [List.getElem?_map, hq]; rfl)
  have hM' : cs = [encS q.1] := hM
  subst hM'
  have hr := ht q (List.mem_of_getElem? hq)
  refine ⟨_, rfl, ⟨q.1.1, q.1.2.2, ?_, hr.le, hr.C⟩, hcell⟩
  rw [← hr.len]
end Go.Proofs.YtbpmgaaipkenkaaDoor
end
section
namespace Go.Proofs.YtbpmgaaipkenkaaDoor
open Go Go.RowKit Go.Proofs.YtbpmgaaipkenkaaDoorW.PrintWords Go.Proofs.YtbpmgaaipkenkaaDoorW.PrintLast Go.Proofs.YtbpmgaaipkenkaaDoorW.PrintMore
set_option linter.unusedVariables false
set_option linter.unusedSimpArgs false
attribute [local go_sem ↓] Go.wp_at_zero Go.wp_at_succ
structure Facts (rt : LS → Int) (nm : LS → ByteArray) (cmp : LS → LS → Int) : Prop where
  few : ∀ L : List LS, ∃ r, (∃ k, PMS.manometerlaw19_few.f k L = some r) ∧ (r = true → L.length ≤ 40 ∧ ∀ x ∈ L, x.length < 4398046511104 ∧ (∃ k, PMS.labels_Right.f k x = some (rt x)) ∧ (rt x = 0 → ∃ k, PMS.labels_Print.f k x = some (nm x)))
  ok : ∀ x : LS, rt x = 0 → x.length < 4398046511104 ∧ (∃ k, PMS.labels_Right.f k x = some (rt x)) ∧ (rt x = 0 → ∃ k, PMS.labels_Print.f k x = some (nm x))
  cmp : ∀ x y : LS, rt x = 0 → rt y = 0 → ∃ k, PMS.labels_Compare.f k x y = some (cmp x y)
structure Ser (rt : LS → Int) (nm : LS → ByteArray) (w wr : World) (g b : Nat) (l : List PV) : Prop where
  B : Below w.heap.size w wr
  G : wr.heap[g]? = some (.cells #[.map (some b)] 72 (0, 0))
  M : SM wr b l
  E : ∀ p ∈ l, Ent rt nm wr p
  b0 : w.heap.size ≤ b
theorem Ser.gb {rt : LS → Int} {nm : LS → ByteArray} {w wr : World} {g b : Nat} {l : List PV} (h : Ser rt nm w wr g b l) : g ≠ b := by
  intro e
  obtain ⟨es, c0, h1, _⟩ := h.M
  have h2 := h.G
  rw [e, h1] at h2
  cases h2
theorem Ser.below {rt : LS → Int} {nm : LS → ByteArray} {w wr w' : World} {g b : Nat} {l : List PV} (h : Ser rt nm w wr g b l) (hb : Below wr.heap.size wr w') : Ser rt nm w w' g b l :=
  ⟨h.B.trans (lower_m hb h.B.size), (hb.block g (blk_lt h.G)).trans h.G, h.M.below hb, fun p hp => (h.E p hp).ck (CK.below hb), h.b0⟩
theorem Ser.alloc {rt : LS → Int} {nm : LS → ByteArray} {w wr : World} {g b : Nat} {l : List PV} (h : Ser rt nm w wr g b l) (o : Obj) : Ser rt nm w (wr.alloc o) g b l := h.below (below_alloc (Below.refl _ _) o)
theorem Ser.mod {rt : LS → Int} {nm : LS → ByteArray} {w wr w' : World} {g b : Nat} {l l' : List PV} (h : Ser rt nm w wr g b l) (hm : Mod (fun k => k = b) wr w') (hs : SM w' b l') (he : ∀ p ∈ l', Ent rt nm w' p) : Ser rt nm w w' g b l' :=
  ⟨h.B.trans (hm.below h.B.size (fun k hk => by rw [hk]; exact h.b0)), (hm.block g (blk_lt h.G) h.gb).trans h.G, hs, he, h.b0⟩
theorem few_g (W : World) (A : Option Addr) (c : Nat) (L : List LS) (r : Bool) (hC : kLL.C W A L.length L) (hc : L.length ≤ c) (h : ∃ k, PMS.manometerlaw19_few.f k L = some r) :
    Calls Tryd.prog 28 #[.slice A L.length c] W fun e w' => e = .returned (.bool r) ∧ Below W.heap.size W w' := by
  obtain ⟨k, h⟩ := h
  exact PMS.manometerlaw19_few.calls k A c L r W hC hc h
theorem admit_s (rt : LS → Int) (nm : LS → ByteArray) (w W : World) (hT : Tab W) (g b : Nat) (l : List PV) (A : Option Addr) (c n0 : Nat) (xs : List LS) (most : Int) (h : Ser rt nm w W g b l) (hn : n0 = xs.length) (hC : kLL.C W A xs.length xs)
    (hxl : xs.length ≤ 1000000) (hll : l.length ≤ 1000000) (hm0 : -9223372036854775808 ≤ most) (hm1 : most ≤ 9223372036854775807)
    (hrt : ∀ x ∈ xs, x.length < 4398046511104 ∧ (∃ k, PMS.labels_Right.f k x = some (rt x)) ∧ (rt x = 0 → ∃ k, PMS.labels_Print.f k x = some (nm x))) :
    Calls Tryd.prog 30 #[.pointer (some ⟨g, 0, none⟩), .slice A n0 c, .int .i64 most] W fun e w' =>
      ∃ (n er : Int) (l' : List PV), e = .returned (.tuple #[.int .i64 n, .int .i64 er]) ∧ Adm rt nm l xs most n er l' ∧ Ser rt nm w w' g b l' := by
  subst hn
  refine (admit_gen W hT rt nm g b l A c xs most h.G h.M h.E hC hxl hll hm0 hm1 hrt).mono ?_
  rintro e w' ⟨n, er, l', rfl, h1, h2, h3, h4⟩
  exact ⟨n, er, l', rfl, h1, h.mod h4 h2 h3⟩
set_option maxRecDepth 20000 in
set_option maxHeartbeats 8000000 in
theorem limitNever_calls (w : World) (hT : Tab w) (rt : LS → Int) (nm : LS → ByteArray) (cmp : LS → LS → Int) (hF : Facts rt nm cmp) (A : Option Addr) (c : Nat) (xs : List ComeS) (hC : kCome.C w A xs.length xs) (hw : ∀ x ∈ xs, -9223372036854775808 ≤ x.f1 ∧ x.f1 ≤ 9223372036854775807) :
    Calls Tryd.prog 8 #[.slice A xs.length c] w fun e w' => e = .returned (.bool true) ∧ Below w.heap.size w w' := by
  have HT := Lib.hid (fun (W : World) (hW : Below w.heap.size w W) => Tab_below hT hW)
  have HX := Lib.hid (fun (W : World) (hW : Below w.heap.size w W) (i : Nat) (hi : i < xs.length) => come_at (Kd.C_below hC hW) (⟨[], 0, false⟩ : ComeS) hi)
  have HF := Lib.hid hF
  have HW := Lib.hid hw
  clear hT hC hF hw
  go_enter Tryd.func8, Tryd.ntmps8
  go_upto_region 2 with (go_at_call 27; (with_reducible refine (new_calls w).mono ?_); rintro e w1 ⟨rfl, hw1⟩; have HW1 := Lib.hid hw1; clear hw1)
  have hw1 := HW1.out
  clear HW1
  obtain ⟨b, hb⟩ : ∃ b, b = w.heap.size := ⟨_, rfl⟩
  obtain ⟨g, hg⟩ : ∃ g, g = w.heap.size + 1 := ⟨_, rfl⟩
  have HS1 : Hid (Ser rt nm w w1 g b []) := Lib.hid (by
    have h0 : (w.alloc (.map #[] 0)).heap[w.heap.size]? = some (.map #[] 0) := heap_alloc_new w _
    have hB0 : Below w.heap.size w (w.alloc (.map #[] 0)) := below_alloc (Below.refl _ _) _
    have hB1 : Below (w.alloc (.map #[] 0)).heap.size (w.alloc (.map #[] 0)) w1 := by rw [hw1]; exact below_alloc (Below.refl _ _) _
    refine ⟨hB0.trans (lower_m hB1 hB0.size), ?_, ?_, fun p hp => by simp at hp, by rw [hb]; exact Nat.le_refl _⟩
    · have h1 := heap_alloc_new (w.alloc (.map #[] 0)) (.cells #[.map (some w.heap.size)] 72)
      rw [hg, hb, hw1]
      simpa [made] using h1
    · refine SM.below (SM.empty (c := 0) ?_) hB1
      rw [hb]
      exact h0)
  rw [← hg]
  clear hw1 hb hg
  by_cases hlen : xs.length ≤ 30
  · go_upto_region 6 with (go_at_call 11; go_loud (with_reducible refine (live_calls w1 (HT.out w1 HS1.out.B)).mono ?_); rintro e w2 ⟨rfl, hB2⟩; have HS2 := Lib.hid (HS1.out.below hB2); clear hB2)
    clear HS1
    go_loopg [4, 27] xs.length (fun kq s4 s27 wr => ∃ (i : Nat) (mo : Int) (l : List PV), i + kq = xs.length ∧ s27 = .int .i64 (i : Int) ∧ s4 = .int .i64 mo ∧ 0 ≤ mo ∧ mo ≤ 9223372036854775807 ∧ l.length ≤ 40 * i ∧ (l.length : Int) ≤ mo ∧ Hid (Ser rt nm w wr g b l))
    case atStart => exact ⟨0, 0, [], by omega, rfl, rfl, by omega, by omega, Nat.zero_le _, by simp, HS2.out⟩
    case round =>
      obtain ⟨i, mo, l, hi, rfl, rfl, hmo0, hmo1, hl40, hlm, HS⟩ := hrel
      by_cases hlt : i < xs.length
      · obtain ⟨ad, LA, LC, hA, hc0, hc1, hc2, hLC, hLR⟩ := HX.out wr HS.out.B i hlt
        subst hA
        obtain ⟨x, hx⟩ : ∃ x, x = xs.getD i (⟨[], 0, false⟩ : ComeS) := ⟨_, rfl⟩
        rw [← hx] at hc0 hc1 hc2 hLC hLR
        have hxm : x ∈ xs := by
          rw [hx, List.getD_eq_getElem?_getD, List.getElem?_eq_getElem hlt]
          exact List.getElem_mem hlt
        have hwx := HW.out x hxm
        obtain ⟨r, hfr, hfb⟩ := HF.out.few x.f0
        obtain ⟨L, M, cl⟩ := x
        have HL := Lib.hid (And.intro hLC (And.intro hLR (And.intro hfr hfb)))
        clear hx hxm hLC hLR hfr hfb
        simp only at hc0 hc1 hc2 hwx
        go_upto_region 8 with fail
        obtain ⟨gc, hgc⟩ : ∃ gc, gc = wr.heap.size := ⟨_, rfl⟩
        obtain ⟨W7, hW7⟩ : ∃ W7, W7 = wr.alloc (.cells #[.slice LA L.length LC, .int .i64 M, .bool cl] 52) := ⟨_, rfl⟩
        have h7 : W7.heap[gc]? = some (.cells #[.slice LA L.length LC, .int .i64 M, .bool cl] 52 (0, 0)) := by rw [hW7, hgc]; exact heap_alloc_new wr _
        have HB7 : Hid (Below wr.heap.size wr W7) := Lib.hid (by rw [hW7]; exact below_alloc (Below.refl _ _) _)
        have HS7 := Lib.hid (HS.out.below HB7.out)
        have HC7 := Lib.hid (Kd.C_below HL.out.2.1 HB7.out)
        have H7 := Lib.hid h7
        rw [← hW7, ← hgc]
        have q0 : W7.cell? ⟨gc, 0, none⟩ = some (.slice LA L.length LC) := (blk_cell h7 0).trans rfl
        clear hW7 hgc hc0 hc1 hc2 h7 HB7 HS
        rcases r with _ | _
        · go_wp2_with (go_at_call 28; (with_reducible refine (few_g W7 LA LC L false HC7.out HL.out.1 HL.out.2.2.1).mono ?_); rintro e w8 ⟨rfl, hB8⟩; have HS8 := Lib.hid (HS7.out.below hB8); clear hB8)
          go_ret
          exact ⟨rfl, HS8.out.B⟩
        · obtain ⟨hL40, hLx⟩ := HL.out.2.2.2 rfl
          have HLX := Lib.hid hLx
          clear hLx
          obtain ⟨N, hN⟩ : ∃ N : Int, N = (l.length : Int) := ⟨_, rfl⟩
          have hll : l.length ≤ 1000000 := by omega
          have HLL := Lib.hid hll
          have HN := Lib.hid hN
          rw [← hN] at hlm
          clear hN hll
          obtain ⟨m1, m2⟩ := hwx
          go_upto_region 13 with (first
            | (go_at_call 28; (with_reducible refine (few_g W7 LA LC L true HC7.out HL.out.1 HL.out.2.2.1).mono ?_); rintro e w8 ⟨rfl, hB8⟩; have HS8 := Lib.hid (HS7.out.below hB8); have HC8 := Lib.hid (Kd.C_below HC7.out hB8); have h8 := (hB8.block gc (blk_lt H7.out)).trans H7.out; have H8 := Lib.hid h8; have q81 : w8.cell? ⟨gc, 1, none⟩ = some (.int .i64 M) := (blk_cell h8 1).trans rfl; clear hB8 h8)
            | (go_at_call 29; (with_reducible refine (len_g w8 g b l HS8.out.G HS8.out.M).mono ?_); rintro e w9 ⟨rfl, hB9⟩; rw [← HN.out]; have HS9 := Lib.hid (HS8.out.below hB9); have HC9 := Lib.hid (Kd.C_below HC8.out hB9); have h9 := (hB9.block gc (blk_lt H8.out)).trans H8.out; have q90 : w9.cell? ⟨gc, 0, none⟩ = some (.slice LA L.length LC) := (blk_cell h9 0).trans rfl; have q91 : w9.cell? ⟨gc, 1, none⟩ = some (.int .i64 M) := (blk_cell h9 1).trans rfl; clear hB9 h9)
            | (go_at_call 30; go_loud (with_reducible refine (admit_s rt nm w w9 (HT.out w9 HS9.out.B) g b l LA LC L.length L M HS9.out rfl HC9.out (by omega) HLL.out m1 m2 HLX.out).mono ?_); rintro e w10 ⟨n, er, l', rfl, hAdm, hS10⟩; have HS10 := Lib.hid hS10; have HAD := Lib.hid hAdm; clear hS10 hAdm))
          obtain ⟨s0, s1, s2, s3, s4⟩ := HAD.out.sum
          obtain ⟨mo2, hmo2⟩ : ∃ mo2, mo2 = max mo M := ⟨_, rfl⟩
          rw [← hmo2]
          obtain ⟨N2, hN2⟩ : ∃ N2 : Int, N2 = (l'.length : Int) := ⟨_, rfl⟩
          have HN2 := Lib.hid hN2
          have hmoa : mo ≤ mo2 ∧ M ≤ mo2 ∧ mo2 ≤ 9223372036854775807 := by omega
          have hN1 := HN.out
          have hsum : N + n = N2 := by omega
          have hsw : IntKind.i64.wrap (N + n) = N2 := by rw [hsum]; exact IntWalk.i64_in _ (by omega)
          have hle : N2 ≤ mo2 := by omega
          have HL2 : Hid (l'.length ≤ 1000000 ∧ l'.length ≤ 40 * (i + 1) ∧ (l'.length : Int) ≤ mo2) := Lib.hid (by omega)
          clear s1 s2 s3 hN1 hN2 hmo2 hsum q81 q90 q91 q0 hlm hl40 hL40
          rcases s4 with rfl | rfl
          · go_upto_region 15 with (first
              | (go_at_call 29; (with_reducible refine (len_g w10 g b l' HS10.out.G HS10.out.M).mono ?_); rintro e w11 ⟨rfl, hB11⟩; rw [← HN2.out]; have HS11 := Lib.hid (HS10.out.below hB11); clear hB11)
              | (go_at_call 29; (with_reducible refine (len_g w11 g b l' HS11.out.G HS11.out.M).mono ?_); rintro e w12 ⟨rfl, hB12⟩; rw [← HN2.out]; have HS12 := Lib.hid (HS11.out.below hB12); clear hB12))
            go_wp2_with (first
              | (go_at_call 31; go_loud (with_reducible refine (list_calls w12 rt nm cmp g b l' HS12.out.G HS12.out.M HS12.out.E HL2.out.1 (fun x hx => (HF.out.ok x hx).1) HF.out.cmp).mono ?_); rintro e w13 ⟨v, qs, ss, rfl, hss, hnm, hR, hTR, hB13⟩; obtain ⟨AV, cV, hv⟩ := Kd.R_slice hR; rw [List.length_map] at hv; subst hv; have HR13 := Lib.hid (rows_of hR (fun q hq => (hTR q hq).1.rd)); have HSS := Lib.hid (And.intro hss (And.intro hnm hTR)); have HS13 := Lib.hid (HS12.out.below hB13); clear hB13 hR hss hnm hTR)
              | (go_at_call 30; go_loud (with_reducible refine (admit_s rt nm w w13 (HT.out w13 HS13.out.B) g b l' AV cV _ (ss.map (fun y : SL × LS => y.2)) (-1) HS13.out HR13.out.1 HR13.out.2.2 (by
                    rw [HSS.out.1, List.length_map, srt_length]
                    have := HSS.out.2.1.length_eq
                    rw [List.length_map, List.length_map] at this
                    have := HL2.out.1
                    omega) HL2.out.1 (by decide) (by decide) (fun x hx => by
                    obtain ⟨q, hq, rfl⟩ := List.mem_map.1 hx
                    exact HF.out.ok _ (HSS.out.2.2 q hq).2)).mono ?_); rintro e w14 ⟨n2, er2, l3, rfl, hAd2, hS14⟩; obtain ⟨rfl, rfl, rfl⟩ := hAd2.nothing (fun x hx => by
                    obtain ⟨q, hq, rfl⟩ := List.mem_map.1 hx
                    exact (HSS.out.2.2 q hq).2) (fun x hx => by
                    obtain ⟨q, hq, rfl⟩ := List.mem_map.1 hx
                    refine HSS.out.2.1.mem_iff.1 (List.mem_map.2 ⟨q, ?_, rfl⟩)
                    have h3 := (srt_perm cmp qs []).mem_iff.1 (by have h4 := hq; rw [HSS.out.1] at h4; exact h4)
                    simpa using h3); have HS14 := Lib.hid hS14; clear hAd2 hS14))
            go_roundg (gk - 1)
            case measure => omega
            case rel => exact ⟨i + 1, mo2, _, by omega, by go_num, rfl, by omega, by omega, HL2.out.2.1, HL2.out.2.2, HS14.out⟩
          · rw [Int.add_zero] at hsw
            by_cases her : er = 0
            · subst her
              go_upto_region 15 with (first
                | (go_at_call 29; (with_reducible refine (len_g w10 g b l' HS10.out.G HS10.out.M).mono ?_); rintro e w11 ⟨rfl, hB11⟩; rw [← HN2.out]; have HS11 := Lib.hid (HS10.out.below hB11); clear hB11)
                | (go_at_call 29; (with_reducible refine (len_g w11 g b l' HS11.out.G HS11.out.M).mono ?_); rintro e w12 ⟨rfl, hB12⟩; rw [← HN2.out]; have HS12 := Lib.hid (HS11.out.below hB12); clear hB12))
              go_wp2_with (first
                | (go_at_call 31; go_loud (with_reducible refine (list_calls w12 rt nm cmp g b l' HS12.out.G HS12.out.M HS12.out.E HL2.out.1 (fun x hx => (HF.out.ok x hx).1) HF.out.cmp).mono ?_); rintro e w13 ⟨v, qs, ss, rfl, hss, hnm, hR, hTR, hB13⟩; obtain ⟨AV, cV, hv⟩ := Kd.R_slice hR; rw [List.length_map] at hv; subst hv; have HR13 := Lib.hid (rows_of hR (fun q hq => (hTR q hq).1.rd)); have HSS := Lib.hid (And.intro hss (And.intro hnm hTR)); have HS13 := Lib.hid (HS12.out.below hB13); clear hB13 hR hss hnm hTR)
                | (go_at_call 30; go_loud (with_reducible refine (admit_s rt nm w w13 (HT.out w13 HS13.out.B) g b l' AV cV _ (ss.map (fun y : SL × LS => y.2)) (-1) HS13.out HR13.out.1 HR13.out.2.2 (by
                      rw [HSS.out.1, List.length_map, srt_length]
                      have := HSS.out.2.1.length_eq
                      rw [List.length_map, List.length_map] at this
                      have := HL2.out.1
                      omega) HL2.out.1 (by decide) (by decide) (fun x hx => by
                      obtain ⟨q, hq, rfl⟩ := List.mem_map.1 hx
                      exact HF.out.ok _ (HSS.out.2.2 q hq).2)).mono ?_); rintro e w14 ⟨n2, er2, l3, rfl, hAd2, hS14⟩; obtain ⟨rfl, rfl, rfl⟩ := hAd2.nothing (fun x hx => by
                      obtain ⟨q, hq, rfl⟩ := List.mem_map.1 hx
                      exact (HSS.out.2.2 q hq).2) (fun x hx => by
                      obtain ⟨q, hq, rfl⟩ := List.mem_map.1 hx
                      refine HSS.out.2.1.mem_iff.1 (List.mem_map.2 ⟨q, ?_, rfl⟩)
                      have h3 := (srt_perm cmp qs []).mem_iff.1 (by have h4 := hq; rw [HSS.out.1] at h4; exact h4)
                      simpa using h3); have HS14 := Lib.hid hS14; clear hAd2 hS14))
              go_roundg (gk - 1)
              case measure => omega
              case rel => exact ⟨i + 1, mo2, _, by omega, by go_num, rfl, by omega, by omega, HL2.out.2.1, HL2.out.2.2, HS14.out⟩
            · go_upto_region 15 with (first
                | (go_at_call 29; (with_reducible refine (len_g w10 g b l' HS10.out.G HS10.out.M).mono ?_); rintro e w11 ⟨rfl, hB11⟩; rw [← HN2.out]; have HS11 := Lib.hid (HS10.out.below hB11); clear hB11)
                | (go_at_call 29; (with_reducible refine (len_g w11 g b l' HS11.out.G HS11.out.M).mono ?_); rintro e w12 ⟨rfl, hB12⟩; rw [← HN2.out]; have HS12 := Lib.hid (HS11.out.below hB12); clear hB12))
              go_wp2_with (first
                | (go_at_call 31; go_loud (with_reducible refine (list_calls w12 rt nm cmp g b l' HS12.out.G HS12.out.M HS12.out.E HL2.out.1 (fun x hx => (HF.out.ok x hx).1) HF.out.cmp).mono ?_); rintro e w13 ⟨v, qs, ss, rfl, hss, hnm, hR, hTR, hB13⟩; obtain ⟨AV, cV, hv⟩ := Kd.R_slice hR; rw [List.length_map] at hv; subst hv; have HR13 := Lib.hid (rows_of hR (fun q hq => (hTR q hq).1.rd)); have HSS := Lib.hid (And.intro hss (And.intro hnm hTR)); have HS13 := Lib.hid (HS12.out.below hB13); clear hB13 hR hss hnm hTR)
                | (go_at_call 30; go_loud (with_reducible refine (admit_s rt nm w w13 (HT.out w13 HS13.out.B) g b l' AV cV _ (ss.map (fun y : SL × LS => y.2)) (-1) HS13.out HR13.out.1 HR13.out.2.2 (by
                      rw [HSS.out.1, List.length_map, srt_length]
                      have := HSS.out.2.1.length_eq
                      rw [List.length_map, List.length_map] at this
                      have := HL2.out.1
                      omega) HL2.out.1 (by decide) (by decide) (fun x hx => by
                      obtain ⟨q, hq, rfl⟩ := List.mem_map.1 hx
                      exact HF.out.ok _ (HSS.out.2.2 q hq).2)).mono ?_); rintro e w14 ⟨n2, er2, l3, rfl, hAd2, hS14⟩; obtain ⟨rfl, rfl, rfl⟩ := hAd2.nothing (fun x hx => by
                      obtain ⟨q, hq, rfl⟩ := List.mem_map.1 hx
                      exact (HSS.out.2.2 q hq).2) (fun x hx => by
                      obtain ⟨q, hq, rfl⟩ := List.mem_map.1 hx
                      refine HSS.out.2.1.mem_iff.1 (List.mem_map.2 ⟨q, ?_, rfl⟩)
                      have h3 := (srt_perm cmp qs []).mem_iff.1 (by have h4 := hq; rw [HSS.out.1] at h4; exact h4)
                      simpa using h3); have HS14 := Lib.hid hS14; clear hAd2 hS14))
              go_roundg (gk - 1)
              case measure => omega
              case rel => exact ⟨i + 1, mo2, _, by omega, by go_num, rfl, by omega, by omega, HL2.out.2.1, HL2.out.2.2, HS14.out⟩
      · go_wp2
        go_ret
        exact ⟨rfl, HS.out.B⟩
  · go_wp2_with (first
      | (go_at_call 11; go_loud (with_reducible refine (live_calls w1 (HT.out w1 HS1.out.B)).mono ?_); rintro e w2 ⟨rfl, hB2⟩; have HS2 := Lib.hid (HS1.out.below hB2); clear hB2)
      | (go_at_call 11; (with_reducible refine (live_calls w2 (HT.out w2 HS2.out.B)).mono ?_); rintro e w3 ⟨rfl, hB3⟩; have HS3 := Lib.hid (HS2.out.below hB3); clear hB3))
    go_ret
    exact ⟨rfl, HS3.out.B⟩
end Go.Proofs.YtbpmgaaipkenkaaDoor
end
section
namespace Go.Proofs.YtbpmgaaipkenkaaDoor.Pu
open Go Go.RowKit Go.Proofs.YtbpmgaaipkenkaaDoorW.PrintWords Go.Proofs.YtbpmgaaipkenkaaDoorW.PrintLast Go.Proofs.YtbpmgaaipkenkaaDoorW.PrintMore
set_option linter.unusedVariables false
theorem w64 {x : Int} (h0 : -9223372036854775808 ≤ x) (h1 : x ≤ 9223372036854775807) : wrap64 x = x := by unfold wrap64; omega
theorem wn {n : Nat} {x : Int} (h : x = (n : Int)) (hn : n ≤ 9223372036854775807) : wrap64 x = (n : Int) := by
  rw [h]
  exact w64 (by omega) (by omega)
theorem w1 (n : Nat) (h : n ≤ 9000000000000000000) : wrap64 ((n : Int) + 1) = ((n + 1 : Nat) : Int) := wn rfl (by omega)
theorem w2 (n : Nat) (h : n ≤ 9000000000000000000) : wrap64 (((n + 1 : Nat) : Int) + 1) = ((n + 2 : Nat) : Int) := wn (by omega) (by omega)
abbrev Str := List UInt8
def B (s : ByteArray) : Str := s.data.toList
theorem B_length (s : ByteArray) : (B s).length = s.size := data_length s
theorem toList_B (s : ByteArray) : s.toList = B s := ByteArray.toList_eq s
theorem B_inj {a b : ByteArray} (h : B a = B b) : a = b := Go.WideShapes.bytes_inj h
theorem B_mk (a : Array UInt8) : B ⟨a⟩ = a.toList := rfl
theorem bt_B (s : ByteArray) (n : Nat) : bt s (n : Int) = (((B s).getD n 0).toNat : Int) := by
  unfold bt B
  rw [Int.toNat_natCast]
  by_cases h : n < s.size
  · rw [dif_pos h, List.getD_eq_getElem?_getD, List.getElem?_eq_getElem (by rw [data_length]; exact h)]
    simp
    rfl
  · rw [dif_neg h, List.getD_eq_getElem?_getD, List.getElem?_eq_none (by rw [data_length]; omega)]
    rfl
theorem B_append (a b : ByteArray) : B (a ++ b) = B a ++ B b := by
  unfold B
  simp [ByteArray.data_append]
def str (l : Str) : ByteArray := ⟨l.toArray⟩
theorem B_str (l : Str) : B (str l) = l := by simp [B, str]
theorem drop_cons (l : Str) (n : Nat) (h : n < l.length) : l.drop n = l.getD n 0 :: l.drop (n + 1) := by
  rw [List.drop_eq_getElem_cons h, List.getD_eq_getElem?_getD, List.getElem?_eq_getElem h]
  rfl
theorem getD_drop (l : Str) (n i : Nat) : (l.drop n).getD i 0 = l.getD (n + i) 0 := by
  simp [List.getD_eq_getElem?_getD, List.getElem?_drop]
theorem succ_of {k d : Nat} (h : d < k) : ∃ m, k = m + 1 := ⟨k - 1, by omega⟩
theorem Ev.at {α : Type} {g : Nat → Option α} {r : α} (K : Nat) (h : ∀ k, K < k → g k = some r) : Ev g r := ⟨K + 1, fun k hk => h k (by omega)⟩
theorem Ev.add {α : Type} {g : Nat → Option α} {r : α} (h : Ev g r) : Ev (fun k => g (k + 1)) r := by
  obtain ⟨K, h⟩ := h
  exact ⟨K, fun k hk => h (k + 1) (by omega)⟩
end Go.Proofs.YtbpmgaaipkenkaaDoor.Pu
end
section
namespace Go.Proofs.YtbpmgaaipkenkaaDoor.PMS
open Go.RowKit Go.Proofs.YtbpmgaaipkenkaaDoorW.PrintWords Go.Proofs.YtbpmgaaipkenkaaDoorW.PrintLast Go.Proofs.YtbpmgaaipkenkaaDoorW.PrintMore
attribute [local go_sem] max2_int min2_int max_two min_two max_three min_three max_four min_four
set_option linter.unusedVariables false
set_option linter.unusedSimpArgs false
def manometerref05_Letter.f (a0 : Int) : Option (Bool) := if a0 ≥ 97 then (if a0 ≤ 122 then (some true) else (if a0 ≥ 65 then (if a0 ≤ 90 then (some true) else (if a0 ≥ 48 then (if a0 ≤ 57 then (some true) else (some (a0 == 95))) else (some (a0 == 95)))) else (if a0 ≥ 48 then (if a0 ≤ 57 then (some true) else (some (a0 == 95))) else (some (a0 == 95))))) else (if a0 ≥ 65 then (if a0 ≤ 90 then (some true) else (if a0 ≥ 48 then (if a0 ≤ 57 then (some true) else (some (a0 == 95))) else (some (a0 == 95)))) else (if a0 ≥ 48 then (if a0 ≤ 57 then (some true) else (some (a0 == 95))) else (some (a0 == 95))))
def manometerref05_Named.l0 : Nat → ByteArray → Int → Int → Option (Bool)
 | 0, _, _, _ => none
 | k + 1, x0, x5, x6 => if x6 < x5 then (if 0 ≤ x6 then (if x6 < (x0.size : Int) then ((manometerref05_Letter.f (bt x0 x6)).bind fun t146 => (if t146 = true then (manometerref05_Named.l0 k x0 x5 (wrap64 (x6 + 1))) else (some false))) else (none)) else (none)) else (if (x0.size : Int) ≥ 1 then (if (x0.size : Int) ≤ 64 then (if 0 < (x0.size : Int) then (if (bt x0 0) < 48 then (some true) else (some (decide ((bt x0 0) > 57)))) else (none)) else (some false)) else (some false))
def manometerref05_Named.f (k : Nat) (a0 : ByteArray) : Option (Bool) := manometerref05_Named.l0 k a0 (a0.size : Int) 0
def manometerref05_more.l0 : Nat → ByteArray → Int → Int → Int → Option (Bool)
 | 0, _, _, _, _ => none
 | k + 1, x0, x1, x14, x15 => if x15 < x14 then (if 0 ≤ (wrap64 (x1 + x15)) then (if (wrap64 (x1 + x15)) < (x0.size : Int) then (if ((Int.tdiv (bt x0 (wrap64 (x1 + x15))) 64) % 256) = 2 then (manometerref05_more.l0 k x0 x1 x14 (wrap64 (x15 + 1))) else (some false)) else (none)) else (none)) else (some true)
def manometerref05_more.f (k : Nat) (a0 : ByteArray) (a1 : Int) (a2 : Int) : Option (Bool) := if a1 > (wrap64 ((a0.size : Int) - a2)) then (some false) else (manometerref05_more.l0 k a0 a1 a2 0)
end Go.Proofs.YtbpmgaaipkenkaaDoor.PMS
end
section
namespace Go.Proofs.YtbpmgaaipkenkaaDoor.PMS
open Go.RowKit Go.Proofs.YtbpmgaaipkenkaaDoorW.PrintWords Go.Proofs.YtbpmgaaipkenkaaDoorW.PrintLast Go.Proofs.YtbpmgaaipkenkaaDoorW.PrintMore
attribute [local go_sem] max2_int min2_int max_two min_two max_three min_three max_four min_four
set_option linter.unusedVariables false
set_option linter.unusedSimpArgs false
mutual
def manometerref05_step.j0 : Nat → ByteArray → Int → Int → Bool → Option (Int)
 | 0, _, _, _, _ => none
 | k + 1, x0, x1, x5, x14 => if x14 = true then (some 2) else (if x5 ≥ 224 then (if x5 < 240 then ((manometerref05_more.f k x0 (wrap64 (x1 + 1)) 2).bind fun t148 => (manometerref05_step.j1 k x0 x1 x5 t148)) else (manometerref05_step.j1 k x0 x1 x5 false)) else (manometerref05_step.j1 k x0 x1 x5 false))
def manometerref05_step.j1 : Nat → ByteArray → Int → Int → Bool → Option (Int)
 | 0, _, _, _, _ => none
 | k + 1, x0, x1, x5, x27 => if x27 = true then (if 0 ≤ (wrap64 (x1 + 1)) then (if (wrap64 (x1 + 1)) < (x0.size : Int) then (if 0 ≤ (wrap64 (x1 + 2)) then (if (wrap64 (x1 + 2)) < (x0.size : Int) then (if (wrap64 ((wrap64 ((wrap64 ((wrap64 (Int.tmod x5 16)) * 4096)) + (wrap64 ((wrap64 (Int.tmod (bt x0 (wrap64 (x1 + 1))) 64)) * 64)))) + (wrap64 (Int.tmod (bt x0 (wrap64 (x1 + 2))) 64)))) ≥ 2048 then (if (wrap64 ((wrap64 ((wrap64 ((wrap64 (Int.tmod x5 16)) * 4096)) + (wrap64 ((wrap64 (Int.tmod (bt x0 (wrap64 (x1 + 1))) 64)) * 64)))) + (wrap64 (Int.tmod (bt x0 (wrap64 (x1 + 2))) 64)))) < 55296 then (some 3) else (if (wrap64 ((wrap64 ((wrap64 ((wrap64 (Int.tmod x5 16)) * 4096)) + (wrap64 ((wrap64 (Int.tmod (bt x0 (wrap64 (x1 + 1))) 64)) * 64)))) + (wrap64 (Int.tmod (bt x0 (wrap64 (x1 + 2))) 64)))) > 57343 then (some 3) else (some 0))) else (some 0)) else (none)) else (none)) else (none)) else (none)) else (if x5 ≥ 240 then (if x5 < 245 then ((manometerref05_more.f k x0 (wrap64 (x1 + 1)) 3).bind fun t149 => (manometerref05_step.j2 k x0 x1 x5 t149)) else (manometerref05_step.j2 k x0 x1 x5 false)) else (manometerref05_step.j2 k x0 x1 x5 false))
def manometerref05_step.j2 : Nat → ByteArray → Int → Int → Bool → Option (Int)
 | 0, _, _, _, _ => none
 | k + 1, x0, x1, x5, x69 => if x69 = true then (if 0 ≤ (wrap64 (x1 + 1)) then (if (wrap64 (x1 + 1)) < (x0.size : Int) then (if 0 ≤ (wrap64 (x1 + 2)) then (if (wrap64 (x1 + 2)) < (x0.size : Int) then (if 0 ≤ (wrap64 (x1 + 3)) then (if (wrap64 (x1 + 3)) < (x0.size : Int) then (if (wrap64 ((wrap64 ((wrap64 ((wrap64 ((wrap64 (Int.tmod x5 8)) * 262144)) + (wrap64 ((wrap64 (Int.tmod (bt x0 (wrap64 (x1 + 1))) 64)) * 4096)))) + (wrap64 ((wrap64 (Int.tmod (bt x0 (wrap64 (x1 + 2))) 64)) * 64)))) + (wrap64 (Int.tmod (bt x0 (wrap64 (x1 + 3))) 64)))) ≥ 65536 then (if (wrap64 ((wrap64 ((wrap64 ((wrap64 ((wrap64 (Int.tmod x5 8)) * 262144)) + (wrap64 ((wrap64 (Int.tmod (bt x0 (wrap64 (x1 + 1))) 64)) * 4096)))) + (wrap64 ((wrap64 (Int.tmod (bt x0 (wrap64 (x1 + 2))) 64)) * 64)))) + (wrap64 (Int.tmod (bt x0 (wrap64 (x1 + 3))) 64)))) ≤ 1114111 then (some 4) else (some 0)) else (some 0)) else (none)) else (none)) else (none)) else (none)) else (none)) else (none)) else (some 0)
end
def manometerref05_step.f (k : Nat) (a0 : ByteArray) (a1 : Int) : Option (Int) := if 0 ≤ a1 then (if a1 < (a0.size : Int) then (if (bt a0 a1) < 128 then (some 1) else (if (bt a0 a1) ≥ 194 then (if (bt a0 a1) < 224 then ((manometerref05_more.f k a0 (wrap64 (a1 + 1)) 1).bind fun t147 => (manometerref05_step.j0 k a0 a1 (bt a0 a1) t147)) else (manometerref05_step.j0 k a0 a1 (bt a0 a1) false)) else (manometerref05_step.j0 k a0 a1 (bt a0 a1) false))) else (none)) else (none)
def manometerref05_Valid.l0 : Nat → ByteArray → Int → Option (Bool)
 | 0, _, _ => none
 | k + 1, x0, x3 => if x3 < (x0.size : Int) then ((manometerref05_step.f k x0 x3).bind fun t150 => (if t150 = 0 then (some false) else (manometerref05_Valid.l0 k x0 (wrap64 (x3 + t150))))) else (some true)
def manometerref05_Valid.f (k : Nat) (a0 : ByteArray) : Option (Bool) := manometerref05_Valid.l0 k a0 0
def manometerref05_Valued.f (k : Nat) (a0 : ByteArray) : Option (Bool) := if (a0.size : Int) ≤ 128 then ((manometerref05_Valid.f k a0).bind fun t151 => (some t151)) else (some false)
end Go.Proofs.YtbpmgaaipkenkaaDoor.PMS
end
section
namespace Go.Proofs.YtbpmgaaipkenkaaDoor.PMS
open Go.RowKit Go.Proofs.YtbpmgaaipkenkaaDoorW.PrintWords Go.Proofs.YtbpmgaaipkenkaaDoorW.PrintLast Go.Proofs.YtbpmgaaipkenkaaDoorW.PrintMore
attribute [local go_sem] max2_int min2_int max_two min_two max_three min_three max_four min_four
set_option linter.unusedVariables false
set_option linter.unusedSimpArgs false
attribute [local go_sem high] eqA66
mutual
def manometerref05_Right.l0 : Nat → List (S66) → List (S66) → Int → Int → Option (Int)
 | 0, _, _, _, _ => none
 | k + 1, x0, x8, x9, x10 => if x10 < x9 then (if 0 ≤ x10 then (if x10 < (x8.length : Int) then ((manometerref05_Named.f k ((rd_T66 x8 x10).f0)).bind fun t154 => (if t154 = true then ((manometerref05_Valued.f k ((rd_T66 x8 x10).f1)).bind fun t155 => (if t155 = true then (manometerref05_Right.j1 k x0 x10 x8 x9 x10 (((rd_T66 x8 x10).f1).toList == ([] : List UInt8)) ((rd_T66 x8 x10).f0) ((rd_T66 x8 x10).f1)) else (manometerref05_Right.j1 k x0 x10 x8 x9 x10 true ((rd_T66 x8 x10).f0) ((rd_T66 x8 x10).f1)))) else (some 50))) else (none)) else (none)) else (some 0)
def manometerref05_Right.j1 : Nat → List (S66) → Int → List (S66) → Int → Int → Bool → ByteArray → ByteArray → Option (Int)
 | 0, _, _, _, _, _, _, _, _ => none
 | k + 1, x0, x3, x8, x9, x10, x20, x154000, x154001 => if x20 = true then (some 51) else (if x3 > 0 then (if 0 ≤ (wrap64 (x3 - 1)) then (if (wrap64 (x3 - 1)) < (x0.length : Int) then (if (Op.bytesLess x154000.toList (((rd_T66 x0 (wrap64 (x3 - 1))).f0).toList)) = true then (some 53) else (if x154000.toList = ((rd_T66 x0 (wrap64 (x3 - 1))).f0).toList then (some 53) else (manometerref05_Right.l0 k x0 x8 x9 (wrap64 (x10 + 1))))) else (none)) else (none)) else (manometerref05_Right.l0 k x0 x8 x9 (wrap64 (x10 + 1))))
end
def manometerref05_Right.f (k : Nat) (l0 : List (S66)) : Option (Int) := if (l0.length : Int) > 16 then (some 3) else (manometerref05_Right.l0 k l0 l0 (l0.length : Int) 0)
def manometerref05_text.f (a0 : ByteArray) (a1 : ByteArray) : Option (Int) := if (Op.bytesLess a0.toList a1.toList) = true then (some (-1)) else (if (Op.bytesLess a1.toList a0.toList) = true then (some 1) else (some 0))
def manometerref05_Compare.l0 : Nat → List (S66) → List (S66) → Int → Int → Option (Int)
 | 0, _, _, _, _ => none
 | k + 1, x0, x1, x12, x13 => if x13 < x12 then (if 0 ≤ x13 then (if x13 < (x0.length : Int) then (if x13 < (x1.length : Int) then ((manometerref05_text.f ((rd_T66 x0 x13).f0) ((rd_T66 x1 x13).f0)).bind fun t161 => (if t161 = 0 then ((manometerref05_text.f ((rd_T66 x0 x13).f1) ((rd_T66 x1 x13).f1)).bind fun t164 => (if t164 = 0 then (manometerref05_Compare.l0 k x0 x1 x12 (wrap64 (x13 + 1))) else (some t164))) else (some t161))) else (none)) else (none)) else (none)) else (if (x0.length : Int) < (x1.length : Int) then (some (-1)) else (if (x0.length : Int) > (x1.length : Int) then (some 1) else (some 0)))
def manometerref05_Compare.f (k : Nat) (l0 : List (S66)) (l1 : List (S66)) : Option (Int) := manometerref05_Compare.l0 k l0 l1 (mn (l0.length : Int) (l1.length : Int)) 0
end Go.Proofs.YtbpmgaaipkenkaaDoor.PMS
end
