import Derived.Test.YtbpmgaaipkenkaaDoorCLimitBoundPMBx0
import Derived.Test.YtbpmgaaipkenkaaDoorCLimitBoundPMCx0
namespace Go.Proofs.YtbpmgaaipkenkaaDoor.PMB
open Go.RowKit Go.Proofs.YtbpmgaaipkenkaaDoorW.PrintWords Go.Proofs.YtbpmgaaipkenkaaDoorW.PrintLast Go.Proofs.YtbpmgaaipkenkaaDoorW.PrintMore
attribute [local go_sem] max2_int min2_int max_two min_two max_three min_three max_four min_four
set_option linter.unusedVariables false
set_option linter.unusedSimpArgs false
def manometerlaw19_live.f : Option (Bool) := some true
theorem manometerlaw19_live.calls  (r : Bool) (w : World) (hT : Aside0 (Tab w)) (h : manometerlaw19_live.f  = some r) :
  Calls Tryd.prog 11 #[] w fun e w' => e = .returned (.bool r) ∧ Below w.heap.size w w' := by
 obtain rfl := Option.some.inj h
 exact live_calls w hT.out
def limit_Plus.f (a0 : Int) (a1 : Int) : Option (Int) := if okN a0 a1 = true then some (plusF a0 a1) else none
theorem limit_Plus.calls (a0 : Int) (a1 : Int) (r : Int) (w : World) (h : limit_Plus.f a0 a1 = some r) :
  Calls Tryd.prog 12 #[.int .u64 a0, .int .u64 a1] w fun e w' => e = .returned (.int .u64 r) ∧ Drawn0 w w' := by
 unfold limit_Plus.f at h
 split at h
 ·rename_i h1
  obtain rfl := Option.some.inj h
  exact gplus a0 a1 w h1
 ·cases h
def manometerref19_Plus.f (a0 : Int) (a1 : Int) : Option (Int) := if okN a0 a1 = true then some (plusF a0 a1) else none
theorem manometerref19_Plus.calls (a0 : Int) (a1 : Int) (r : Int) (w : World) (h : manometerref19_Plus.f a0 a1 = some r) :
  Calls Tryd.prog 13 #[.int .u64 a0, .int .u64 a1] w fun e w' => e = .returned (.int .u64 r) ∧ Drawn0 w w' := by
 unfold manometerref19_Plus.f at h
 split at h
 ·rename_i h1
  obtain rfl := Option.some.inj h
  exact grplus a0 a1 w h1
 ·cases h
def limit_Times.f (a0 : Int) (a1 : Int) : Option (Int) := if okN a0 a1 = true then some (timesF a0 a1) else none
theorem limit_Times.calls (a0 : Int) (a1 : Int) (r : Int) (w : World) (h : limit_Times.f a0 a1 = some r) :
  Calls Tryd.prog 14 #[.int .u64 a0, .int .u64 a1] w fun e w' => e = .returned (.int .u64 r) ∧ Drawn0 w w' := by
 unfold limit_Times.f at h
 split at h
 ·rename_i h1
  obtain rfl := Option.some.inj h
  exact gtimes a0 a1 w h1
 ·cases h
def manometerref19_Times.f (a0 : Int) (a1 : Int) : Option (Int) := if okN a0 a1 = true then some (timesF a0 a1) else none
theorem manometerref19_Times.calls (a0 : Int) (a1 : Int) (r : Int) (w : World) (h : manometerref19_Times.f a0 a1 = some r) :
  Calls Tryd.prog 15 #[.int .u64 a0, .int .u64 a1] w fun e w' => e = .returned (.int .u64 r) ∧ Drawn0 w w' := by
 unfold manometerref19_Times.f at h
 split at h
 ·rename_i h1
  obtain rfl := Option.some.inj h
  exact grtimes a0 a1 w h1
 ·cases h
def limit_Fill.f (a0_0 : Int) (a0_1 : Int) (a0_2 : Int) (a0_3 : Int) (a1 : Int) : Option (Int × Int × Int × Int) := if okB a0_0 a0_1 a0_2 a0_3 a1 = true then some (a0_0, a0_1, levF a0_0 a0_1 a0_2 a0_3 a1, tickF a0_3 a1) else none
theorem limit_Fill.calls (a0_0 : Int) (a0_1 : Int) (a0_2 : Int) (a0_3 : Int) (a1 : Int) (r1 : Int) (r2 : Int) (r3 : Int) (r4 : Int) (w : World) (h : limit_Fill.f a0_0 a0_1 a0_2 a0_3 a1 = some (r1, r2, r3, r4)) :
  Calls Tryd.prog 18 #[.agg #[.int .u64 a0_0, .int .u64 a0_1, .int .u64 a0_2, .int .i64 a0_3], .int .i64 a1] w fun e w' => e = .returned (.agg #[.int .u64 r1, .int .u64 r2, .int .u64 r3, .int .i64 r4]) ∧ Below w.heap.size w w' := by
 unfold limit_Fill.f at h
 split at h
 ·rename_i h1
  simp only [Option.some.injEq, Prod.mk.injEq] at h
  obtain ⟨rfl, rfl, rfl, rfl⟩ := h
  exact gfill w h1
 ·cases h
def limit_Take.f (a0_0 : Int) (a0_1 : Int) (a0_2 : Int) (a0_3 : Int) (a1 : Int) (a2 : Int) : Option (Int × Int × Int × Int × Bool) := if okB a0_0 a0_1 a0_2 a0_3 a1 = true then some (a0_0, a0_1, (if levF a0_0 a0_1 a0_2 a0_3 a1 < a2 then levF a0_0 a0_1 a0_2 a0_3 a1 else IntKind.u64.wrap (levF a0_0 a0_1 a0_2 a0_3 a1 - a2)), tickF a0_3 a1, !decide (levF a0_0 a0_1 a0_2 a0_3 a1 < a2)) else none
theorem limit_Take.calls (a0_0 : Int) (a0_1 : Int) (a0_2 : Int) (a0_3 : Int) (a1 : Int) (a2 : Int) (r1 : Int) (r2 : Int) (r3 : Int) (r4 : Int) (r5 : Bool) (w : World) (h : limit_Take.f a0_0 a0_1 a0_2 a0_3 a1 a2 = some (r1, r2, r3, r4, r5)) :
  Calls Tryd.prog 23 #[.agg #[.int .u64 a0_0, .int .u64 a0_1, .int .u64 a0_2, .int .i64 a0_3], .int .i64 a1, .int .u64 a2] w fun e w' => e = .returned (.tuple #[.agg #[.int .u64 r1, .int .u64 r2, .int .u64 r3, .int .i64 r4], .bool r5]) ∧ Below w.heap.size w w' := by
 unfold limit_Take.f at h
 split at h
 ·rename_i h1
  simp only [Option.some.injEq, Prod.mk.injEq] at h
  obtain ⟨rfl, rfl, rfl, rfl, rfl⟩ := h
  exact gtake w h1
 ·cases h
def manometerlaw19_took.l0 : Nat → List (S33) → Int → List (S33) → Int → Int → Int → Int → Int → Int → Option ((List (S33)) × Bool)
 | 0, _, _, _, _, _, _, _, _, _ => none
 | k + 1, x6, x7, x15, x16, x17, x111000, x111001, x111002, x111003 => if x17 < x16 then (if 0 ≤ x17 then (if x17 < (x15.length : Int) then (if ((rd_T33 x15 x17).f0) < x7 then (manometerlaw19_took.l0 k x6 x7 x15 x16 (wrap64 (x17 + 1)) x111000 x111001 x111002 x111003) else ((limit_Fill.f x111000 x111001 x111002 x111003 ((rd_T33 x15 x17).f0)).bind fun bt116 => ((limit_Take.f x111000 x111001 x111002 x111003 ((rd_T33 x15 x17).f0) ((rd_T33 x15 x17).f1)).bind fun bt121 => (if (bt121.2.2.2.2 != (decide (bt116.2.2.1 ≥ ((rd_T33 x15 x17).f1)))) = true then (some (([] : List (S33)), false)) else (if bt121.2.2.2.2 = true then (if x6.length < 3518437208883 then (manometerlaw19_took.l0 k (x6 ++ [(⟨(rd_T33 x15 x17).f0, (rd_T33 x15 x17).f1, false, 0, 0⟩ : S33)]) ((rd_T33 x15 x17).f0) x15 x16 (wrap64 (x17 + 1)) bt121.1 bt121.2.1 bt121.2.2.1 bt121.2.2.2.1) else (none)) else (manometerlaw19_took.l0 k x6 ((rd_T33 x15 x17).f0) x15 x16 (wrap64 (x17 + 1)) bt121.1 bt121.2.1 bt121.2.2.1 bt121.2.2.2.1)))))) else (none)) else (none)) else (some (x6, true))
def manometerlaw19_took.f (k : Nat) (a0_0 : Int) (a0_1 : Int) (a0_2 : Int) (a0_3 : Int) (l1 : List (S33)) : Option ((List (S33)) × Bool) := manometerlaw19_took.l0 k (([] : List (S33))) a0_3 l1 (l1.length : Int) 0 a0_0 a0_1 a0_2 a0_3
set_option maxHeartbeats 8000000 in
set_option maxRecDepth 100000 in
theorem manometerlaw19_took.calls (k : Nat) (a0_0 : Int) (a0_1 : Int) (a0_2 : Int) (a0_3 : Int) (A1 : Option Addr) (c1 : Nat) (l1 : List (S33)) (r1 : List (S33)) (r2 : Bool) (w : World) (hr1 : Kd.C k33 w A1 l1.length l1) (hc1 : l1.length ≤ c1) (h : manometerlaw19_took.f k a0_0 a0_1 a0_2 a0_3 l1 = some (r1, r2)) :
  Calls Tryd.prog 16 #[.agg #[.int .u64 a0_0, .int .u64 a0_1, .int .u64 a0_2, .int .i64 a0_3], .slice A1 l1.length c1] w fun e w' => ∃ v0_ : Value, e = .returned (.tuple #[v0_, .bool r2]) ∧ Kd.R k33 33 w' w.heap.size (fun _ => True) v0_ r1 ∧ Below w.heap.size w w' := by
 have hu30 := Tryd.underlying30
 have hu33 := Tryd.underlying33
 have HR1 := Aside0.mk hr1
 have HC1 := Aside0.mk hc1
 clear hr1 hc1
 have HB := Aside0.mk (Below.refl w.heap.size w)
 have H : (manometerlaw19_took.l0 k (([] : List (S33))) a0_3 l1 (l1.length : Int) 0 a0_0 a0_1 a0_2 a0_3) = some (r1, r2) := h
 clear h
 obtain ⟨y111, hy111⟩ : ∃ y_ : List (S33), y_ = (([] : List (S33))) := ⟨_, rfl⟩
 replace H : (manometerlaw19_took.l0 k y111 a0_3 l1 (l1.length : Int) 0 a0_0 a0_1 a0_2 a0_3) = some (r1, r2) := by first | (rw [hy111]; with_reducible exact H) | (have H2_ := (Option.bind_some _ _).symm.trans H; rw [hy111]; with_reducible exact H2_) | (have H2_ := (Option.bind_some _ _).symm.trans H; with_reducible exact H2_) | with_reducible exact H | (rw [hy111]; exact H) | exact H
 have Ny111 := Aside0.mk hy111
 clear hy111
 have H' := Aside0.mk H
 clear H
 go_enter Tryd.func16, Tryd.ntmps16
 go_wp2_with (first | ((with_reducible refine gate_dst (N := 2) rfl ?_); refine box_event ?hg (N := 2) ?hd (cs := #[.int .u64 a0_0, .int .u64 a0_1, .int .u64 a0_2, .int .i64 a0_3]) (t := 30) ?hr ?_; (case hd => rfl); (case hg => rfl); (case hr => first | (go_simp; done) | (go_simp; rfl)); intro gb110 hg w3 hbox hb; have n0_ := Aside0.mk (below_step y1_ hb); have n1_ := Aside0.mk (hbox); have n2_ := Aside0.mk ((y16_ : w.heap.size ≤ gb110)); have n3_ := Aside0.mk ((y16_ : w.heap.size ≤ gb110)); clear HB; have HB := n0_; have BK110 := n1_; have GW110 := n2_; have GE110 := n3_; clear n0_ n1_ n2_ n3_; clear hb hbox hg) | ((with_reducible refine gate_dst (N := 12) rfl ?_); refine Kd.R_lit k33 _ 33 ?hg (N := 12) ?hd (xs := ([] : List (S33))) (inner := []) (ok := fun _ => True) (okp := fun _ => True) ?hr ?hp (fun _ hk => hk) trivial (Below.refl _ _) (Nat.le_refl _) (by simp) ?_; (case hd => rfl); (case hg => rfl); (case hr => first | (go_simp; done) | (go_simp; rfl)); (case hp => exact (Reps.none _ _)); intro v112 w4 ho5 hb hg_ hnew_; clear hg_ hnew_; (first | rw [← Ny111.out] at ho5 | (simp only [Int.reduceToNat] at ho5; rw [← Ny111.out] at ho5)); have n0_ := Aside0.mk (Kd.R_lower ho5 (below_size y10_)); have n1_ := Aside0.mk (blk_below (g := gb110) (o := .cells #[.int .u64 a0_0, .int .u64 a0_1, .int .u64 a0_2, .int .i64 a0_3] 30 (0, 0)) y8_ hb); have n2_ := Aside0.mk (below_step y10_ hb); clear BK110; clear HB; have HO113 := n0_; have BK110 := n1_; have HB := n2_; clear n0_ n1_ n2_; clear hb ho5; have hcz6_0 : w4.cell? ⟨gb110, 0, none⟩ = some (.int .u64 a0_0) := (blk_cell BK110.out 0).trans rfl; have hcz6_1 : w4.cell? ⟨gb110, 1, none⟩ = some (.int .u64 a0_1) := (blk_cell BK110.out 1).trans rfl; have hcz6_2 : w4.cell? ⟨gb110, 2, none⟩ = some (.int .u64 a0_2) := (blk_cell BK110.out 2).trans rfl; have hcz6_3 : w4.cell? ⟨gb110, 3, none⟩ = some (.int .i64 a0_3) := (blk_cell BK110.out 3).trans rfl; have hfz6_0 := blk_frozen BK110.out 0; have hfz6_1 := blk_frozen BK110.out 1; have hfz6_2 := blk_frozen BK110.out 2; have hfz6_3 := blk_frozen BK110.out 3))
 go_loopg [6, 7, 17] k (fun kq v6 v7 v17 w' => ∃ (x6_1 : List (S33)) (x7_1 : Int) (x17_1 : Int) (x111000_1 : Int) (x111001_1 : Int) (x111002_1 : Int) (x111003_1 : Int), v7 = .int .i64 x7_1 ∧ v17 = .int .i64 x17_1 ∧ Aside0 (manometerlaw19_took.l0 kq x6_1 x7_1 l1 (l1.length : Int) x17_1 x111000_1 x111001_1 x111002_1 x111003_1 = some (r1, r2)) ∧ Aside0 (kq ≤ k) ∧ Aside0 (Kd.R k33 33 w' w.heap.size (fun _ => True) v6 x6_1) ∧ Aside0 (w'.heap[gb110]? = some (.cells #[.int .u64 x111000_1, .int .u64 x111001_1, .int .u64 x111002_1, .int .i64 x111003_1] 30 (0, 0))) ∧ Aside0 (Below w.heap.size w w'))
 case atStart => exact ⟨(y111), (a0_3), (0), (a0_0), (a0_1), (a0_2), (a0_3), y9_, y9_, H', ⟨Nat.le_refl _⟩, ⟨by (with_reducible repeat (first | apply Kd.R_alloc | apply Kd.R_drewN | apply Kd.R_drew)); exact HO113.out⟩, ⟨y8_⟩, ⟨y10_⟩⟩
 case round =>
  clear H'
  try clear c1
  try clear p2
  try clear hcz6_0
  try clear hcz6_1
  try clear hcz6_2
  try clear hcz6_3
  try clear hfz6_0
  try clear hfz6_1
  try clear hfz6_2
  try clear hfz6_3
  obtain ⟨x6_1, x7_1, x17_1, x111000_1, x111001_1, x111002_1, x111003_1, rfl, rfl, HA, HK1, HO_6, BK110, HB⟩ := hrel
  cases gk with
  | zero => exact absurd HA.out (by simp [manometerlaw19_took.l0])
  | succ k1 =>
   have H := HA.out
   clear HA
   simp only [manometerlaw19_took.l0] at H
   by_cases c7 : x17_1 < (l1.length : Int)
   ·rw [if_pos c7] at H
    have c7b0 : decide (x17_1 < (l1.length : Int)) = true := decide_eq_true c7
    clear c7
    by_cases c8 : 0 ≤ x17_1
    ·rw [if_pos c8] at H
     have c8b0 : decide (0 ≤ x17_1) = true := decide_eq_true c8
     clear c8
     by_cases c9 : x17_1 < (l1.length : Int)
     ·rw [if_pos c9] at H
      have c9b0 : decide (x17_1 < (l1.length : Int)) = true := decide_eq_true c9
      clear c9
      by_cases c10 : ((rd_T33 l1 x17_1).f0) < x7_1
      ·rw [if_pos c10] at H
       have c10b0 : decide (((rd_T33 l1 x17_1).f0) < x7_1) = true := decide_eq_true c10
       clear c10
       have H' := Aside0.mk H
       clear H
       have p114 : 0 ≤ (x17_1 : Int) := of_decide_eq_true y4_
       have q114 : x17_1 < (l1.length : Int) := of_decide_eq_true y4_
       obtain ⟨ad114, e114, hx114_0, hx114_1, hx114_2, hx114_3, hx114_4⟩ := at_T33 HR1.out x17_1 p114 q114
       cases e114
       replace hx114_0 := (HB.out.cell (World.block_lt_of_cell? w _ hx114_0)).trans hx114_0
       replace hx114_1 := (HB.out.cell (World.block_lt_of_cell? w _ hx114_1)).trans hx114_1
       replace hx114_2 := (HB.out.cell (World.block_lt_of_cell? w _ hx114_2)).trans hx114_2
       replace hx114_3 := (HB.out.cell (World.block_lt_of_cell? w _ hx114_3)).trans hx114_3
       replace hx114_4 := (HB.out.cell (World.block_lt_of_cell? w _ hx114_4)).trans hx114_4
       replace p114 := eq_true p114
       replace q114 := eq_true q114
       go_wp2_with (first | ((with_reducible refine gate_dst (N := 9) rfl ?_); refine box_event ?hg (N := 9) ?hd (cs := #[.int .i64 0, .int .u64 0, .bool false, .int .u64 0, .int .u64 0]) (t := 33) ?hr ?_; (case hd => rfl); (case hg => rfl); (case hr => first | (go_simp; done) | (go_simp; rfl)); intro gb115 hg w11 hbox hb; have n0_ := Aside0.mk (Kd.R_below (Kd.R_elderB y30_ gb115 (Nat.le_of_eq hg.symm)) hb); have n1_ := Aside0.mk (blk_below (g := gb110) (o := .cells #[.int .u64 x111000_1, .int .u64 x111001_1, .int .u64 x111002_1, .int .i64 x111003_1] 30 (0, 0)) y8_ hb); have n2_ := Aside0.mk (below_step y10_ hb); have n3_ := Aside0.mk (hbox); have n4_ := Aside0.mk ((y37_ : w.heap.size ≤ gb115)); have n5_ := Aside0.mk ((y37_ : w.heap.size ≤ gb115)); have n6_ := Aside0.mk ((y22_ : gb110 ≠ gb115)); have n7_ := Aside0.mk ((y23_ : gb115 ≠ gb110)); clear HO_6; clear BK110; clear HB; have HO_6 := n0_; have BK110 := n1_; have HB := n2_; have BK115 := n3_; have GW115 := n4_; have GE115 := n5_; have NB110_115 := n6_; have NB115_110 := n7_; clear n0_ n1_ n2_ n3_ n4_ n5_ n6_ n7_; clear hb hbox hg; have hnb12 := NB115_110.out; have hnc12 := NB110_115.out; have hcz13_0 : w11.cell? ⟨gb115, 0, none⟩ = some (.int .i64 0) := (blk_cell BK115.out 0).trans rfl; have hcz13_1 : w11.cell? ⟨gb115, 1, none⟩ = some (.int .u64 0) := (blk_cell BK115.out 1).trans rfl; have hcz13_2 : w11.cell? ⟨gb115, 2, none⟩ = some (.bool false) := (blk_cell BK115.out 2).trans rfl; have hcz13_3 : w11.cell? ⟨gb115, 3, none⟩ = some (.int .u64 0) := (blk_cell BK115.out 3).trans rfl; have hcz13_4 : w11.cell? ⟨gb115, 4, none⟩ = some (.int .u64 0) := (blk_cell BK115.out 4).trans rfl; have hfz13_0 := blk_frozen BK115.out 0; have hfz13_1 := blk_frozen BK115.out 1; have hfz13_2 := blk_frozen BK115.out 2; have hfz13_3 := blk_frozen BK115.out 3; have hfz13_4 := blk_frozen BK115.out 4))
       go_roundg k1
       case measure => have := HK1.out; omega
       case rel => exact ⟨(x6_1), (x7_1), (wrap64 (x17_1 + 1)), (x111000_1), (x111001_1), (x111002_1), (x111003_1), y9_, y9_, H', ⟨by have := HK1.out; omega⟩, ⟨by (with_reducible repeat (first | apply Kd.R_alloc | apply Kd.R_drewN | apply Kd.R_drew)); exact Kd.R_mono (Kd.R_far (p := ⟨gb115, 4, none⟩) (Kd.R_far (p := ⟨gb115, 3, none⟩) (Kd.R_far (p := ⟨gb115, 2, none⟩) (Kd.R_far (p := ⟨gb115, 1, none⟩) (Kd.R_far (p := ⟨gb115, 0, none⟩) (Kd.R_mono HO_6.out (fun k_ hk => (⟨hk, hk.2⟩ : _ ∧ k_ ≠ gb115))) (fun _ hk => hk.2) (.int .i64 ((rd_T33 l1 x17_1).f0))) (fun _ hk => hk.2) (.int .u64 ((rd_T33 l1 x17_1).f1))) (fun _ hk => hk.2) (.bool ((rd_T33 l1 x17_1).f2))) (fun _ hk => hk.2) (.int .u64 ((rd_T33 l1 x17_1).f3))) (fun _ hk => hk.2) (.int .u64 ((rd_T33 l1 x17_1).f4))) (fun _ hk => trivial)⟩, ⟨y11_⟩, ⟨y12_⟩⟩
      ·rw [if_neg c10] at H
       have c10b0 : decide (((rd_T33 l1 x17_1).f0) < x7_1) = false := decide_eq_false c10
       clear c10
       replace H := Option.bind_eq_some_iff.mp H
       obtain ⟨⟨t116, t117, t118, t119⟩, A140, H⟩ := H
       replace H : ((limit_Take.f x111000_1 x111001_1 x111002_1 x111003_1 ((rd_T33 l1 x17_1).f0) ((rd_T33 l1 x17_1).f1)).bind fun bt121 => (if (bt121.2.2.2.2 != (decide (t118 ≥ ((rd_T33 l1 x17_1).f1)))) = true then (some (([] : List (S33)), false)) else (if bt121.2.2.2.2 = true then (if x6_1.length < 3518437208883 then (manometerlaw19_took.l0 k1 (x6_1 ++ [(⟨(rd_T33 l1 x17_1).f0, (rd_T33 l1 x17_1).f1, false, 0, 0⟩ : S33)]) ((rd_T33 l1 x17_1).f0) l1 (l1.length : Int) (wrap64 (x17_1 + 1)) bt121.1 bt121.2.1 bt121.2.2.1 bt121.2.2.2.1) else (none)) else (manometerlaw19_took.l0 k1 x6_1 ((rd_T33 l1 x17_1).f0) l1 (l1.length : Int) (wrap64 (x17_1 + 1)) bt121.1 bt121.2.1 bt121.2.2.1 bt121.2.2.2.1)))) = some (r1, r2) := H
       have A14 := Aside0.mk A140
       clear A140
       replace H := Option.bind_eq_some_iff.mp H
       obtain ⟨⟨t121, t122, t123, t124, t125⟩, A150, H⟩ := H
       replace H : (if (t125 != (decide (t118 ≥ ((rd_T33 l1 x17_1).f1)))) = true then (some (([] : List (S33)), false)) else (if t125 = true then (if x6_1.length < 3518437208883 then (manometerlaw19_took.l0 k1 (x6_1 ++ [(⟨(rd_T33 l1 x17_1).f0, (rd_T33 l1 x17_1).f1, false, 0, 0⟩ : S33)]) ((rd_T33 l1 x17_1).f0) l1 (l1.length : Int) (wrap64 (x17_1 + 1)) t121 t122 t123 t124) else (none)) else (manometerlaw19_took.l0 k1 x6_1 ((rd_T33 l1 x17_1).f0) l1 (l1.length : Int) (wrap64 (x17_1 + 1)) t121 t122 t123 t124))) = some (r1, r2) := H
       have A15 := Aside0.mk A150
       clear A150
       by_cases c16 : (t125 != (decide (t118 ≥ ((rd_T33 l1 x17_1).f1)))) = true
       ·rw [if_pos c16] at H
        have c16b0 : (t125 != (decide (t118 ≥ ((rd_T33 l1 x17_1).f1)))) = true := c16
        (try (have c16b1 : decide (t125 = (decide (t118 ≥ ((rd_T33 l1 x17_1).f1)))) = false := by simpa using c16))
        (try (have c16b2 : (t125 == (decide (t118 ≥ ((rd_T33 l1 x17_1).f1)))) = false := by simpa using c16))
        (try (have c16b3 : ¬ (t125 = (decide (t118 ≥ ((rd_T33 l1 x17_1).f1)))) := by simpa using c16))
        clear c16
        simp only [Option.some.injEq, Prod.mk.injEq] at H
        obtain ⟨rfl, rfl⟩ := H
        have p114 : 0 ≤ (x17_1 : Int) := of_decide_eq_true y4_
        have q114 : x17_1 < (l1.length : Int) := of_decide_eq_true y4_
        obtain ⟨ad114, e114, hx114_0, hx114_1, hx114_2, hx114_3, hx114_4⟩ := at_T33 HR1.out x17_1 p114 q114
        cases e114
        replace hx114_0 := (HB.out.cell (World.block_lt_of_cell? w _ hx114_0)).trans hx114_0
        replace hx114_1 := (HB.out.cell (World.block_lt_of_cell? w _ hx114_1)).trans hx114_1
        replace hx114_2 := (HB.out.cell (World.block_lt_of_cell? w _ hx114_2)).trans hx114_2
        replace hx114_3 := (HB.out.cell (World.block_lt_of_cell? w _ hx114_3)).trans hx114_3
        replace hx114_4 := (HB.out.cell (World.block_lt_of_cell? w _ hx114_4)).trans hx114_4
        replace p114 := eq_true p114
        replace q114 := eq_true q114
        go_wp2_with (first | ((with_reducible refine gate_dst (N := 9) rfl ?_); refine box_event ?hg (N := 9) ?hd (cs := #[.int .i64 0, .int .u64 0, .bool false, .int .u64 0, .int .u64 0]) (t := 33) ?hr ?_; (case hd => rfl); (case hg => rfl); (case hr => first | (go_simp; done) | (go_simp; rfl)); intro gb115 hg w17 hbox hb; have n0_ := Aside0.mk (Kd.R_below (Kd.R_elderB y30_ gb115 (Nat.le_of_eq hg.symm)) hb); have n1_ := Aside0.mk (blk_below (g := gb110) (o := .cells #[.int .u64 x111000_1, .int .u64 x111001_1, .int .u64 x111002_1, .int .i64 x111003_1] 30 (0, 0)) y8_ hb); have n2_ := Aside0.mk (below_step y10_ hb); have n3_ := Aside0.mk (hbox); have n4_ := Aside0.mk ((y37_ : w.heap.size ≤ gb115)); have n5_ := Aside0.mk ((y37_ : w.heap.size ≤ gb115)); have n6_ := Aside0.mk ((y22_ : gb110 ≠ gb115)); have n7_ := Aside0.mk ((y23_ : gb115 ≠ gb110)); clear HO_6; clear BK110; clear HB; have HO_6 := n0_; have BK110 := n1_; have HB := n2_; have BK115 := n3_; have GW115 := n4_; have GE115 := n5_; have NB110_115 := n6_; have NB115_110 := n7_; clear n0_ n1_ n2_ n3_ n4_ n5_ n6_ n7_; clear hb hbox hg; have hnb18 := NB115_110.out; have hnc18 := NB110_115.out; have hcz19_0 : w17.cell? ⟨gb115, 0, none⟩ = some (.int .i64 0) := (blk_cell BK115.out 0).trans rfl; have hcz19_1 : w17.cell? ⟨gb115, 1, none⟩ = some (.int .u64 0) := (blk_cell BK115.out 1).trans rfl; have hcz19_2 : w17.cell? ⟨gb115, 2, none⟩ = some (.bool false) := (blk_cell BK115.out 2).trans rfl; have hcz19_3 : w17.cell? ⟨gb115, 3, none⟩ = some (.int .u64 0) := (blk_cell BK115.out 3).trans rfl; have hcz19_4 : w17.cell? ⟨gb115, 4, none⟩ = some (.int .u64 0) := (blk_cell BK115.out 4).trans rfl; have hfz19_0 := blk_frozen BK115.out 0; have hfz19_1 := blk_frozen BK115.out 1; have hfz19_2 := blk_frozen BK115.out 2; have hfz19_3 := blk_frozen BK115.out 3; have hfz19_4 := blk_frozen BK115.out 4; have hcz20_0 : w17.cell? ⟨gb110, 0, none⟩ = some (.int .u64 x111000_1) := (blk_cell BK110.out 0).trans rfl; have hcz20_1 : w17.cell? ⟨gb110, 1, none⟩ = some (.int .u64 x111001_1) := (blk_cell BK110.out 1).trans rfl; have hcz20_2 : w17.cell? ⟨gb110, 2, none⟩ = some (.int .u64 x111002_1) := (blk_cell BK110.out 2).trans rfl; have hcz20_3 : w17.cell? ⟨gb110, 3, none⟩ = some (.int .i64 x111003_1) := (blk_cell BK110.out 3).trans rfl; have hfz20_0 := blk_frozen BK110.out 0; have hfz20_1 := blk_frozen BK110.out 1; have hfz20_2 := blk_frozen BK110.out 2; have hfz20_3 := blk_frozen BK110.out 3) | ((with_reducible refine gate_callee (f := 18) rfl ?_); refine goesL_ (some 29) rfl rfl Tryd.func18 (by kernel_rfl) rfl #[.agg #[.int .u64 x111000_1, .int .u64 x111001_1, .int .u64 x111002_1, .int .i64 x111003_1], .int .i64 ((rd_T33 l1 x17_1).f0)] rfl y6_ ?_; (with_reducible refine (limit_Fill.calls x111000_1 x111001_1 x111002_1 x111003_1 ((rd_T33 l1 x17_1).f0) t116 t117 t118 t119 _ A14.out).mono ?_); rintro e w21 ⟨rfl, hb⟩; refine ⟨_, rfl, ?_⟩; have n0_ := Aside0.mk (Kd.R_below y19_ hb); have n1_ := Aside0.mk (blk_below (g := gb110) (o := .cells #[.int .u64 x111000_1, .int .u64 x111001_1, .int .u64 x111002_1, .int .i64 x111003_1] 30 (0, 0)) y11_ hb); have n2_ := Aside0.mk (blk_below (g := gb115) (o := .cells #[.int .i64 ((rd_T33 l1 x17_1).f0), .int .u64 ((rd_T33 l1 x17_1).f1), .bool ((rd_T33 l1 x17_1).f2), .int .u64 ((rd_T33 l1 x17_1).f3), .int .u64 ((rd_T33 l1 x17_1).f4)] 33 (0, 0)) y7_ hb); have n3_ := Aside0.mk (below_step y12_ hb); clear HO_6; clear BK110; clear BK115; clear HB; have HO_6 := n0_; have BK110 := n1_; have BK115 := n2_; have HB := n3_; clear n0_ n1_ n2_ n3_; (try clear hb); (try clear hb2); (try clear hk); (try clear hi)) | ((with_reducible refine gate_dst (N := 11) rfl ?_); refine box_event ?hg (N := 11) ?hd (cs := #[.int .u64 0, .int .u64 0, .int .u64 0, .int .i64 0]) (t := 30) ?hr ?_; (case hd => rfl); (case hg => rfl); (case hr => first | (go_simp; done) | (go_simp; rfl)); intro gb120 hg w22 hbox hb; have n0_ := Aside0.mk (Kd.R_below y30_ hb); have n1_ := Aside0.mk (blk_below (g := gb110) (o := .cells #[.int .u64 x111000_1, .int .u64 x111001_1, .int .u64 x111002_1, .int .i64 x111003_1] 30 (0, 0)) y8_ hb); have n2_ := Aside0.mk (blk_below (g := gb115) (o := .cells #[.int .i64 ((rd_T33 l1 x17_1).f0), .int .u64 ((rd_T33 l1 x17_1).f1), .bool ((rd_T33 l1 x17_1).f2), .int .u64 ((rd_T33 l1 x17_1).f3), .int .u64 ((rd_T33 l1 x17_1).f4)] 33 (0, 0)) y25_ hb); have n3_ := Aside0.mk (below_step y12_ hb); have n4_ := Aside0.mk (hbox); have n5_ := Aside0.mk ((by rw [hg]; exact (below_size y12_) : w.heap.size ≤ gb120)); have n6_ := Aside0.mk ((by rw [hg]; exact (below_size y12_) : w.heap.size ≤ gb120)); have n7_ := Aside0.mk ((y22_ : gb110 ≠ gb120)); have n8_ := Aside0.mk ((y23_ : gb120 ≠ gb110)); have n9_ := Aside0.mk ((y35_ : gb115 ≠ gb120)); have n10_ := Aside0.mk ((y36_ : gb120 ≠ gb115)); clear HO_6; clear BK110; clear BK115; clear HB; have HO_6 := n0_; have BK110 := n1_; have BK115 := n2_; have HB := n3_; have BK120 := n4_; have GW120 := n5_; have GE120 := n6_; have NB110_120 := n7_; have NB120_110 := n8_; have NB115_120 := n9_; have NB120_115 := n10_; clear n0_ n1_ n2_ n3_ n4_ n5_ n6_ n7_ n8_ n9_ n10_; clear hb hbox hg; have hnb23 := NB120_110.out; have hnc23 := NB110_120.out; have hnb24 := NB120_115.out; have hnc24 := NB115_120.out; have hcz25_0 : w22.cell? ⟨gb120, 0, none⟩ = some (.int .u64 0) := (blk_cell BK120.out 0).trans rfl; have hcz25_1 : w22.cell? ⟨gb120, 1, none⟩ = some (.int .u64 0) := (blk_cell BK120.out 1).trans rfl; have hcz25_2 : w22.cell? ⟨gb120, 2, none⟩ = some (.int .u64 0) := (blk_cell BK120.out 2).trans rfl; have hcz25_3 : w22.cell? ⟨gb120, 3, none⟩ = some (.int .i64 0) := (blk_cell BK120.out 3).trans rfl; have hfz25_0 := blk_frozen BK120.out 0; have hfz25_1 := blk_frozen BK120.out 1; have hfz25_2 := blk_frozen BK120.out 2; have hfz25_3 := blk_frozen BK120.out 3; have hcz26_0 : w22.cell? ⟨gb110, 0, none⟩ = some (.int .u64 x111000_1) := (blk_cell BK110.out 0).trans rfl; have hcz26_1 : w22.cell? ⟨gb110, 1, none⟩ = some (.int .u64 x111001_1) := (blk_cell BK110.out 1).trans rfl; have hcz26_2 : w22.cell? ⟨gb110, 2, none⟩ = some (.int .u64 x111002_1) := (blk_cell BK110.out 2).trans rfl; have hcz26_3 : w22.cell? ⟨gb110, 3, none⟩ = some (.int .i64 x111003_1) := (blk_cell BK110.out 3).trans rfl; have hfz26_0 := blk_frozen BK110.out 0; have hfz26_1 := blk_frozen BK110.out 1; have hfz26_2 := blk_frozen BK110.out 2; have hfz26_3 := blk_frozen BK110.out 3; have hcz27_0 : w22.cell? ⟨gb115, 0, none⟩ = some (.int .i64 ((rd_T33 l1 x17_1).f0)) := (blk_cell BK115.out 0).trans rfl; have hcz27_1 : w22.cell? ⟨gb115, 1, none⟩ = some (.int .u64 ((rd_T33 l1 x17_1).f1)) := (blk_cell BK115.out 1).trans rfl; have hcz27_2 : w22.cell? ⟨gb115, 2, none⟩ = some (.bool ((rd_T33 l1 x17_1).f2)) := (blk_cell BK115.out 2).trans rfl; have hcz27_3 : w22.cell? ⟨gb115, 3, none⟩ = some (.int .u64 ((rd_T33 l1 x17_1).f3)) := (blk_cell BK115.out 3).trans rfl; have hcz27_4 : w22.cell? ⟨gb115, 4, none⟩ = some (.int .u64 ((rd_T33 l1 x17_1).f4)) := (blk_cell BK115.out 4).trans rfl; have hfz27_0 := blk_frozen BK115.out 0; have hfz27_1 := blk_frozen BK115.out 1; have hfz27_2 := blk_frozen BK115.out 2; have hfz27_3 := blk_frozen BK115.out 3; have hfz27_4 := blk_frozen BK115.out 4) | ((with_reducible refine gate_callee (f := 23) rfl ?_); refine goesL_ (some 35) rfl rfl Tryd.func23 (by kernel_rfl) rfl #[.agg #[.int .u64 x111000_1, .int .u64 x111001_1, .int .u64 x111002_1, .int .i64 x111003_1], .int .i64 ((rd_T33 l1 x17_1).f0), .int .u64 ((rd_T33 l1 x17_1).f1)] rfl y6_ ?_; (with_reducible refine (limit_Take.calls x111000_1 x111001_1 x111002_1 x111003_1 ((rd_T33 l1 x17_1).f0) ((rd_T33 l1 x17_1).f1) t121 t122 t123 t124 t125 _ A15.out).mono ?_); rintro e w28 ⟨rfl, hb⟩; refine ⟨_, rfl, ?_⟩; have n0_ := Aside0.mk (Kd.R_below y24_ hb); have n1_ := Aside0.mk (blk_below (g := gb110) (o := .cells #[.int .u64 x111000_1, .int .u64 x111001_1, .int .u64 x111002_1, .int .i64 x111003_1] 30 (0, 0)) y18_ hb); have n2_ := Aside0.mk (blk_below (g := gb115) (o := .cells #[.int .i64 ((rd_T33 l1 x17_1).f0), .int .u64 ((rd_T33 l1 x17_1).f1), .bool ((rd_T33 l1 x17_1).f2), .int .u64 ((rd_T33 l1 x17_1).f3), .int .u64 ((rd_T33 l1 x17_1).f4)] 33 (0, 0)) y17_ hb); have n3_ := Aside0.mk (blk_below (g := gb120) (o := .cells #[.int .u64 t116, .int .u64 t117, .int .u64 t118, .int .i64 t119] 30 (0, 0)) y14_ hb); have n4_ := Aside0.mk (below_step y15_ hb); clear HO_6; clear BK110; clear BK115; clear BK120; clear HB; have HO_6 := n0_; have BK110 := n1_; have BK115 := n2_; have BK120 := n3_; have HB := n4_; clear n0_ n1_ n2_ n3_ n4_; (try clear hb); (try clear hb2); (try clear hk); (try clear hi); have hcz29_0 : w28.cell? ⟨gb110, 0, none⟩ = some (.int .u64 x111000_1) := (blk_cell BK110.out 0).trans rfl; have hcz29_1 : w28.cell? ⟨gb110, 1, none⟩ = some (.int .u64 x111001_1) := (blk_cell BK110.out 1).trans rfl; have hcz29_2 : w28.cell? ⟨gb110, 2, none⟩ = some (.int .u64 x111002_1) := (blk_cell BK110.out 2).trans rfl; have hcz29_3 : w28.cell? ⟨gb110, 3, none⟩ = some (.int .i64 x111003_1) := (blk_cell BK110.out 3).trans rfl; have hfz29_0 := blk_frozen BK110.out 0; have hfz29_1 := blk_frozen BK110.out 1; have hfz29_2 := blk_frozen BK110.out 2; have hfz29_3 := blk_frozen BK110.out 3; have hcz30_0 : w28.cell? ⟨gb120, 0, none⟩ = some (.int .u64 t116) := (blk_cell BK120.out 0).trans rfl; have hcz30_1 : w28.cell? ⟨gb120, 1, none⟩ = some (.int .u64 t117) := (blk_cell BK120.out 1).trans rfl; have hcz30_2 : w28.cell? ⟨gb120, 2, none⟩ = some (.int .u64 t118) := (blk_cell BK120.out 2).trans rfl; have hcz30_3 : w28.cell? ⟨gb120, 3, none⟩ = some (.int .i64 t119) := (blk_cell BK120.out 3).trans rfl; have hfz30_0 := blk_frozen BK120.out 0; have hfz30_1 := blk_frozen BK120.out 1; have hfz30_2 := blk_frozen BK120.out 2; have hfz30_3 := blk_frozen BK120.out 3; have hcz31_0 : w28.cell? ⟨gb115, 0, none⟩ = some (.int .i64 ((rd_T33 l1 x17_1).f0)) := (blk_cell BK115.out 0).trans rfl; have hcz31_1 : w28.cell? ⟨gb115, 1, none⟩ = some (.int .u64 ((rd_T33 l1 x17_1).f1)) := (blk_cell BK115.out 1).trans rfl; have hcz31_2 : w28.cell? ⟨gb115, 2, none⟩ = some (.bool ((rd_T33 l1 x17_1).f2)) := (blk_cell BK115.out 2).trans rfl; have hcz31_3 : w28.cell? ⟨gb115, 3, none⟩ = some (.int .u64 ((rd_T33 l1 x17_1).f3)) := (blk_cell BK115.out 3).trans rfl; have hcz31_4 : w28.cell? ⟨gb115, 4, none⟩ = some (.int .u64 ((rd_T33 l1 x17_1).f4)) := (blk_cell BK115.out 4).trans rfl; have hfz31_0 := blk_frozen BK115.out 0; have hfz31_1 := blk_frozen BK115.out 1; have hfz31_2 := blk_frozen BK115.out 2; have hfz31_3 := blk_frozen BK115.out 3; have hfz31_4 := blk_frozen BK115.out 4))
        go_ret2
        exact ⟨_, y13_, by first | exact Kd.R_nil _ _ _ _ _ | exact Kd.N_nil _ _ _ _ _ | exact Kd.V_nil _ _ _ _ _ | exact Kd.Q_nil _ _ _ _ _ | exact Kd.S_nil _ _ _ _ _, y15_⟩
       ·rw [if_neg c16] at H
        have c16b0 : (t125 != (decide (t118 ≥ ((rd_T33 l1 x17_1).f1)))) = false := by simpa using c16
        (try (have c16b1 : decide (t125 = (decide (t118 ≥ ((rd_T33 l1 x17_1).f1)))) = true := by simpa using c16))
        (try (have c16b2 : (t125 == (decide (t118 ≥ ((rd_T33 l1 x17_1).f1)))) = true := by simpa using c16))
        clear c16
        by_cases c32 : t125 = true
        ·subst c32
         have H1 : (if x6_1.length < 3518437208883 then (manometerlaw19_took.l0 k1 (x6_1 ++ [(⟨(rd_T33 l1 x17_1).f0, (rd_T33 l1 x17_1).f1, false, 0, 0⟩ : S33)]) ((rd_T33 l1 x17_1).f0) l1 (l1.length : Int) (wrap64 (x17_1 + 1)) t121 t122 t123 t124) else (none)) = some (r1, r2) := by rw [if_pos rfl] at H; exact H
         clear H
         have H := H1
         clear H1
         by_cases c33 : x6_1.length < 3518437208883
         ·rw [if_pos c33] at H
          have LMc33 := Aside0.mk c33
          clear c33
          obtain ⟨y126, hy126⟩ : ∃ y_ : List (S33), y_ = (x6_1 ++ [(⟨(rd_T33 l1 x17_1).f0, (rd_T33 l1 x17_1).f1, false, 0, 0⟩ : S33)]) := ⟨_, rfl⟩
          replace H : (manometerlaw19_took.l0 k1 y126 ((rd_T33 l1 x17_1).f0) l1 (l1.length : Int) (wrap64 (x17_1 + 1)) t121 t122 t123 t124) = some (r1, r2) := by first | (rw [hy126]; with_reducible exact H) | (have H2_ := (Option.bind_some _ _).symm.trans H; rw [hy126]; with_reducible exact H2_) | (have H2_ := (Option.bind_some _ _).symm.trans H; with_reducible exact H2_) | with_reducible exact H | (rw [hy126]; exact H) | exact H
          have Ny126 := Aside0.mk hy126
          clear hy126
          have H' := Aside0.mk H
          clear H
          have p114 : 0 ≤ (x17_1 : Int) := of_decide_eq_true y4_
          have q114 : x17_1 < (l1.length : Int) := of_decide_eq_true y4_
          obtain ⟨ad114, e114, hx114_0, hx114_1, hx114_2, hx114_3, hx114_4⟩ := at_T33 HR1.out x17_1 p114 q114
          cases e114
          replace hx114_0 := (HB.out.cell (World.block_lt_of_cell? w _ hx114_0)).trans hx114_0
          replace hx114_1 := (HB.out.cell (World.block_lt_of_cell? w _ hx114_1)).trans hx114_1
          replace hx114_2 := (HB.out.cell (World.block_lt_of_cell? w _ hx114_2)).trans hx114_2
          replace hx114_3 := (HB.out.cell (World.block_lt_of_cell? w _ hx114_3)).trans hx114_3
          replace hx114_4 := (HB.out.cell (World.block_lt_of_cell? w _ hx114_4)).trans hx114_4
          replace p114 := eq_true p114
          replace q114 := eq_true q114
          go_wp2_with (first | ((with_reducible refine gate_dst (N := 9) rfl ?_); refine box_event ?hg (N := 9) ?hd (cs := #[.int .i64 0, .int .u64 0, .bool false, .int .u64 0, .int .u64 0]) (t := 33) ?hr ?_; (case hd => rfl); (case hg => rfl); (case hr => first | (go_simp; done) | (go_simp; rfl)); intro gb115 hg w34 hbox hb; have n0_ := Aside0.mk (Kd.R_below (Kd.R_elderB y30_ gb115 (Nat.le_of_eq hg.symm)) hb); have n1_ := Aside0.mk (blk_below (g := gb110) (o := .cells #[.int .u64 x111000_1, .int .u64 x111001_1, .int .u64 x111002_1, .int .i64 x111003_1] 30 (0, 0)) y8_ hb); have n2_ := Aside0.mk (below_step y10_ hb); have n3_ := Aside0.mk (hbox); have n4_ := Aside0.mk ((y37_ : w.heap.size ≤ gb115)); have n5_ := Aside0.mk ((y37_ : w.heap.size ≤ gb115)); have n6_ := Aside0.mk ((y22_ : gb110 ≠ gb115)); have n7_ := Aside0.mk ((y23_ : gb115 ≠ gb110)); clear HO_6; clear BK110; clear HB; have HO_6 := n0_; have BK110 := n1_; have HB := n2_; have BK115 := n3_; have GW115 := n4_; have GE115 := n5_; have NB110_115 := n6_; have NB115_110 := n7_; clear n0_ n1_ n2_ n3_ n4_ n5_ n6_ n7_; clear hb hbox hg; have hnb35 := NB115_110.out; have hnc35 := NB110_115.out; have hcz36_0 : w34.cell? ⟨gb115, 0, none⟩ = some (.int .i64 0) := (blk_cell BK115.out 0).trans rfl; have hcz36_1 : w34.cell? ⟨gb115, 1, none⟩ = some (.int .u64 0) := (blk_cell BK115.out 1).trans rfl; have hcz36_2 : w34.cell? ⟨gb115, 2, none⟩ = some (.bool false) := (blk_cell BK115.out 2).trans rfl; have hcz36_3 : w34.cell? ⟨gb115, 3, none⟩ = some (.int .u64 0) := (blk_cell BK115.out 3).trans rfl; have hcz36_4 : w34.cell? ⟨gb115, 4, none⟩ = some (.int .u64 0) := (blk_cell BK115.out 4).trans rfl; have hfz36_0 := blk_frozen BK115.out 0; have hfz36_1 := blk_frozen BK115.out 1; have hfz36_2 := blk_frozen BK115.out 2; have hfz36_3 := blk_frozen BK115.out 3; have hfz36_4 := blk_frozen BK115.out 4; have hcz37_0 : w34.cell? ⟨gb110, 0, none⟩ = some (.int .u64 x111000_1) := (blk_cell BK110.out 0).trans rfl; have hcz37_1 : w34.cell? ⟨gb110, 1, none⟩ = some (.int .u64 x111001_1) := (blk_cell BK110.out 1).trans rfl; have hcz37_2 : w34.cell? ⟨gb110, 2, none⟩ = some (.int .u64 x111002_1) := (blk_cell BK110.out 2).trans rfl; have hcz37_3 : w34.cell? ⟨gb110, 3, none⟩ = some (.int .i64 x111003_1) := (blk_cell BK110.out 3).trans rfl; have hfz37_0 := blk_frozen BK110.out 0; have hfz37_1 := blk_frozen BK110.out 1; have hfz37_2 := blk_frozen BK110.out 2; have hfz37_3 := blk_frozen BK110.out 3) | ((with_reducible refine gate_callee (f := 18) rfl ?_); refine goesL_ (some 29) rfl rfl Tryd.func18 (by kernel_rfl) rfl #[.agg #[.int .u64 x111000_1, .int .u64 x111001_1, .int .u64 x111002_1, .int .i64 x111003_1], .int .i64 ((rd_T33 l1 x17_1).f0)] rfl y6_ ?_; (with_reducible refine (limit_Fill.calls x111000_1 x111001_1 x111002_1 x111003_1 ((rd_T33 l1 x17_1).f0) t116 t117 t118 t119 _ A14.out).mono ?_); rintro e w38 ⟨rfl, hb⟩; refine ⟨_, rfl, ?_⟩; have n0_ := Aside0.mk (Kd.R_below y19_ hb); have n1_ := Aside0.mk (blk_below (g := gb110) (o := .cells #[.int .u64 x111000_1, .int .u64 x111001_1, .int .u64 x111002_1, .int .i64 x111003_1] 30 (0, 0)) y11_ hb); have n2_ := Aside0.mk (blk_below (g := gb115) (o := .cells #[.int .i64 ((rd_T33 l1 x17_1).f0), .int .u64 ((rd_T33 l1 x17_1).f1), .bool ((rd_T33 l1 x17_1).f2), .int .u64 ((rd_T33 l1 x17_1).f3), .int .u64 ((rd_T33 l1 x17_1).f4)] 33 (0, 0)) y7_ hb); have n3_ := Aside0.mk (below_step y12_ hb); clear HO_6; clear BK110; clear BK115; clear HB; have HO_6 := n0_; have BK110 := n1_; have BK115 := n2_; have HB := n3_; clear n0_ n1_ n2_ n3_; (try clear hb); (try clear hb2); (try clear hk); (try clear hi)) | ((with_reducible refine gate_dst (N := 11) rfl ?_); refine box_event ?hg (N := 11) ?hd (cs := #[.int .u64 0, .int .u64 0, .int .u64 0, .int .i64 0]) (t := 30) ?hr ?_; (case hd => rfl); (case hg => rfl); (case hr => first | (go_simp; done) | (go_simp; rfl)); intro gb120 hg w39 hbox hb; have n0_ := Aside0.mk (Kd.R_below y30_ hb); have n1_ := Aside0.mk (blk_below (g := gb110) (o := .cells #[.int .u64 x111000_1, .int .u64 x111001_1, .int .u64 x111002_1, .int .i64 x111003_1] 30 (0, 0)) y8_ hb); have n2_ := Aside0.mk (blk_below (g := gb115) (o := .cells #[.int .i64 ((rd_T33 l1 x17_1).f0), .int .u64 ((rd_T33 l1 x17_1).f1), .bool ((rd_T33 l1 x17_1).f2), .int .u64 ((rd_T33 l1 x17_1).f3), .int .u64 ((rd_T33 l1 x17_1).f4)] 33 (0, 0)) y25_ hb); have n3_ := Aside0.mk (below_step y12_ hb); have n4_ := Aside0.mk (hbox); have n5_ := Aside0.mk ((by rw [hg]; exact (below_size y12_) : w.heap.size ≤ gb120)); have n6_ := Aside0.mk ((by rw [hg]; exact (below_size y12_) : w.heap.size ≤ gb120)); have n7_ := Aside0.mk ((y22_ : gb110 ≠ gb120)); have n8_ := Aside0.mk ((y23_ : gb120 ≠ gb110)); have n9_ := Aside0.mk ((y35_ : gb115 ≠ gb120)); have n10_ := Aside0.mk ((y36_ : gb120 ≠ gb115)); clear HO_6; clear BK110; clear BK115; clear HB; have HO_6 := n0_; have BK110 := n1_; have BK115 := n2_; have HB := n3_; have BK120 := n4_; have GW120 := n5_; have GE120 := n6_; have NB110_120 := n7_; have NB120_110 := n8_; have NB115_120 := n9_; have NB120_115 := n10_; clear n0_ n1_ n2_ n3_ n4_ n5_ n6_ n7_ n8_ n9_ n10_; clear hb hbox hg; have hnb40 := NB120_110.out; have hnc40 := NB110_120.out; have hnb41 := NB120_115.out; have hnc41 := NB115_120.out; have hcz42_0 : w39.cell? ⟨gb120, 0, none⟩ = some (.int .u64 0) := (blk_cell BK120.out 0).trans rfl; have hcz42_1 : w39.cell? ⟨gb120, 1, none⟩ = some (.int .u64 0) := (blk_cell BK120.out 1).trans rfl; have hcz42_2 : w39.cell? ⟨gb120, 2, none⟩ = some (.int .u64 0) := (blk_cell BK120.out 2).trans rfl; have hcz42_3 : w39.cell? ⟨gb120, 3, none⟩ = some (.int .i64 0) := (blk_cell BK120.out 3).trans rfl; have hfz42_0 := blk_frozen BK120.out 0; have hfz42_1 := blk_frozen BK120.out 1; have hfz42_2 := blk_frozen BK120.out 2; have hfz42_3 := blk_frozen BK120.out 3; have hcz43_0 : w39.cell? ⟨gb110, 0, none⟩ = some (.int .u64 x111000_1) := (blk_cell BK110.out 0).trans rfl; have hcz43_1 : w39.cell? ⟨gb110, 1, none⟩ = some (.int .u64 x111001_1) := (blk_cell BK110.out 1).trans rfl; have hcz43_2 : w39.cell? ⟨gb110, 2, none⟩ = some (.int .u64 x111002_1) := (blk_cell BK110.out 2).trans rfl; have hcz43_3 : w39.cell? ⟨gb110, 3, none⟩ = some (.int .i64 x111003_1) := (blk_cell BK110.out 3).trans rfl; have hfz43_0 := blk_frozen BK110.out 0; have hfz43_1 := blk_frozen BK110.out 1; have hfz43_2 := blk_frozen BK110.out 2; have hfz43_3 := blk_frozen BK110.out 3; have hcz44_0 : w39.cell? ⟨gb115, 0, none⟩ = some (.int .i64 ((rd_T33 l1 x17_1).f0)) := (blk_cell BK115.out 0).trans rfl; have hcz44_1 : w39.cell? ⟨gb115, 1, none⟩ = some (.int .u64 ((rd_T33 l1 x17_1).f1)) := (blk_cell BK115.out 1).trans rfl; have hcz44_2 : w39.cell? ⟨gb115, 2, none⟩ = some (.bool ((rd_T33 l1 x17_1).f2)) := (blk_cell BK115.out 2).trans rfl; have hcz44_3 : w39.cell? ⟨gb115, 3, none⟩ = some (.int .u64 ((rd_T33 l1 x17_1).f3)) := (blk_cell BK115.out 3).trans rfl; have hcz44_4 : w39.cell? ⟨gb115, 4, none⟩ = some (.int .u64 ((rd_T33 l1 x17_1).f4)) := (blk_cell BK115.out 4).trans rfl; have hfz44_0 := blk_frozen BK115.out 0; have hfz44_1 := blk_frozen BK115.out 1; have hfz44_2 := blk_frozen BK115.out 2; have hfz44_3 := blk_frozen BK115.out 3; have hfz44_4 := blk_frozen BK115.out 4) | ((with_reducible refine gate_callee (f := 23) rfl ?_); refine goesL_ (some 35) rfl rfl Tryd.func23 (by kernel_rfl) rfl #[.agg #[.int .u64 x111000_1, .int .u64 x111001_1, .int .u64 x111002_1, .int .i64 x111003_1], .int .i64 ((rd_T33 l1 x17_1).f0), .int .u64 ((rd_T33 l1 x17_1).f1)] rfl y6_ ?_; (with_reducible refine (limit_Take.calls x111000_1 x111001_1 x111002_1 x111003_1 ((rd_T33 l1 x17_1).f0) ((rd_T33 l1 x17_1).f1) t121 t122 t123 t124 true _ A15.out).mono ?_); rintro e w45 ⟨rfl, hb⟩; refine ⟨_, rfl, ?_⟩; have n0_ := Aside0.mk (Kd.R_below y24_ hb); have n1_ := Aside0.mk (blk_below (g := gb110) (o := .cells #[.int .u64 x111000_1, .int .u64 x111001_1, .int .u64 x111002_1, .int .i64 x111003_1] 30 (0, 0)) y18_ hb); have n2_ := Aside0.mk (blk_below (g := gb115) (o := .cells #[.int .i64 ((rd_T33 l1 x17_1).f0), .int .u64 ((rd_T33 l1 x17_1).f1), .bool ((rd_T33 l1 x17_1).f2), .int .u64 ((rd_T33 l1 x17_1).f3), .int .u64 ((rd_T33 l1 x17_1).f4)] 33 (0, 0)) y17_ hb); have n3_ := Aside0.mk (blk_below (g := gb120) (o := .cells #[.int .u64 t116, .int .u64 t117, .int .u64 t118, .int .i64 t119] 30 (0, 0)) y14_ hb); have n4_ := Aside0.mk (below_step y15_ hb); clear HO_6; clear BK110; clear BK115; clear BK120; clear HB; have HO_6 := n0_; have BK110 := n1_; have BK115 := n2_; have BK120 := n3_; have HB := n4_; clear n0_ n1_ n2_ n3_ n4_; (try clear hb); (try clear hb2); (try clear hk); (try clear hi); have hcz46_0 : w45.cell? ⟨gb110, 0, none⟩ = some (.int .u64 x111000_1) := (blk_cell BK110.out 0).trans rfl; have hcz46_1 : w45.cell? ⟨gb110, 1, none⟩ = some (.int .u64 x111001_1) := (blk_cell BK110.out 1).trans rfl; have hcz46_2 : w45.cell? ⟨gb110, 2, none⟩ = some (.int .u64 x111002_1) := (blk_cell BK110.out 2).trans rfl; have hcz46_3 : w45.cell? ⟨gb110, 3, none⟩ = some (.int .i64 x111003_1) := (blk_cell BK110.out 3).trans rfl; have hfz46_0 := blk_frozen BK110.out 0; have hfz46_1 := blk_frozen BK110.out 1; have hfz46_2 := blk_frozen BK110.out 2; have hfz46_3 := blk_frozen BK110.out 3; have hcz47_0 : w45.cell? ⟨gb120, 0, none⟩ = some (.int .u64 t116) := (blk_cell BK120.out 0).trans rfl; have hcz47_1 : w45.cell? ⟨gb120, 1, none⟩ = some (.int .u64 t117) := (blk_cell BK120.out 1).trans rfl; have hcz47_2 : w45.cell? ⟨gb120, 2, none⟩ = some (.int .u64 t118) := (blk_cell BK120.out 2).trans rfl; have hcz47_3 : w45.cell? ⟨gb120, 3, none⟩ = some (.int .i64 t119) := (blk_cell BK120.out 3).trans rfl; have hfz47_0 := blk_frozen BK120.out 0; have hfz47_1 := blk_frozen BK120.out 1; have hfz47_2 := blk_frozen BK120.out 2; have hfz47_3 := blk_frozen BK120.out 3; have hcz48_0 : w45.cell? ⟨gb115, 0, none⟩ = some (.int .i64 ((rd_T33 l1 x17_1).f0)) := (blk_cell BK115.out 0).trans rfl; have hcz48_1 : w45.cell? ⟨gb115, 1, none⟩ = some (.int .u64 ((rd_T33 l1 x17_1).f1)) := (blk_cell BK115.out 1).trans rfl; have hcz48_2 : w45.cell? ⟨gb115, 2, none⟩ = some (.bool ((rd_T33 l1 x17_1).f2)) := (blk_cell BK115.out 2).trans rfl; have hcz48_3 : w45.cell? ⟨gb115, 3, none⟩ = some (.int .u64 ((rd_T33 l1 x17_1).f3)) := (blk_cell BK115.out 3).trans rfl; have hcz48_4 : w45.cell? ⟨gb115, 4, none⟩ = some (.int .u64 ((rd_T33 l1 x17_1).f4)) := (blk_cell BK115.out 4).trans rfl; have hfz48_0 := blk_frozen BK115.out 0; have hfz48_1 := blk_frozen BK115.out 1; have hfz48_2 := blk_frozen BK115.out 2; have hfz48_3 := blk_frozen BK115.out 3; have hfz48_4 := blk_frozen BK115.out 4) | ((with_reducible refine gate_builtin (b := .append) (xs := #[.tmp 46, .tmp 51]) rfl ?_); at_builtin; refine Kd.R_append k33 (w0 := w) w.heap.size rfl (.tmp 46) (.tmp 51) 26 33 (.agg #[(.int .i64 0), (.int .u64 0), (.bool false), (.int .u64 0), (.int .u64 0)]) 40 rfl Tryd.underlying26 info33 rfl (by decide) (by omega) u6 x6_1 (⟨(rd_T33 l1 x17_1).f0, (rd_T33 l1 x17_1).f1, false, 0, 0⟩ : S33) [.int .i64 ((rd_T33 l1 x17_1).f0), .int .u64 ((rd_T33 l1 x17_1).f1), .bool false, .int .u64 0, .int .u64 0] (fun k_ => k_ ≠ gb115) (fun _ => False) rfl (by first | (go_simp; done) | (go_simp; rfl)) ?aP (fun _ hk => hk.elim) ?aF ?aO ?aB ?aS ?aL ?_; (case aP => exact k33_mkM _ _ _ (⟨(rd_T33 l1 x17_1).f0, (rd_T33 l1 x17_1).f1, false, 0, 0⟩ : S33)); (case aB => exact y15_); (case aF => exact (fun k_ hk => Kd.freshB (g := gb115) (o := .cells #[.int .i64 ((rd_T33 l1 x17_1).f0), .int .u64 ((rd_T33 l1 x17_1).f1), .bool ((rd_T33 l1 x17_1).f2), .int .u64 ((rd_T33 l1 x17_1).f3), .int .u64 ((rd_T33 l1 x17_1).f4)] 33 (0, 0)) y32_ k_ hk)); (case aO => exact (by (with_reducible repeat (first | apply Kd.R_alloc | apply Kd.R_drewN | apply Kd.R_drew)); exact Kd.R_mono (Kd.R_far (p := ⟨gb110, 3, none⟩) (Kd.R_far (p := ⟨gb110, 2, none⟩) (Kd.R_far (p := ⟨gb110, 1, none⟩) (Kd.R_far (p := ⟨gb110, 0, none⟩) (Kd.R_types HO_6.out BK110.out (by decide)) (fun _ hk => hk.2) (.int .u64 t121)) (fun _ hk => hk.2) (.int .u64 t122)) (fun _ hk => hk.2) (.int .u64 t123)) (fun _ hk => hk.2) (.int .i64 t124)) (fun _ hk => hk.1.2))); (case aS => exact (below_size y15_)); (case aL => have := LMc33.out; omega); intro v127 w49 ho hb hg hat; rw [← Ny126.out] at ho; have n0_ := Aside0.mk (blk_grown (g := gb110) (o := .cells #[.int .u64 t121, .int .u64 t122, .int .u64 t123, .int .i64 t124] 30 (0, 0)) y21_ hg (Kd.R_ne HO_6.out BK110.out (by decide))); have n1_ := Aside0.mk (blk_grown (g := gb115) (o := .cells #[.int .i64 ((rd_T33 l1 x17_1).f0), .int .u64 ((rd_T33 l1 x17_1).f1), .bool ((rd_T33 l1 x17_1).f2), .int .u64 ((rd_T33 l1 x17_1).f3), .int .u64 ((rd_T33 l1 x17_1).f4)] 33 (0, 0)) y32_ hg (Kd.R_away HO_6.out (fun _ hk => hk.2))); have n2_ := Aside0.mk (blk_grown (g := gb120) (o := .cells #[.int .u64 t116, .int .u64 t117, .int .u64 t118, .int .i64 t119] 30 (0, 0)) (by (with_reducible repeat (first | refine blk_drewN ?_ _ | refine blk_drew ?_ | refine blk_alloc ?_ _)); refine blk_far ?_ NB120_110.out _; (with_reducible repeat (first | refine blk_drewN ?_ _ | refine blk_drew ?_ | refine blk_alloc ?_ _)); refine blk_far ?_ NB120_110.out _; (with_reducible repeat (first | refine blk_drewN ?_ _ | refine blk_drew ?_ | refine blk_alloc ?_ _)); refine blk_far ?_ NB120_110.out _; (with_reducible repeat (first | refine blk_drewN ?_ _ | refine blk_drew ?_ | refine blk_alloc ?_ _)); refine blk_far ?_ NB120_110.out _; (with_reducible repeat (first | refine blk_drewN ?_ _ | refine blk_drew ?_ | refine blk_alloc ?_ _)); exact BK120.out) hg (Kd.R_ne HO_6.out BK120.out (by decide))); have n3_ := Aside0.mk (hb); have n4_ := Aside0.mk (ho); clear BK110; clear BK115; clear BK120; clear HB; clear HO_6; have BK110 := n0_; have BK115 := n1_; have BK120 := n2_; have HB := n3_; have HO128 := n4_; clear n0_ n1_ n2_ n3_ n4_; clear ho hb hg hat))
          go_roundg k1
          case measure => have := HK1.out; omega
          case rel => exact ⟨(y126), ((rd_T33 l1 x17_1).f0), (wrap64 (x17_1 + 1)), (t121), (t122), (t123), (t124), y9_, y9_, H', ⟨by have := HK1.out; omega⟩, ⟨by (with_reducible repeat (first | apply Kd.R_alloc | apply Kd.R_drewN | apply Kd.R_drew)); exact Kd.R_mono HO128.out (fun _ hk => trivial)⟩, ⟨y8_⟩, ⟨y15_⟩⟩
         ·rw [if_neg c33] at H
          exact absurd H (by simp)
        ·replace c32 := Bool.eq_false_iff.mpr c32
         subst c32
         have H1 : (manometerlaw19_took.l0 k1 x6_1 ((rd_T33 l1 x17_1).f0) l1 (l1.length : Int) (wrap64 (x17_1 + 1)) t121 t122 t123 t124) = some (r1, r2) := by rw [if_neg (show ¬ (false = true) by decide)] at H; exact H
         clear H
         have H := H1
         clear H1
         have H' := Aside0.mk H
         clear H
         have p114 : 0 ≤ (x17_1 : Int) := of_decide_eq_true y4_
         have q114 : x17_1 < (l1.length : Int) := of_decide_eq_true y4_
         obtain ⟨ad114, e114, hx114_0, hx114_1, hx114_2, hx114_3, hx114_4⟩ := at_T33 HR1.out x17_1 p114 q114
         cases e114
         replace hx114_0 := (HB.out.cell (World.block_lt_of_cell? w _ hx114_0)).trans hx114_0
         replace hx114_1 := (HB.out.cell (World.block_lt_of_cell? w _ hx114_1)).trans hx114_1
         replace hx114_2 := (HB.out.cell (World.block_lt_of_cell? w _ hx114_2)).trans hx114_2
         replace hx114_3 := (HB.out.cell (World.block_lt_of_cell? w _ hx114_3)).trans hx114_3
         replace hx114_4 := (HB.out.cell (World.block_lt_of_cell? w _ hx114_4)).trans hx114_4
         replace p114 := eq_true p114
         replace q114 := eq_true q114
         go_wp2_with (first | ((with_reducible refine gate_dst (N := 9) rfl ?_); refine box_event ?hg (N := 9) ?hd (cs := #[.int .i64 0, .int .u64 0, .bool false, .int .u64 0, .int .u64 0]) (t := 33) ?hr ?_; (case hd => rfl); (case hg => rfl); (case hr => first | (go_simp; done) | (go_simp; rfl)); intro gb115 hg w50 hbox hb; have n0_ := Aside0.mk (Kd.R_below (Kd.R_elderB y30_ gb115 (Nat.le_of_eq hg.symm)) hb); have n1_ := Aside0.mk (blk_below (g := gb110) (o := .cells #[.int .u64 x111000_1, .int .u64 x111001_1, .int .u64 x111002_1, .int .i64 x111003_1] 30 (0, 0)) y8_ hb); have n2_ := Aside0.mk (below_step y10_ hb); have n3_ := Aside0.mk (hbox); have n4_ := Aside0.mk ((y37_ : w.heap.size ≤ gb115)); have n5_ := Aside0.mk ((y37_ : w.heap.size ≤ gb115)); have n6_ := Aside0.mk ((y22_ : gb110 ≠ gb115)); have n7_ := Aside0.mk ((y23_ : gb115 ≠ gb110)); clear HO_6; clear BK110; clear HB; have HO_6 := n0_; have BK110 := n1_; have HB := n2_; have BK115 := n3_; have GW115 := n4_; have GE115 := n5_; have NB110_115 := n6_; have NB115_110 := n7_; clear n0_ n1_ n2_ n3_ n4_ n5_ n6_ n7_; clear hb hbox hg; have hnb51 := NB115_110.out; have hnc51 := NB110_115.out; have hcz52_0 : w50.cell? ⟨gb115, 0, none⟩ = some (.int .i64 0) := (blk_cell BK115.out 0).trans rfl; have hcz52_1 : w50.cell? ⟨gb115, 1, none⟩ = some (.int .u64 0) := (blk_cell BK115.out 1).trans rfl; have hcz52_2 : w50.cell? ⟨gb115, 2, none⟩ = some (.bool false) := (blk_cell BK115.out 2).trans rfl; have hcz52_3 : w50.cell? ⟨gb115, 3, none⟩ = some (.int .u64 0) := (blk_cell BK115.out 3).trans rfl; have hcz52_4 : w50.cell? ⟨gb115, 4, none⟩ = some (.int .u64 0) := (blk_cell BK115.out 4).trans rfl; have hfz52_0 := blk_frozen BK115.out 0; have hfz52_1 := blk_frozen BK115.out 1; have hfz52_2 := blk_frozen BK115.out 2; have hfz52_3 := blk_frozen BK115.out 3; have hfz52_4 := blk_frozen BK115.out 4; have hcz53_0 : w50.cell? ⟨gb110, 0, none⟩ = some (.int .u64 x111000_1) := (blk_cell BK110.out 0).trans rfl; have hcz53_1 : w50.cell? ⟨gb110, 1, none⟩ = some (.int .u64 x111001_1) := (blk_cell BK110.out 1).trans rfl; have hcz53_2 : w50.cell? ⟨gb110, 2, none⟩ = some (.int .u64 x111002_1) := (blk_cell BK110.out 2).trans rfl; have hcz53_3 : w50.cell? ⟨gb110, 3, none⟩ = some (.int .i64 x111003_1) := (blk_cell BK110.out 3).trans rfl; have hfz53_0 := blk_frozen BK110.out 0; have hfz53_1 := blk_frozen BK110.out 1; have hfz53_2 := blk_frozen BK110.out 2; have hfz53_3 := blk_frozen BK110.out 3) | ((with_reducible refine gate_callee (f := 18) rfl ?_); refine goesL_ (some 29) rfl rfl Tryd.func18 (by kernel_rfl) rfl #[.agg #[.int .u64 x111000_1, .int .u64 x111001_1, .int .u64 x111002_1, .int .i64 x111003_1], .int .i64 ((rd_T33 l1 x17_1).f0)] rfl y6_ ?_; (with_reducible refine (limit_Fill.calls x111000_1 x111001_1 x111002_1 x111003_1 ((rd_T33 l1 x17_1).f0) t116 t117 t118 t119 _ A14.out).mono ?_); rintro e w54 ⟨rfl, hb⟩; refine ⟨_, rfl, ?_⟩; have n0_ := Aside0.mk (Kd.R_below y19_ hb); have n1_ := Aside0.mk (blk_below (g := gb110) (o := .cells #[.int .u64 x111000_1, .int .u64 x111001_1, .int .u64 x111002_1, .int .i64 x111003_1] 30 (0, 0)) y11_ hb); have n2_ := Aside0.mk (blk_below (g := gb115) (o := .cells #[.int .i64 ((rd_T33 l1 x17_1).f0), .int .u64 ((rd_T33 l1 x17_1).f1), .bool ((rd_T33 l1 x17_1).f2), .int .u64 ((rd_T33 l1 x17_1).f3), .int .u64 ((rd_T33 l1 x17_1).f4)] 33 (0, 0)) y7_ hb); have n3_ := Aside0.mk (below_step y12_ hb); clear HO_6; clear BK110; clear BK115; clear HB; have HO_6 := n0_; have BK110 := n1_; have BK115 := n2_; have HB := n3_; clear n0_ n1_ n2_ n3_; (try clear hb); (try clear hb2); (try clear hk); (try clear hi)) | ((with_reducible refine gate_dst (N := 11) rfl ?_); refine box_event ?hg (N := 11) ?hd (cs := #[.int .u64 0, .int .u64 0, .int .u64 0, .int .i64 0]) (t := 30) ?hr ?_; (case hd => rfl); (case hg => rfl); (case hr => first | (go_simp; done) | (go_simp; rfl)); intro gb120 hg w55 hbox hb; have n0_ := Aside0.mk (Kd.R_below y30_ hb); have n1_ := Aside0.mk (blk_below (g := gb110) (o := .cells #[.int .u64 x111000_1, .int .u64 x111001_1, .int .u64 x111002_1, .int .i64 x111003_1] 30 (0, 0)) y8_ hb); have n2_ := Aside0.mk (blk_below (g := gb115) (o := .cells #[.int .i64 ((rd_T33 l1 x17_1).f0), .int .u64 ((rd_T33 l1 x17_1).f1), .bool ((rd_T33 l1 x17_1).f2), .int .u64 ((rd_T33 l1 x17_1).f3), .int .u64 ((rd_T33 l1 x17_1).f4)] 33 (0, 0)) y25_ hb); have n3_ := Aside0.mk (below_step y12_ hb); have n4_ := Aside0.mk (hbox); have n5_ := Aside0.mk ((by rw [hg]; exact (below_size y12_) : w.heap.size ≤ gb120)); have n6_ := Aside0.mk ((by rw [hg]; exact (below_size y12_) : w.heap.size ≤ gb120)); have n7_ := Aside0.mk ((y22_ : gb110 ≠ gb120)); have n8_ := Aside0.mk ((y23_ : gb120 ≠ gb110)); have n9_ := Aside0.mk ((y35_ : gb115 ≠ gb120)); have n10_ := Aside0.mk ((y36_ : gb120 ≠ gb115)); clear HO_6; clear BK110; clear BK115; clear HB; have HO_6 := n0_; have BK110 := n1_; have BK115 := n2_; have HB := n3_; have BK120 := n4_; have GW120 := n5_; have GE120 := n6_; have NB110_120 := n7_; have NB120_110 := n8_; have NB115_120 := n9_; have NB120_115 := n10_; clear n0_ n1_ n2_ n3_ n4_ n5_ n6_ n7_ n8_ n9_ n10_; clear hb hbox hg; have hnb56 := NB120_110.out; have hnc56 := NB110_120.out; have hnb57 := NB120_115.out; have hnc57 := NB115_120.out; have hcz58_0 : w55.cell? ⟨gb120, 0, none⟩ = some (.int .u64 0) := (blk_cell BK120.out 0).trans rfl; have hcz58_1 : w55.cell? ⟨gb120, 1, none⟩ = some (.int .u64 0) := (blk_cell BK120.out 1).trans rfl; have hcz58_2 : w55.cell? ⟨gb120, 2, none⟩ = some (.int .u64 0) := (blk_cell BK120.out 2).trans rfl; have hcz58_3 : w55.cell? ⟨gb120, 3, none⟩ = some (.int .i64 0) := (blk_cell BK120.out 3).trans rfl; have hfz58_0 := blk_frozen BK120.out 0; have hfz58_1 := blk_frozen BK120.out 1; have hfz58_2 := blk_frozen BK120.out 2; have hfz58_3 := blk_frozen BK120.out 3; have hcz59_0 : w55.cell? ⟨gb110, 0, none⟩ = some (.int .u64 x111000_1) := (blk_cell BK110.out 0).trans rfl; have hcz59_1 : w55.cell? ⟨gb110, 1, none⟩ = some (.int .u64 x111001_1) := (blk_cell BK110.out 1).trans rfl; have hcz59_2 : w55.cell? ⟨gb110, 2, none⟩ = some (.int .u64 x111002_1) := (blk_cell BK110.out 2).trans rfl; have hcz59_3 : w55.cell? ⟨gb110, 3, none⟩ = some (.int .i64 x111003_1) := (blk_cell BK110.out 3).trans rfl; have hfz59_0 := blk_frozen BK110.out 0; have hfz59_1 := blk_frozen BK110.out 1; have hfz59_2 := blk_frozen BK110.out 2; have hfz59_3 := blk_frozen BK110.out 3; have hcz60_0 : w55.cell? ⟨gb115, 0, none⟩ = some (.int .i64 ((rd_T33 l1 x17_1).f0)) := (blk_cell BK115.out 0).trans rfl; have hcz60_1 : w55.cell? ⟨gb115, 1, none⟩ = some (.int .u64 ((rd_T33 l1 x17_1).f1)) := (blk_cell BK115.out 1).trans rfl; have hcz60_2 : w55.cell? ⟨gb115, 2, none⟩ = some (.bool ((rd_T33 l1 x17_1).f2)) := (blk_cell BK115.out 2).trans rfl; have hcz60_3 : w55.cell? ⟨gb115, 3, none⟩ = some (.int .u64 ((rd_T33 l1 x17_1).f3)) := (blk_cell BK115.out 3).trans rfl; have hcz60_4 : w55.cell? ⟨gb115, 4, none⟩ = some (.int .u64 ((rd_T33 l1 x17_1).f4)) := (blk_cell BK115.out 4).trans rfl; have hfz60_0 := blk_frozen BK115.out 0; have hfz60_1 := blk_frozen BK115.out 1; have hfz60_2 := blk_frozen BK115.out 2; have hfz60_3 := blk_frozen BK115.out 3; have hfz60_4 := blk_frozen BK115.out 4) | ((with_reducible refine gate_callee (f := 23) rfl ?_); refine goesL_ (some 35) rfl rfl Tryd.func23 (by kernel_rfl) rfl #[.agg #[.int .u64 x111000_1, .int .u64 x111001_1, .int .u64 x111002_1, .int .i64 x111003_1], .int .i64 ((rd_T33 l1 x17_1).f0), .int .u64 ((rd_T33 l1 x17_1).f1)] rfl y6_ ?_; (with_reducible refine (limit_Take.calls x111000_1 x111001_1 x111002_1 x111003_1 ((rd_T33 l1 x17_1).f0) ((rd_T33 l1 x17_1).f1) t121 t122 t123 t124 false _ A15.out).mono ?_); rintro e w61 ⟨rfl, hb⟩; refine ⟨_, rfl, ?_⟩; have n0_ := Aside0.mk (Kd.R_below y24_ hb); have n1_ := Aside0.mk (blk_below (g := gb110) (o := .cells #[.int .u64 x111000_1, .int .u64 x111001_1, .int .u64 x111002_1, .int .i64 x111003_1] 30 (0, 0)) y18_ hb); have n2_ := Aside0.mk (blk_below (g := gb115) (o := .cells #[.int .i64 ((rd_T33 l1 x17_1).f0), .int .u64 ((rd_T33 l1 x17_1).f1), .bool ((rd_T33 l1 x17_1).f2), .int .u64 ((rd_T33 l1 x17_1).f3), .int .u64 ((rd_T33 l1 x17_1).f4)] 33 (0, 0)) y17_ hb); have n3_ := Aside0.mk (blk_below (g := gb120) (o := .cells #[.int .u64 t116, .int .u64 t117, .int .u64 t118, .int .i64 t119] 30 (0, 0)) y14_ hb); have n4_ := Aside0.mk (below_step y15_ hb); clear HO_6; clear BK110; clear BK115; clear BK120; clear HB; have HO_6 := n0_; have BK110 := n1_; have BK115 := n2_; have BK120 := n3_; have HB := n4_; clear n0_ n1_ n2_ n3_ n4_; (try clear hb); (try clear hb2); (try clear hk); (try clear hi); have hcz62_0 : w61.cell? ⟨gb110, 0, none⟩ = some (.int .u64 x111000_1) := (blk_cell BK110.out 0).trans rfl; have hcz62_1 : w61.cell? ⟨gb110, 1, none⟩ = some (.int .u64 x111001_1) := (blk_cell BK110.out 1).trans rfl; have hcz62_2 : w61.cell? ⟨gb110, 2, none⟩ = some (.int .u64 x111002_1) := (blk_cell BK110.out 2).trans rfl; have hcz62_3 : w61.cell? ⟨gb110, 3, none⟩ = some (.int .i64 x111003_1) := (blk_cell BK110.out 3).trans rfl; have hfz62_0 := blk_frozen BK110.out 0; have hfz62_1 := blk_frozen BK110.out 1; have hfz62_2 := blk_frozen BK110.out 2; have hfz62_3 := blk_frozen BK110.out 3; have hcz63_0 : w61.cell? ⟨gb120, 0, none⟩ = some (.int .u64 t116) := (blk_cell BK120.out 0).trans rfl; have hcz63_1 : w61.cell? ⟨gb120, 1, none⟩ = some (.int .u64 t117) := (blk_cell BK120.out 1).trans rfl; have hcz63_2 : w61.cell? ⟨gb120, 2, none⟩ = some (.int .u64 t118) := (blk_cell BK120.out 2).trans rfl; have hcz63_3 : w61.cell? ⟨gb120, 3, none⟩ = some (.int .i64 t119) := (blk_cell BK120.out 3).trans rfl; have hfz63_0 := blk_frozen BK120.out 0; have hfz63_1 := blk_frozen BK120.out 1; have hfz63_2 := blk_frozen BK120.out 2; have hfz63_3 := blk_frozen BK120.out 3; have hcz64_0 : w61.cell? ⟨gb115, 0, none⟩ = some (.int .i64 ((rd_T33 l1 x17_1).f0)) := (blk_cell BK115.out 0).trans rfl; have hcz64_1 : w61.cell? ⟨gb115, 1, none⟩ = some (.int .u64 ((rd_T33 l1 x17_1).f1)) := (blk_cell BK115.out 1).trans rfl; have hcz64_2 : w61.cell? ⟨gb115, 2, none⟩ = some (.bool ((rd_T33 l1 x17_1).f2)) := (blk_cell BK115.out 2).trans rfl; have hcz64_3 : w61.cell? ⟨gb115, 3, none⟩ = some (.int .u64 ((rd_T33 l1 x17_1).f3)) := (blk_cell BK115.out 3).trans rfl; have hcz64_4 : w61.cell? ⟨gb115, 4, none⟩ = some (.int .u64 ((rd_T33 l1 x17_1).f4)) := (blk_cell BK115.out 4).trans rfl; have hfz64_0 := blk_frozen BK115.out 0; have hfz64_1 := blk_frozen BK115.out 1; have hfz64_2 := blk_frozen BK115.out 2; have hfz64_3 := blk_frozen BK115.out 3; have hfz64_4 := blk_frozen BK115.out 4))
         go_roundg k1
         case measure => have := HK1.out; omega
         case rel => exact ⟨(x6_1), ((rd_T33 l1 x17_1).f0), (wrap64 (x17_1 + 1)), (t121), (t122), (t123), (t124), y9_, y9_, H', ⟨by have := HK1.out; omega⟩, ⟨by (with_reducible repeat (first | apply Kd.R_alloc | apply Kd.R_drewN | apply Kd.R_drew)); exact Kd.R_mono (Kd.R_far (p := ⟨gb110, 3, none⟩) (Kd.R_far (p := ⟨gb110, 2, none⟩) (Kd.R_far (p := ⟨gb110, 1, none⟩) (Kd.R_far (p := ⟨gb110, 0, none⟩) (Kd.R_types HO_6.out BK110.out (by decide)) (fun _ hk => hk.2) (.int .u64 t121)) (fun _ hk => hk.2) (.int .u64 t122)) (fun _ hk => hk.2) (.int .u64 t123)) (fun _ hk => hk.2) (.int .i64 t124)) (fun _ hk => trivial)⟩, ⟨y21_⟩, ⟨y15_⟩⟩
     ·rw [if_neg c9] at H
      exact absurd H (by simp)
    ·rw [if_neg c8] at H
     exact absurd H (by simp)
   ·rw [if_neg c7] at H
    have c7b0 : decide (x17_1 < (l1.length : Int)) = false := decide_eq_false c7
    clear c7
    simp only [Option.some.injEq, Prod.mk.injEq] at H
    obtain ⟨rfl, rfl⟩ := H
    go_wp2
    go_ret2
    exact ⟨_, y13_, y30_, y10_⟩
def limit_Full.f (a0 : Int) (a1 : Int) (a2 : Int) : Option (Int × Int × Int × Int) := some (a0, a1, a1, a2)
set_option maxHeartbeats 8000000 in
set_option maxRecDepth 100000 in
theorem limit_Full.calls (a0 : Int) (a1 : Int) (a2 : Int) (r1 : Int) (r2 : Int) (r3 : Int) (r4 : Int) (w : World) (h : limit_Full.f a0 a1 a2 = some (r1, r2, r3, r4)) :
  Calls Tryd.prog 17 #[.int .u64 a0, .int .u64 a1, .int .i64 a2] w fun e w' => e = .returned (.agg #[.int .u64 r1, .int .u64 r2, .int .u64 r3, .int .i64 r4]) ∧ Below w.heap.size w w' := by
 have hu30 := Tryd.underlying30
 have HB := Aside0.mk (Below.refl w.heap.size w)
 have H : (some (a0, a1, a1, a2)) = some (r1, r2, r3, r4) := h
 clear h
 simp only [Option.some.injEq, Prod.mk.injEq] at H
 obtain ⟨rfl, rfl, rfl, rfl⟩ := H
 go_enter Tryd.func17, Tryd.ntmps17
 go_wp2_with (first | ((with_reducible refine gate_dst (N := 6) rfl ?_); refine box_event ?hg (N := 6) ?hd (cs := #[.int .u64 0, .int .u64 0, .int .u64 0, .int .i64 0]) (t := 30) ?hr ?_; (case hd => rfl); (case hg => rfl); (case hr => first | (go_simp; done) | (go_simp; rfl)); intro gb129 hg w4 hbox hb; have n0_ := Aside0.mk (below_step y1_ hb); have n1_ := Aside0.mk (hbox); have n2_ := Aside0.mk ((y16_ : w.heap.size ≤ gb129)); have n3_ := Aside0.mk ((y16_ : w.heap.size ≤ gb129)); clear HB; have HB := n0_; have BK129 := n1_; have GW129 := n2_; have GE129 := n3_; clear n0_ n1_ n2_ n3_; clear hb hbox hg; have hcz5_0 : w4.cell? ⟨gb129, 0, none⟩ = some (.int .u64 0) := (blk_cell BK129.out 0).trans rfl; have hcz5_1 : w4.cell? ⟨gb129, 1, none⟩ = some (.int .u64 0) := (blk_cell BK129.out 1).trans rfl; have hcz5_2 : w4.cell? ⟨gb129, 2, none⟩ = some (.int .u64 0) := (blk_cell BK129.out 2).trans rfl; have hcz5_3 : w4.cell? ⟨gb129, 3, none⟩ = some (.int .i64 0) := (blk_cell BK129.out 3).trans rfl; have hfz5_0 := blk_frozen BK129.out 0; have hfz5_1 := blk_frozen BK129.out 1; have hfz5_2 := blk_frozen BK129.out 2; have hfz5_3 := blk_frozen BK129.out 3))
 refine bodyPost_ret (results_cell_row rfl _ _ gb129 30 #[.int .u64 a0, .int .u64 a1, .int .u64 a1, .int .i64 a2] (0, 0) _ rfl (by (with_reducible repeat (first | refine blk_drewN ?_ _ | refine blk_drew ?_ | refine blk_alloc ?_ _)); refine blk_put (cs := #[.int .u64 a0, .int .u64 a1, .int .u64 a1, .int .i64 0]) ?_ 3 _ rfl; (with_reducible repeat (first | refine blk_drewN ?_ _ | refine blk_drew ?_ | refine blk_alloc ?_ _)); refine blk_put (cs := #[.int .u64 a0, .int .u64 a1, .int .u64 0, .int .i64 0]) ?_ 2 _ rfl; (with_reducible repeat (first | refine blk_drewN ?_ _ | refine blk_drew ?_ | refine blk_alloc ?_ _)); refine blk_put (cs := #[.int .u64 a0, .int .u64 0, .int .u64 0, .int .i64 0]) ?_ 1 _ rfl; (with_reducible repeat (first | refine blk_drewN ?_ _ | refine blk_drew ?_ | refine blk_alloc ?_ _)); refine blk_put (cs := #[.int .u64 0, .int .u64 0, .int .u64 0, .int .i64 0]) ?_ 0 _ rfl; (with_reducible repeat (first | refine blk_drewN ?_ _ | refine blk_drew ?_ | refine blk_alloc ?_ _)); exact BK129.out) Tryd.underlying30 rfl (by kernel_rfl)) rfl ?_
 exact ⟨y13_, by repeat (first | (with_reducible first | exact HB.out | apply below_alloc | apply pw_below_drewN | apply below_drew1 | refine below_set ?_ GE129.out) | exact HB.out)⟩
mutual
def manometerlaw19_LimitBound.j0 : Nat → Int → Int → Int → List (S33) → Bool → Option (Bool)
 | 0, _, _, _, _, _ => none
 | k + 1, x0, x1, x2, x3, x20 => if x20 = true then ((manometerlaw19_live.f).bind fun t131 => (some t131)) else ((limit_Full.f x0 x1 x2).bind fun bt132 => ((manometerlaw19_took.f k bt132.1 bt132.2.1 bt132.2.2.1 bt132.2.2.2 x3).bind fun bt136 => (if bt136.2 = true then (manometerlaw19_LimitBound.l0 k x0 x1 bt136.1 (bt136.1.length : Int) 0) else (some false))))
def manometerlaw19_LimitBound.l0 : Nat → Int → Int → List (S33) → Int → Int → Option (Bool)
 | 0, _, _, _, _, _ => none
 | k + 1, x0, x1, x9, x34, x35 => if x35 < x34 then (manometerlaw19_LimitBound.l1 k x0 x1 x9 x35 0 x35 x34 x35) else (some true)
def manometerlaw19_LimitBound.l1 : Nat → Int → Int → List (S33) → Int → Int → Int → Int → Int → Option (Bool)
 | 0, _, _, _, _, _, _, _, _ => none
 | k + 1, x0, x1, x9, x11, x12, x13, x34, x35 => if x13 < (x9.length : Int) then (if 0 ≤ x13 then ((manometerref19_Plus.f x12 ((rd_T33 x9 x13).f1)).bind fun t141 => (if 0 ≤ x11 then (if x11 < (x9.length : Int) then ((manometerref19_Times.f x0 (IntKind.u64.wrap ((IntKind.u64.wrap ((rd_T33 x9 x13).f0)) - (IntKind.u64.wrap ((rd_T33 x9 x11).f0))))).bind fun t144 => ((manometerref19_Plus.f x1 t144).bind fun t145 => (if t141 > t145 then (some false) else (manometerlaw19_LimitBound.l1 k x0 x1 x9 x11 t141 (wrap64 (x13 + 1)) x34 x35)))) else (none)) else (none))) else (none)) else (manometerlaw19_LimitBound.l0 k x0 x1 x9 x34 (wrap64 (x35 + 1)))
end
def manometerlaw19_LimitBound.f (k : Nat) (a0 : Int) (a1 : Int) (a2 : Int) (l3 : List (S33)) : Option (Bool) := (manometerlaw19_live.f).bind fun t130 => (if t130 = true then (manometerlaw19_LimitBound.j0 k a0 a1 a2 l3 (decide ((l3.length : Int) > 120))) else (manometerlaw19_LimitBound.j0 k a0 a1 a2 l3 true))
set_option maxHeartbeats 8000000 in
set_option maxRecDepth 100000 in
theorem manometerlaw19_LimitBound.calls (k : Nat) (a0 : Int) (a1 : Int) (a2 : Int) (A3 : Option Addr) (c3 : Nat) (l3 : List (S33)) (r : Bool) (w : World) (hT : Aside0 (Tab w)) (hr3 : Kd.C k33 w A3 l3.length l3) (hc3 : l3.length ≤ c3) (h : manometerlaw19_LimitBound.f k a0 a1 a2 l3 = some r) :
  Calls Tryd.prog 4 #[.int .u64 a0, .int .u64 a1, .int .i64 a2, .slice A3 l3.length c3] w fun e w' => e = .returned (.bool r) ∧ Below w.heap.size w w' := by
 have HR3 := Aside0.mk hr3
 have HC3 := Aside0.mk hc3
 clear hr3 hc3
 have HB := Aside0.mk (Below.refl w.heap.size w)
 have H : ((manometerlaw19_live.f).bind fun t130 => (if t130 = true then (manometerlaw19_LimitBound.j0 k a0 a1 a2 l3 (decide ((l3.length : Int) > 120))) else (manometerlaw19_LimitBound.j0 k a0 a1 a2 l3 true))) = some r := h
 clear h
 have HC5 := Aside0.mk H
 clear H
 go_enter Tryd.func4, Tryd.ntmps4
 go_upto_region 1 with (fail)
 repeat (go_quiet (fail); go_upto_region 1 with (fail))
 go_cut [20] (fun v20 wc => ∃ (kq : Nat) (x20_4 : Bool), v20 = .bool x20_4 ∧ Aside0 (manometerlaw19_LimitBound.j0 kq a0 a1 a2 l3 x20_4 = some r) ∧ Aside0 (kq ≤ k) ∧ Aside0 (Below w.heap.size w wc))
 case first =>
  have H := HC5.out
  clear HC5
  replace H := Option.bind_eq_some_iff.mp H
  obtain ⟨t130, A60, H⟩ := H
  replace H : (if t130 = true then (manometerlaw19_LimitBound.j0 k a0 a1 a2 l3 (decide ((l3.length : Int) > 120))) else (manometerlaw19_LimitBound.j0 k a0 a1 a2 l3 true)) = some r := H
  have A6 := Aside0.mk A60
  clear A60
  by_cases c7 : t130 = true
  ·subst c7
   have H1 : (manometerlaw19_LimitBound.j0 k a0 a1 a2 l3 (decide ((l3.length : Int) > 120))) = some r := by rw [if_pos rfl] at H; exact H
   clear H
   have H := H1
   clear H1
   have H' := Aside0.mk H
   clear H
   go_wp2_with (first | (go_at_call 11; (with_reducible refine (manometerlaw19_live.calls  true _ ?side1 A6.out).mono ?_); (case side1 => exact ⟨Tab_below hT.out y1_⟩); rintro e w8 ⟨rfl, hb⟩; have n0_ := Aside0.mk (below_step y1_ hb); clear HB; have HB := n0_; clear n0_; (try clear hb); (try clear hb2); (try clear hk); (try clear hi)))
   repeat (go_quiet (first | (go_at_call 11; (with_reducible refine (manometerlaw19_live.calls  true _ ?side1 A6.out).mono ?_); (case side1 => exact ⟨Tab_below hT.out y1_⟩); rintro e w8 ⟨rfl, hb⟩; have n0_ := Aside0.mk (below_step y1_ hb); clear HB; have HB := n0_; clear n0_; (try clear hb); (try clear hb2); (try clear hk); (try clear hi))); try go_wp2_with (first | (go_at_call 11; (with_reducible refine (manometerlaw19_live.calls  true _ ?side1 A6.out).mono ?_); (case side1 => exact ⟨Tab_below hT.out y1_⟩); rintro e w8 ⟨rfl, hb⟩; have n0_ := Aside0.mk (below_step y1_ hb); clear HB; have HB := n0_; clear n0_; (try clear hb); (try clear hb2); (try clear hk); (try clear hi))))
   go_meet
   case rel => exact ⟨_, (decide ((l3.length : Int) > 120)), y9_, H', ⟨by first | omega | exact Nat.le_refl _⟩, ⟨y1_⟩⟩
  ·replace c7 := Bool.eq_false_iff.mpr c7
   subst c7
   have H1 : (manometerlaw19_LimitBound.j0 k a0 a1 a2 l3 true) = some r := by rw [if_neg (show ¬ (false = true) by decide)] at H; exact H
   clear H
   have H := H1
   clear H1
   have H' := Aside0.mk H
   clear H
   go_wp2_with (first | (go_at_call 11; (with_reducible refine (manometerlaw19_live.calls  false _ ?side1 A6.out).mono ?_); (case side1 => exact ⟨Tab_below hT.out y1_⟩); rintro e w9 ⟨rfl, hb⟩; have n0_ := Aside0.mk (below_step y1_ hb); clear HB; have HB := n0_; clear n0_; (try clear hb); (try clear hb2); (try clear hk); (try clear hi)))
   repeat (go_quiet (first | (go_at_call 11; (with_reducible refine (manometerlaw19_live.calls  false _ ?side1 A6.out).mono ?_); (case side1 => exact ⟨Tab_below hT.out y1_⟩); rintro e w9 ⟨rfl, hb⟩; have n0_ := Aside0.mk (below_step y1_ hb); clear HB; have HB := n0_; clear n0_; (try clear hb); (try clear hb2); (try clear hk); (try clear hi))); try go_wp2_with (first | (go_at_call 11; (with_reducible refine (manometerlaw19_live.calls  false _ ?side1 A6.out).mono ?_); (case side1 => exact ⟨Tab_below hT.out y1_⟩); rintro e w9 ⟨rfl, hb⟩; have n0_ := Aside0.mk (below_step y1_ hb); clear HB; have HB := n0_; clear n0_; (try clear hb); (try clear hb2); (try clear hk); (try clear hi))))
   go_meet
   case rel => exact ⟨_, (true), y9_, H', ⟨by first | omega | exact Nat.le_refl _⟩, ⟨y1_⟩⟩
 case rest =>
  clear HC5
  try clear p2
  try clear c3
  try clear c4
  try clear c7
  obtain ⟨kq, x20_4, rfl, HA, HJ4, HB⟩ := hcut
  cases kq with
  | zero => exact absurd HA.out (by simp [manometerlaw19_LimitBound.j0])
  | succ kj4 =>
   have H := HA.out
   clear HA
   simp only [manometerlaw19_LimitBound.j0] at H
   by_cases c10 : x20_4 = true
   ·subst c10
    have H1 : ((manometerlaw19_live.f).bind fun t131 => (some t131)) = some r := by rw [if_pos rfl] at H; exact H
    clear H
    have H := H1
    clear H1
    replace H := Option.bind_eq_some_iff.mp H
    obtain ⟨t131, A110, H⟩ := H
    replace H : (some t131) = some r := H
    have A11 := Aside0.mk A110
    clear A110
    obtain rfl := Option.some.inj H
    go_wp2_with (first | (go_at_call 11; (with_reducible refine (manometerlaw19_live.calls  t131 _ ?side1 A11.out).mono ?_); (case side1 => exact ⟨Tab_below hT.out y1_⟩); rintro e w12 ⟨rfl, hb⟩; have n0_ := Aside0.mk (below_step y1_ hb); clear HB; have HB := n0_; clear n0_; (try clear hb); (try clear hb2); (try clear hk); (try clear hi)))
    repeat (go_quiet (first | (go_at_call 11; (with_reducible refine (manometerlaw19_live.calls  t131 _ ?side1 A11.out).mono ?_); (case side1 => exact ⟨Tab_below hT.out y1_⟩); rintro e w12 ⟨rfl, hb⟩; have n0_ := Aside0.mk (below_step y1_ hb); clear HB; have HB := n0_; clear n0_; (try clear hb); (try clear hb2); (try clear hk); (try clear hi))); try go_wp2_with (first | (go_at_call 11; (with_reducible refine (manometerlaw19_live.calls  t131 _ ?side1 A11.out).mono ?_); (case side1 => exact ⟨Tab_below hT.out y1_⟩); rintro e w12 ⟨rfl, hb⟩; have n0_ := Aside0.mk (below_step y1_ hb); clear HB; have HB := n0_; clear n0_; (try clear hb); (try clear hb2); (try clear hk); (try clear hi))))
    go_ret
    exact ⟨y13_, y1_⟩
   ·replace c10 := Bool.eq_false_iff.mpr c10
    subst c10
    have H1 : ((limit_Full.f a0 a1 a2).bind fun bt132 => ((manometerlaw19_took.f kj4 bt132.1 bt132.2.1 bt132.2.2.1 bt132.2.2.2 l3).bind fun bt136 => (if bt136.2 = true then (manometerlaw19_LimitBound.l0 kj4 a0 a1 bt136.1 (bt136.1.length : Int) 0) else (some false)))) = some r := by rw [if_neg (show ¬ (false = true) by decide)] at H; exact H
    clear H
    have H := H1
    clear H1
    replace H := Option.bind_eq_some_iff.mp H
    obtain ⟨⟨t132, t133, t134, t135⟩, A130, H⟩ := H
    replace H : ((manometerlaw19_took.f kj4 t132 t133 t134 t135 l3).bind fun bt136 => (if bt136.2 = true then (manometerlaw19_LimitBound.l0 kj4 a0 a1 bt136.1 (bt136.1.length : Int) 0) else (some false))) = some r := H
    have A13 := Aside0.mk A130
    clear A130
    replace H := Option.bind_eq_some_iff.mp H
    obtain ⟨⟨t136, t139⟩, A140, H⟩ := H
    replace H : (if t139 = true then (manometerlaw19_LimitBound.l0 kj4 a0 a1 t136 (t136.length : Int) 0) else (some false)) = some r := H
    have A14 := Aside0.mk A140
    clear A140
    by_cases c15 : t139 = true
    ·subst c15
     have H1 : (manometerlaw19_LimitBound.l0 kj4 a0 a1 t136 (t136.length : Int) 0) = some r := by rw [if_pos rfl] at H; exact H
     clear H
     have H := H1
     clear H1
     have H' := Aside0.mk H
     clear H
     go_wp2_with (first | (go_at_call 17; (with_reducible refine (limit_Full.calls a0 a1 a2 t132 t133 t134 t135 _ A13.out).mono ?_); rintro e w16 ⟨rfl, hb⟩; have n0_ := Aside0.mk (below_step y1_ hb); clear HB; have HB := n0_; clear n0_; (try clear hb); (try clear hb2); (try clear hk); (try clear hi)) | (go_at_call 16; (with_reducible refine (manometerlaw19_took.calls kj4 t132 t133 t134 t135 _ _ l3 t136 true _ ?side1 ?side2 A14.out).mono ?_); (case side1 => repeat (first | exact (Kd.C_below HR3.out HB.out) | (with_reducible refine Kd.C_alloc ?_ _) | (with_reducible refine Kd.C_drewN ?_ _) | (with_reducible refine Kd.C_drew ?_))); (case side2 => exact HC3.out); rintro e w17 ⟨v137, rfl, ho0, hb⟩; have n0_ := Aside0.mk (Kd.R_lower ho0 (below_size y1_)); have n1_ := Aside0.mk (below_step y1_ hb); clear HB; have HO138 := n0_; have HB := n1_; clear n0_ n1_; (try clear hb); (try clear hb2); (try clear hk); (try clear hi); (try clear ho0); obtain ⟨Ao18, co18, eo18⟩ := Kd.R_slice HO138.out; subst eo18))
     repeat (go_quiet (first | (go_at_call 17; (with_reducible refine (limit_Full.calls a0 a1 a2 t132 t133 t134 t135 _ A13.out).mono ?_); rintro e w16 ⟨rfl, hb⟩; have n0_ := Aside0.mk (below_step y1_ hb); clear HB; have HB := n0_; clear n0_; (try clear hb); (try clear hb2); (try clear hk); (try clear hi)) | (go_at_call 16; (with_reducible refine (manometerlaw19_took.calls kj4 t132 t133 t134 t135 _ _ l3 t136 true _ ?side1 ?side2 A14.out).mono ?_); (case side1 => repeat (first | exact (Kd.C_below HR3.out HB.out) | (with_reducible refine Kd.C_alloc ?_ _) | (with_reducible refine Kd.C_drewN ?_ _) | (with_reducible refine Kd.C_drew ?_))); (case side2 => exact HC3.out); rintro e w17 ⟨v137, rfl, ho0, hb⟩; have n0_ := Aside0.mk (Kd.R_lower ho0 (below_size y1_)); have n1_ := Aside0.mk (below_step y1_ hb); clear HB; have HO138 := n0_; have HB := n1_; clear n0_ n1_; (try clear hb); (try clear hb2); (try clear hk); (try clear hi); (try clear ho0); obtain ⟨Ao18, co18, eo18⟩ := Kd.R_slice HO138.out; subst eo18)); try go_wp2_with (first | (go_at_call 17; (with_reducible refine (limit_Full.calls a0 a1 a2 t132 t133 t134 t135 _ A13.out).mono ?_); rintro e w16 ⟨rfl, hb⟩; have n0_ := Aside0.mk (below_step y1_ hb); clear HB; have HB := n0_; clear n0_; (try clear hb); (try clear hb2); (try clear hk); (try clear hi)) | (go_at_call 16; (with_reducible refine (manometerlaw19_took.calls kj4 t132 t133 t134 t135 _ _ l3 t136 true _ ?side1 ?side2 A14.out).mono ?_); (case side1 => repeat (first | exact (Kd.C_below HR3.out HB.out) | (with_reducible refine Kd.C_alloc ?_ _) | (with_reducible refine Kd.C_drewN ?_ _) | (with_reducible refine Kd.C_drew ?_))); (case side2 => exact HC3.out); rintro e w17 ⟨v137, rfl, ho0, hb⟩; have n0_ := Aside0.mk (Kd.R_lower ho0 (below_size y1_)); have n1_ := Aside0.mk (below_step y1_ hb); clear HB; have HO138 := n0_; have HB := n1_; clear n0_ n1_; (try clear hb); (try clear hb2); (try clear hk); (try clear hi); (try clear ho0); obtain ⟨Ao18, co18, eo18⟩ := Kd.R_slice HO138.out; subst eo18)))
     go_loopg [35] kj4 (fun kq v35 w' => ∃ (x35_2 : Int), v35 = .int .i64 x35_2 ∧ Aside0 (manometerlaw19_LimitBound.l0 kq a0 a1 t136 (t136.length : Int) x35_2 = some r) ∧ Aside0 (kq ≤ kj4) ∧ Aside0 (Kd.R k33 33 w' w.heap.size (fun _ => True) (.slice Ao18 t136.length co18) t136) ∧ Aside0 (Below w.heap.size w w'))
     case atStart => exact ⟨(0), y9_, H', ⟨Nat.le_refl _⟩, ⟨by (with_reducible repeat (first | apply Kd.R_alloc | apply Kd.R_drewN | apply Kd.R_drew)); exact HO138.out⟩, ⟨y1_⟩⟩
     case round =>
      clear H'
      try clear c1
      try clear p2
      try clear c3
      try clear c4
      try clear c7
      try clear c10
      try clear c15
      try clear p2
      obtain ⟨x35_2, rfl, HA, HK2, HO_9, HB⟩ := hrel
      cases gk with
      | zero => exact absurd HA.out (by simp [manometerlaw19_LimitBound.l0])
      | succ k2 =>
       have H := HA.out
       clear HA
       simp only [manometerlaw19_LimitBound.l0] at H
       by_cases c19 : x35_2 < (t136.length : Int)
       ·rw [if_pos c19] at H
        have c19b0 : decide (x35_2 < (t136.length : Int)) = true := decide_eq_true c19
        clear c19
        have H' := Aside0.mk H
        clear H
        go_wp2
        repeat (go_quiet (fail); try go_wp2)
        go_loopg [12, 13] k2 (fun kq v12 v13 w' => ∃ (x12_3 : Int) (x13_3 : Int), v12 = .int .u64 x12_3 ∧ v13 = .int .i64 x13_3 ∧ Aside0 (manometerlaw19_LimitBound.l1 kq a0 a1 t136 x35_2 x12_3 x13_3 (t136.length : Int) x35_2 = some r) ∧ Aside0 (kq ≤ k2) ∧ Aside0 (Kd.R k33 33 w' w.heap.size (fun _ => True) (.slice Ao18 t136.length co18) t136) ∧ Aside0 (Below w.heap.size w w'))
        case atStart => exact ⟨(0), (x35_2), y9_, y9_, H', ⟨Nat.le_refl _⟩, ⟨y38_⟩, ⟨y1_⟩⟩
        case round =>
         clear H'
         try clear c1
         try clear p2
         try clear c3
         try clear c4
         try clear c7
         try clear c10
         try clear c15
         try clear c19
         try clear c19b0
         try clear p2
         obtain ⟨x12_3, x13_3, rfl, rfl, HA, HK3, HO_9, HB⟩ := hrel
         cases gk with
         | zero => exact absurd HA.out (by simp [manometerlaw19_LimitBound.l1])
         | succ k3 =>
          have H := HA.out
          clear HA
          simp only [manometerlaw19_LimitBound.l1] at H
          by_cases c20 : x13_3 < (t136.length : Int)
          ·rw [if_pos c20] at H
           have c20b0 : decide (x13_3 < (t136.length : Int)) = true := decide_eq_true c20
           clear c20
           by_cases c21 : 0 ≤ x13_3
           ·rw [if_pos c21] at H
            have c21b0 : decide (0 ≤ x13_3) = true := decide_eq_true c21
            clear c21
            replace H := Option.bind_eq_some_iff.mp H
            obtain ⟨t141, A220, H⟩ := H
            replace H : (if 0 ≤ x35_2 then (if x35_2 < (t136.length : Int) then ((manometerref19_Times.f a0 (IntKind.u64.wrap ((IntKind.u64.wrap ((rd_T33 t136 x13_3).f0)) - (IntKind.u64.wrap ((rd_T33 t136 x35_2).f0))))).bind fun t144 => ((manometerref19_Plus.f a1 t144).bind fun t145 => (if t141 > t145 then (some false) else (manometerlaw19_LimitBound.l1 k3 a0 a1 t136 x35_2 t141 (wrap64 (x13_3 + 1)) (t136.length : Int) x35_2)))) else (none)) else (none)) = some r := H
            have A22 := Aside0.mk A220
            clear A220
            by_cases c23 : 0 ≤ x35_2
            ·rw [if_pos c23] at H
             have c23b0 : decide (0 ≤ x35_2) = true := decide_eq_true c23
             clear c23
             by_cases c24 : x35_2 < (t136.length : Int)
             ·rw [if_pos c24] at H
              have c24b0 : decide (x35_2 < (t136.length : Int)) = true := decide_eq_true c24
              clear c24
              replace H := Option.bind_eq_some_iff.mp H
              obtain ⟨t144, A250, H⟩ := H
              replace H : ((manometerref19_Plus.f a1 t144).bind fun t145 => (if t141 > t145 then (some false) else (manometerlaw19_LimitBound.l1 k3 a0 a1 t136 x35_2 t141 (wrap64 (x13_3 + 1)) (t136.length : Int) x35_2))) = some r := H
              have A25 := Aside0.mk A250
              clear A250
              replace H := Option.bind_eq_some_iff.mp H
              obtain ⟨t145, A260, H⟩ := H
              replace H : (if t141 > t145 then (some false) else (manometerlaw19_LimitBound.l1 k3 a0 a1 t136 x35_2 t141 (wrap64 (x13_3 + 1)) (t136.length : Int) x35_2)) = some r := H
              have A26 := Aside0.mk A260
              clear A260
              by_cases c27 : t141 > t145
              ·rw [if_pos c27] at H
               have c27b0 : decide (t145 < t141) = true := decide_eq_true c27
               clear c27
               obtain rfl := Option.some.inj H
               have p140 : 0 ≤ (x13_3 : Int) := of_decide_eq_true y4_
               have q140 : x13_3 < (t136.length : Int) := of_decide_eq_true y4_
               obtain ⟨ad140, e140, hx140_0, hx140_1, hx140_2, hx140_3, hx140_4⟩ := at_T33 (Kd.R_reads' HO_9.out).2.2 x13_3 p140 q140
               cases e140
               replace p140 := eq_true p140
               replace q140 := eq_true q140
               go_wp2_with (first | (go_at_call 13; (with_reducible refine (manometerref19_Plus.calls x12_3 ((rd_T33 t136 x13_3).f1) t141 _ A22.out).mono ?_); rintro e w' ⟨rfl, ⟨nd, rfl⟩⟩; (try first | exact ⟨rfl, _, World.drewN_drewN _ _ _⟩ | exact ⟨rfl, _, Eq.trans (World.drewN_drewN _ _ _) (congrArg (World.drewN _) (Nat.add_assoc _ _ _))⟩); have p142 : 0 ≤ (x13_3 : Int) := of_decide_eq_true y4_; have q142 : x13_3 < (t136.length : Int) := of_decide_eq_true y4_; obtain ⟨ad142, e142, hx142_0, hx142_1, hx142_2, hx142_3, hx142_4⟩ := at_T33 (Kd.R_reads' HO_9.out).2.2 x13_3 p142 q142; obtain rfl : ad140 = ad142 := (by injection e142); replace p142 := eq_true p142; replace q142 := eq_true q142; have p143 : 0 ≤ (x35_2 : Int) := of_decide_eq_true y4_; have q143 : x35_2 < (t136.length : Int) := of_decide_eq_true y4_; obtain ⟨ad143, e143, hx143_0, hx143_1, hx143_2, hx143_3, hx143_4⟩ := at_T33 (Kd.R_reads' HO_9.out).2.2 x35_2 p143 q143; obtain rfl : ad140 = ad143 := (by injection e143); replace p143 := eq_true p143; replace q143 := eq_true q143) | (go_at_call 15; (with_reducible refine (manometerref19_Times.calls a0 (IntKind.u64.wrap ((IntKind.u64.wrap ((rd_T33 t136 x13_3).f0)) - (IntKind.u64.wrap ((rd_T33 t136 x35_2).f0)))) t144 _ A25.out).mono ?_); rintro e w' ⟨rfl, ⟨nd, rfl⟩⟩; (try first | exact ⟨rfl, _, World.drewN_drewN _ _ _⟩ | exact ⟨rfl, _, Eq.trans (World.drewN_drewN _ _ _) (congrArg (World.drewN _) (Nat.add_assoc _ _ _))⟩)) | (go_at_call 13; (with_reducible refine (manometerref19_Plus.calls a1 t144 t145 _ A26.out).mono ?_); rintro e w' ⟨rfl, ⟨nd, rfl⟩⟩; (try first | exact ⟨rfl, _, World.drewN_drewN _ _ _⟩ | exact ⟨rfl, _, Eq.trans (World.drewN_drewN _ _ _) (congrArg (World.drewN _) (Nat.add_assoc _ _ _))⟩)))
               repeat (go_quiet (first | (go_at_call 13; (with_reducible refine (manometerref19_Plus.calls x12_3 ((rd_T33 t136 x13_3).f1) t141 _ A22.out).mono ?_); rintro e w' ⟨rfl, ⟨nd, rfl⟩⟩; (try first | exact ⟨rfl, _, World.drewN_drewN _ _ _⟩ | exact ⟨rfl, _, Eq.trans (World.drewN_drewN _ _ _) (congrArg (World.drewN _) (Nat.add_assoc _ _ _))⟩); have p142 : 0 ≤ (x13_3 : Int) := of_decide_eq_true y4_; have q142 : x13_3 < (t136.length : Int) := of_decide_eq_true y4_; obtain ⟨ad142, e142, hx142_0, hx142_1, hx142_2, hx142_3, hx142_4⟩ := at_T33 (Kd.R_reads' HO_9.out).2.2 x13_3 p142 q142; obtain rfl : ad140 = ad142 := (by injection e142); replace p142 := eq_true p142; replace q142 := eq_true q142; have p143 : 0 ≤ (x35_2 : Int) := of_decide_eq_true y4_; have q143 : x35_2 < (t136.length : Int) := of_decide_eq_true y4_; obtain ⟨ad143, e143, hx143_0, hx143_1, hx143_2, hx143_3, hx143_4⟩ := at_T33 (Kd.R_reads' HO_9.out).2.2 x35_2 p143 q143; obtain rfl : ad140 = ad143 := (by injection e143); replace p143 := eq_true p143; replace q143 := eq_true q143) | (go_at_call 15; (with_reducible refine (manometerref19_Times.calls a0 (IntKind.u64.wrap ((IntKind.u64.wrap ((rd_T33 t136 x13_3).f0)) - (IntKind.u64.wrap ((rd_T33 t136 x35_2).f0)))) t144 _ A25.out).mono ?_); rintro e w' ⟨rfl, ⟨nd, rfl⟩⟩; (try first | exact ⟨rfl, _, World.drewN_drewN _ _ _⟩ | exact ⟨rfl, _, Eq.trans (World.drewN_drewN _ _ _) (congrArg (World.drewN _) (Nat.add_assoc _ _ _))⟩)) | (go_at_call 13; (with_reducible refine (manometerref19_Plus.calls a1 t144 t145 _ A26.out).mono ?_); rintro e w' ⟨rfl, ⟨nd, rfl⟩⟩; (try first | exact ⟨rfl, _, World.drewN_drewN _ _ _⟩ | exact ⟨rfl, _, Eq.trans (World.drewN_drewN _ _ _) (congrArg (World.drewN _) (Nat.add_assoc _ _ _))⟩))); try go_wp2_with (first | (go_at_call 13; (with_reducible refine (manometerref19_Plus.calls x12_3 ((rd_T33 t136 x13_3).f1) t141 _ A22.out).mono ?_); rintro e w' ⟨rfl, ⟨nd, rfl⟩⟩; (try first | exact ⟨rfl, _, World.drewN_drewN _ _ _⟩ | exact ⟨rfl, _, Eq.trans (World.drewN_drewN _ _ _) (congrArg (World.drewN _) (Nat.add_assoc _ _ _))⟩); have p142 : 0 ≤ (x13_3 : Int) := of_decide_eq_true y4_; have q142 : x13_3 < (t136.length : Int) := of_decide_eq_true y4_; obtain ⟨ad142, e142, hx142_0, hx142_1, hx142_2, hx142_3, hx142_4⟩ := at_T33 (Kd.R_reads' HO_9.out).2.2 x13_3 p142 q142; obtain rfl : ad140 = ad142 := (by injection e142); replace p142 := eq_true p142; replace q142 := eq_true q142; have p143 : 0 ≤ (x35_2 : Int) := of_decide_eq_true y4_; have q143 : x35_2 < (t136.length : Int) := of_decide_eq_true y4_; obtain ⟨ad143, e143, hx143_0, hx143_1, hx143_2, hx143_3, hx143_4⟩ := at_T33 (Kd.R_reads' HO_9.out).2.2 x35_2 p143 q143; obtain rfl : ad140 = ad143 := (by injection e143); replace p143 := eq_true p143; replace q143 := eq_true q143) | (go_at_call 15; (with_reducible refine (manometerref19_Times.calls a0 (IntKind.u64.wrap ((IntKind.u64.wrap ((rd_T33 t136 x13_3).f0)) - (IntKind.u64.wrap ((rd_T33 t136 x35_2).f0)))) t144 _ A25.out).mono ?_); rintro e w' ⟨rfl, ⟨nd, rfl⟩⟩; (try first | exact ⟨rfl, _, World.drewN_drewN _ _ _⟩ | exact ⟨rfl, _, Eq.trans (World.drewN_drewN _ _ _) (congrArg (World.drewN _) (Nat.add_assoc _ _ _))⟩)) | (go_at_call 13; (with_reducible refine (manometerref19_Plus.calls a1 t144 t145 _ A26.out).mono ?_); rintro e w' ⟨rfl, ⟨nd, rfl⟩⟩; (try first | exact ⟨rfl, _, World.drewN_drewN _ _ _⟩ | exact ⟨rfl, _, Eq.trans (World.drewN_drewN _ _ _) (congrArg (World.drewN _) (Nat.add_assoc _ _ _))⟩))))
               go_ret
               exact ⟨y13_, y1_⟩
              ·rw [if_neg c27] at H
               have c27b0 : decide (t145 < t141) = false := decide_eq_false c27
               clear c27
               have H' := Aside0.mk H
               clear H
               have p140 : 0 ≤ (x13_3 : Int) := of_decide_eq_true y4_
               have q140 : x13_3 < (t136.length : Int) := of_decide_eq_true y4_
               obtain ⟨ad140, e140, hx140_0, hx140_1, hx140_2, hx140_3, hx140_4⟩ := at_T33 (Kd.R_reads' HO_9.out).2.2 x13_3 p140 q140
               cases e140
               replace p140 := eq_true p140
               replace q140 := eq_true q140
               go_wp2_with (first | (go_at_call 13; (with_reducible refine (manometerref19_Plus.calls x12_3 ((rd_T33 t136 x13_3).f1) t141 _ A22.out).mono ?_); rintro e w' ⟨rfl, ⟨nd, rfl⟩⟩; (try first | exact ⟨rfl, _, World.drewN_drewN _ _ _⟩ | exact ⟨rfl, _, Eq.trans (World.drewN_drewN _ _ _) (congrArg (World.drewN _) (Nat.add_assoc _ _ _))⟩); have p142 : 0 ≤ (x13_3 : Int) := of_decide_eq_true y4_; have q142 : x13_3 < (t136.length : Int) := of_decide_eq_true y4_; obtain ⟨ad142, e142, hx142_0, hx142_1, hx142_2, hx142_3, hx142_4⟩ := at_T33 (Kd.R_reads' HO_9.out).2.2 x13_3 p142 q142; obtain rfl : ad140 = ad142 := (by injection e142); replace p142 := eq_true p142; replace q142 := eq_true q142; have p143 : 0 ≤ (x35_2 : Int) := of_decide_eq_true y4_; have q143 : x35_2 < (t136.length : Int) := of_decide_eq_true y4_; obtain ⟨ad143, e143, hx143_0, hx143_1, hx143_2, hx143_3, hx143_4⟩ := at_T33 (Kd.R_reads' HO_9.out).2.2 x35_2 p143 q143; obtain rfl : ad140 = ad143 := (by injection e143); replace p143 := eq_true p143; replace q143 := eq_true q143) | (go_at_call 15; (with_reducible refine (manometerref19_Times.calls a0 (IntKind.u64.wrap ((IntKind.u64.wrap ((rd_T33 t136 x13_3).f0)) - (IntKind.u64.wrap ((rd_T33 t136 x35_2).f0)))) t144 _ A25.out).mono ?_); rintro e w' ⟨rfl, ⟨nd, rfl⟩⟩; (try first | exact ⟨rfl, _, World.drewN_drewN _ _ _⟩ | exact ⟨rfl, _, Eq.trans (World.drewN_drewN _ _ _) (congrArg (World.drewN _) (Nat.add_assoc _ _ _))⟩)) | (go_at_call 13; (with_reducible refine (manometerref19_Plus.calls a1 t144 t145 _ A26.out).mono ?_); rintro e w' ⟨rfl, ⟨nd, rfl⟩⟩; (try first | exact ⟨rfl, _, World.drewN_drewN _ _ _⟩ | exact ⟨rfl, _, Eq.trans (World.drewN_drewN _ _ _) (congrArg (World.drewN _) (Nat.add_assoc _ _ _))⟩)))
               repeat (go_quiet (first | (go_at_call 13; (with_reducible refine (manometerref19_Plus.calls x12_3 ((rd_T33 t136 x13_3).f1) t141 _ A22.out).mono ?_); rintro e w' ⟨rfl, ⟨nd, rfl⟩⟩; (try first | exact ⟨rfl, _, World.drewN_drewN _ _ _⟩ | exact ⟨rfl, _, Eq.trans (World.drewN_drewN _ _ _) (congrArg (World.drewN _) (Nat.add_assoc _ _ _))⟩); have p142 : 0 ≤ (x13_3 : Int) := of_decide_eq_true y4_; have q142 : x13_3 < (t136.length : Int) := of_decide_eq_true y4_; obtain ⟨ad142, e142, hx142_0, hx142_1, hx142_2, hx142_3, hx142_4⟩ := at_T33 (Kd.R_reads' HO_9.out).2.2 x13_3 p142 q142; obtain rfl : ad140 = ad142 := (by injection e142); replace p142 := eq_true p142; replace q142 := eq_true q142; have p143 : 0 ≤ (x35_2 : Int) := of_decide_eq_true y4_; have q143 : x35_2 < (t136.length : Int) := of_decide_eq_true y4_; obtain ⟨ad143, e143, hx143_0, hx143_1, hx143_2, hx143_3, hx143_4⟩ := at_T33 (Kd.R_reads' HO_9.out).2.2 x35_2 p143 q143; obtain rfl : ad140 = ad143 := (by injection e143); replace p143 := eq_true p143; replace q143 := eq_true q143) | (go_at_call 15; (with_reducible refine (manometerref19_Times.calls a0 (IntKind.u64.wrap ((IntKind.u64.wrap ((rd_T33 t136 x13_3).f0)) - (IntKind.u64.wrap ((rd_T33 t136 x35_2).f0)))) t144 _ A25.out).mono ?_); rintro e w' ⟨rfl, ⟨nd, rfl⟩⟩; (try first | exact ⟨rfl, _, World.drewN_drewN _ _ _⟩ | exact ⟨rfl, _, Eq.trans (World.drewN_drewN _ _ _) (congrArg (World.drewN _) (Nat.add_assoc _ _ _))⟩)) | (go_at_call 13; (with_reducible refine (manometerref19_Plus.calls a1 t144 t145 _ A26.out).mono ?_); rintro e w' ⟨rfl, ⟨nd, rfl⟩⟩; (try first | exact ⟨rfl, _, World.drewN_drewN _ _ _⟩ | exact ⟨rfl, _, Eq.trans (World.drewN_drewN _ _ _) (congrArg (World.drewN _) (Nat.add_assoc _ _ _))⟩))); try go_wp2_with (first | (go_at_call 13; (with_reducible refine (manometerref19_Plus.calls x12_3 ((rd_T33 t136 x13_3).f1) t141 _ A22.out).mono ?_); rintro e w' ⟨rfl, ⟨nd, rfl⟩⟩; (try first | exact ⟨rfl, _, World.drewN_drewN _ _ _⟩ | exact ⟨rfl, _, Eq.trans (World.drewN_drewN _ _ _) (congrArg (World.drewN _) (Nat.add_assoc _ _ _))⟩); have p142 : 0 ≤ (x13_3 : Int) := of_decide_eq_true y4_; have q142 : x13_3 < (t136.length : Int) := of_decide_eq_true y4_; obtain ⟨ad142, e142, hx142_0, hx142_1, hx142_2, hx142_3, hx142_4⟩ := at_T33 (Kd.R_reads' HO_9.out).2.2 x13_3 p142 q142; obtain rfl : ad140 = ad142 := (by injection e142); replace p142 := eq_true p142; replace q142 := eq_true q142; have p143 : 0 ≤ (x35_2 : Int) := of_decide_eq_true y4_; have q143 : x35_2 < (t136.length : Int) := of_decide_eq_true y4_; obtain ⟨ad143, e143, hx143_0, hx143_1, hx143_2, hx143_3, hx143_4⟩ := at_T33 (Kd.R_reads' HO_9.out).2.2 x35_2 p143 q143; obtain rfl : ad140 = ad143 := (by injection e143); replace p143 := eq_true p143; replace q143 := eq_true q143) | (go_at_call 15; (with_reducible refine (manometerref19_Times.calls a0 (IntKind.u64.wrap ((IntKind.u64.wrap ((rd_T33 t136 x13_3).f0)) - (IntKind.u64.wrap ((rd_T33 t136 x35_2).f0)))) t144 _ A25.out).mono ?_); rintro e w' ⟨rfl, ⟨nd, rfl⟩⟩; (try first | exact ⟨rfl, _, World.drewN_drewN _ _ _⟩ | exact ⟨rfl, _, Eq.trans (World.drewN_drewN _ _ _) (congrArg (World.drewN _) (Nat.add_assoc _ _ _))⟩)) | (go_at_call 13; (with_reducible refine (manometerref19_Plus.calls a1 t144 t145 _ A26.out).mono ?_); rintro e w' ⟨rfl, ⟨nd, rfl⟩⟩; (try first | exact ⟨rfl, _, World.drewN_drewN _ _ _⟩ | exact ⟨rfl, _, Eq.trans (World.drewN_drewN _ _ _) (congrArg (World.drewN _) (Nat.add_assoc _ _ _))⟩))))
               go_roundg k3
               case measure => have := HJ4.out; have := HK2.out; have := HK3.out; omega
               case rel => exact ⟨(t141), (wrap64 (x13_3 + 1)), y9_, y9_, H', ⟨by have := HJ4.out; have := HK2.out; have := HK3.out; omega⟩, ⟨y38_⟩, ⟨y1_⟩⟩
             ·rw [if_neg c24] at H
              exact absurd H (by simp)
            ·rw [if_neg c23] at H
             exact absurd H (by simp)
           ·rw [if_neg c21] at H
            exact absurd H (by simp)
          ·rw [if_neg c20] at H
           have c20b0 : decide (x13_3 < (t136.length : Int)) = false := decide_eq_false c20
           clear c20
           have H' := Aside0.mk H
           clear H
           go_wp2
           repeat (go_quiet (fail); try go_wp2)
           go_roundg k3
           case measure => have := HJ4.out; have := HK2.out; have := HK3.out; omega
           case rel => exact ⟨(wrap64 (x35_2 + 1)), y9_, H', ⟨by have := HJ4.out; have := HK2.out; have := HK3.out; omega⟩, ⟨y38_⟩, ⟨y1_⟩⟩
       ·rw [if_neg c19] at H
        have c19b0 : decide (x35_2 < (t136.length : Int)) = false := decide_eq_false c19
        clear c19
        obtain rfl := Option.some.inj H
        go_wp2
        repeat (go_quiet (fail); try go_wp2)
        go_ret
        exact ⟨y13_, y1_⟩
    ·replace c15 := Bool.eq_false_iff.mpr c15
     subst c15
     have H1 : (some false) = some r := by rw [if_neg (show ¬ (false = true) by decide)] at H; exact H
     clear H
     have H := H1
     clear H1
     obtain rfl := Option.some.inj H
     go_wp2_with (first | (go_at_call 17; (with_reducible refine (limit_Full.calls a0 a1 a2 t132 t133 t134 t135 _ A13.out).mono ?_); rintro e w28 ⟨rfl, hb⟩; have n0_ := Aside0.mk (below_step y1_ hb); clear HB; have HB := n0_; clear n0_; (try clear hb); (try clear hb2); (try clear hk); (try clear hi)) | (go_at_call 16; (with_reducible refine (manometerlaw19_took.calls kj4 t132 t133 t134 t135 _ _ l3 t136 false _ ?side1 ?side2 A14.out).mono ?_); (case side1 => repeat (first | exact (Kd.C_below HR3.out HB.out) | (with_reducible refine Kd.C_alloc ?_ _) | (with_reducible refine Kd.C_drewN ?_ _) | (with_reducible refine Kd.C_drew ?_))); (case side2 => exact HC3.out); rintro e w29 ⟨v137, rfl, ho0, hb⟩; have n0_ := Aside0.mk (Kd.R_lower ho0 (below_size y1_)); have n1_ := Aside0.mk (below_step y1_ hb); clear HB; have HO138 := n0_; have HB := n1_; clear n0_ n1_; (try clear hb); (try clear hb2); (try clear hk); (try clear hi); (try clear ho0)))
     repeat (go_quiet (first | (go_at_call 17; (with_reducible refine (limit_Full.calls a0 a1 a2 t132 t133 t134 t135 _ A13.out).mono ?_); rintro e w28 ⟨rfl, hb⟩; have n0_ := Aside0.mk (below_step y1_ hb); clear HB; have HB := n0_; clear n0_; (try clear hb); (try clear hb2); (try clear hk); (try clear hi)) | (go_at_call 16; (with_reducible refine (manometerlaw19_took.calls kj4 t132 t133 t134 t135 _ _ l3 t136 false _ ?side1 ?side2 A14.out).mono ?_); (case side1 => repeat (first | exact (Kd.C_below HR3.out HB.out) | (with_reducible refine Kd.C_alloc ?_ _) | (with_reducible refine Kd.C_drewN ?_ _) | (with_reducible refine Kd.C_drew ?_))); (case side2 => exact HC3.out); rintro e w29 ⟨v137, rfl, ho0, hb⟩; have n0_ := Aside0.mk (Kd.R_lower ho0 (below_size y1_)); have n1_ := Aside0.mk (below_step y1_ hb); clear HB; have HO138 := n0_; have HB := n1_; clear n0_ n1_; (try clear hb); (try clear hb2); (try clear hk); (try clear hi); (try clear ho0))); try go_wp2_with (first | (go_at_call 17; (with_reducible refine (limit_Full.calls a0 a1 a2 t132 t133 t134 t135 _ A13.out).mono ?_); rintro e w28 ⟨rfl, hb⟩; have n0_ := Aside0.mk (below_step y1_ hb); clear HB; have HB := n0_; clear n0_; (try clear hb); (try clear hb2); (try clear hk); (try clear hi)) | (go_at_call 16; (with_reducible refine (manometerlaw19_took.calls kj4 t132 t133 t134 t135 _ _ l3 t136 false _ ?side1 ?side2 A14.out).mono ?_); (case side1 => repeat (first | exact (Kd.C_below HR3.out HB.out) | (with_reducible refine Kd.C_alloc ?_ _) | (with_reducible refine Kd.C_drewN ?_ _) | (with_reducible refine Kd.C_drew ?_))); (case side2 => exact HC3.out); rintro e w29 ⟨v137, rfl, ho0, hb⟩; have n0_ := Aside0.mk (Kd.R_lower ho0 (below_size y1_)); have n1_ := Aside0.mk (below_step y1_ hb); clear HB; have HO138 := n0_; have HB := n1_; clear n0_ n1_; (try clear hb); (try clear hb2); (try clear hk); (try clear hi); (try clear ho0))))
     go_ret
     exact ⟨y13_, y1_⟩
end Go.Proofs.YtbpmgaaipkenkaaDoor.PMB
