import Derived.Test.YtbpmgaaipkenkaaDoorCLimitFillsPMBx1
import Derived.Test.YtbpmgaaipkenkaaDoorCLimitFillsPMCx0
namespace Go.Proofs.YtbpmgaaipkenkaaDoor.PMB
open Go.RowKit Go.Proofs.YtbpmgaaipkenkaaDoorW.PrintWords Go.Proofs.YtbpmgaaipkenkaaDoorW.PrintLast Go.Proofs.YtbpmgaaipkenkaaDoorW.PrintMore
attribute [local go_sem] max2_int min2_int max_two min_two max_three min_three max_four min_four
set_option linter.unusedVariables false
set_option linter.unusedSimpArgs false
attribute [local go_sem high] eqA30
mutual
def manometerlaw19_LimitFills.j0 : Nat → Int → Int → Bool → Int → Int → Int → Int → Option (Bool)
 | 0, _, _, _, _, _, _, _ => none
 | k + 1, x1, x2, x30, x147000, x147001, x147002, x147003 => if x30 = true then ((manometerlaw19_live.f).bind fun t148 => (some t148)) else ((limit_Fill.f x147000 x147001 x147002 x147003 x1).bind fun bt149 => ((limit_Fill.f bt149.1 bt149.2.1 bt149.2.2.1 bt149.2.2.2 x2).bind fun bt154 => ((limit_Fill.f x147000 x147001 x147002 x147003 x2).bind fun bt158 => (if bt149.2.2.1 < x147002 then (manometerlaw19_LimitFills.j1 k x2 true x147000 x147001 x147002 x147003 bt154.1 bt154.2.1 bt154.2.2.1 bt154.2.2.2) else (if (!(bt154.1 == bt158.1) || (!(bt154.2.1 == bt158.2.1) || (!(bt154.2.2.1 == bt158.2.2.1) || (!(bt154.2.2.2 == bt158.2.2.2))))) = true then (manometerlaw19_LimitFills.j1 k x2 true x147000 x147001 x147002 x147003 bt154.1 bt154.2.1 bt154.2.2.1 bt154.2.2.2) else (if bt154.2.2.1 > x147001 then (manometerlaw19_LimitFills.j1 k x2 true x147000 x147001 x147002 x147003 bt154.1 bt154.2.1 bt154.2.2.1 bt154.2.2.2) else (manometerlaw19_LimitFills.j1 k x2 (decide (bt154.2.2.1 < bt149.2.2.1)) x147000 x147001 x147002 x147003 bt154.1 bt154.2.1 bt154.2.2.1 bt154.2.2.2)))))))
def manometerlaw19_LimitFills.j1 : Nat → Int → Bool → Int → Int → Int → Int → Int → Int → Int → Int → Option (Bool)
 | 0, _, _, _, _, _, _, _, _, _, _ => none
 | k + 1, x2, x64, x147000, x147001, x147002, x147003, x163000, x163001, x163002, x163003 => if x64 = true then (some false) else (if x147000 = 0 then (some true) else (if (IntKind.u64.wrap ((IntKind.u64.wrap (x2)) - (IntKind.u64.wrap (x147003)))) ≤ (IntKind.u64.wrap (Int.tdiv x147001 x147000)) then (some true) else (some (x163002 == x147001))))
end
def manometerlaw19_LimitFills.f (k : Nat) (a0_0 : Int) (a0_1 : Int) (a0_2 : Int) (a0_3 : Int) (a1 : Int) (a2 : Int) : Option (Bool) := (manometerlaw19_live.f).bind fun t147 => (if t147 = true then (if a0_2 > a0_1 then (manometerlaw19_LimitFills.j0 k a1 a2 true a0_0 a0_1 a0_2 a0_3) else (if a1 < a0_3 then (manometerlaw19_LimitFills.j0 k a1 a2 true a0_0 a0_1 a0_2 a0_3) else (manometerlaw19_LimitFills.j0 k a1 a2 (decide (a2 < a1)) a0_0 a0_1 a0_2 a0_3))) else (manometerlaw19_LimitFills.j0 k a1 a2 true a0_0 a0_1 a0_2 a0_3))
def manometerlaw19_LimitFills.T4 : Bool × List (List Nat × List Nat) := (true, [([], []), ([], []), ([0, 1], [0, 1]), ([], []), ([], []), ([3, 4, 2], [3, 4]), ([], []), ([], []), ([6, 2, 5, 0, 1, 2, 6, 7], [2, 6]), ([7, 5, 8, 0, 1, 2, 3, 4, 5, 6, 7, 8], [5, 7])])
def manometerlaw19_LimitFills.B4 : List Nat := [0, 0, 3, 0, 0, 31, 0, 0, 255, 511]
theorem manometerlaw19_LimitFills.tab4 : rtab .any (opsOf Tryd.f5 4) = manometerlaw19_LimitFills.T4 := by kernel_rfl
theorem manometerlaw19_LimitFills.bits4 : waitsOk manometerlaw19_LimitFills.T4.2 manometerlaw19_LimitFills.B4 = true := by kernel_rfl
set_option maxHeartbeats 8000000 in
set_option maxRecDepth 100000 in
theorem manometerlaw19_LimitFills.calls (k : Nat) (a0_0 : Int) (a0_1 : Int) (a0_2 : Int) (a0_3 : Int) (a1 : Int) (a2 : Int) (r : Bool) (w : World) (hT : Aside0 (Tab w)) (h : manometerlaw19_LimitFills.f k a0_0 a0_1 a0_2 a0_3 a1 a2 = some r) :
  Calls Tryd.prog 5 #[.agg #[.int .u64 a0_0, .int .u64 a0_1, .int .u64 a0_2, .int .i64 a0_3], .int .i64 a1, .int .i64 a2] w fun e w' => e = .returned (.bool r) ∧ Below w.heap.size w w' := by
 have hu30 := Tryd.underlying30
 have HB := Aside0.mk (Below.refl w.heap.size w)
 have H : ((manometerlaw19_live.f).bind fun t147 => (if t147 = true then (if a0_2 > a0_1 then (manometerlaw19_LimitFills.j0 k a1 a2 true a0_0 a0_1 a0_2 a0_3) else (if a1 < a0_3 then (manometerlaw19_LimitFills.j0 k a1 a2 true a0_0 a0_1 a0_2 a0_3) else (manometerlaw19_LimitFills.j0 k a1 a2 (decide (a2 < a1)) a0_0 a0_1 a0_2 a0_3))) else (manometerlaw19_LimitFills.j0 k a1 a2 true a0_0 a0_1 a0_2 a0_3))) = some r := h
 clear h
 have HC4 := Aside0.mk H
 clear H
 go_enter Tryd.func5, Tryd.ntmps5
 go_upto_region 1 with (first | ((with_reducible refine gate_dst (N := 3) rfl ?_); refine box_event ?hg (N := 3) ?hd (cs := #[.int .u64 a0_0, .int .u64 a0_1, .int .u64 a0_2, .int .i64 a0_3]) (t := 30) ?hr ?_; (case hd => rfl); (case hg => rfl); (case hr => first | (go_simp; done) | (go_simp; rfl)); intro gb146 hg w5 hbox hb; have n0_ := Aside0.mk (below_step y1_ hb); have n1_ := Aside0.mk (hbox); have n2_ := Aside0.mk ((y27_ : w.heap.size ≤ gb146)); have n3_ := Aside0.mk ((y27_ : w.heap.size ≤ gb146)); clear HB; have HB := n0_; have BK146 := n1_; have GW146 := n2_; have GE146 := n3_; clear n0_ n1_ n2_ n3_; clear hb hbox hg))
 (try simp only [Act.put, List.setIfInBounds_toArray, List.set_cons_zero, List.set_cons_succ])
 go_cut [30] (fun v30 wc => ∃ (kq : Nat) (x30_3 : Bool), v30 = .bool x30_3 ∧ Aside0 (manometerlaw19_LimitFills.j0 kq a1 a2 x30_3 a0_0 a0_1 a0_2 a0_3 = some r) ∧ Aside0 (kq ≤ k) ∧ Aside0 (wc.heap[gb146]? = some (.cells #[.int .u64 a0_0, .int .u64 a0_1, .int .u64 a0_2, .int .i64 a0_3] 30 (0, 0))) ∧ Aside0 (Below w.heap.size w wc))
 case first =>
  have H := HC4.out
  clear HC4
  replace H := Option.bind_eq_some_iff.mp H
  obtain ⟨t147, A60, H⟩ := H
  replace H : (if t147 = true then (if a0_2 > a0_1 then (manometerlaw19_LimitFills.j0 k a1 a2 true a0_0 a0_1 a0_2 a0_3) else (if a1 < a0_3 then (manometerlaw19_LimitFills.j0 k a1 a2 true a0_0 a0_1 a0_2 a0_3) else (manometerlaw19_LimitFills.j0 k a1 a2 (decide (a2 < a1)) a0_0 a0_1 a0_2 a0_3))) else (manometerlaw19_LimitFills.j0 k a1 a2 true a0_0 a0_1 a0_2 a0_3)) = some r := H
  have A6 := Aside0.mk A60
  clear A60
  by_cases c7 : t147 = true
  ·subst c7
   have H1 : (if a0_2 > a0_1 then (manometerlaw19_LimitFills.j0 k a1 a2 true a0_0 a0_1 a0_2 a0_3) else (if a1 < a0_3 then (manometerlaw19_LimitFills.j0 k a1 a2 true a0_0 a0_1 a0_2 a0_3) else (manometerlaw19_LimitFills.j0 k a1 a2 (decide (a2 < a1)) a0_0 a0_1 a0_2 a0_3))) = some r := by rw [if_pos rfl] at H; exact H
   clear H
   have H := H1
   clear H1
   by_cases c8 : a0_2 > a0_1
   ·rw [if_pos c8] at H
    have c8b0 : decide (a0_1 < a0_2) = true := decide_eq_true c8
    clear c8
    (first | rw [c8b0] | (simp only [i64_w, i32_w]; rw [c8b0]) | skip)
    have H' := Aside0.mk H
    clear H
    go_wp2_with (first | ((with_reducible refine gate_callee (f := 11) rfl ?_); refine goesL_ (some 11) rfl rfl Tryd.func11 (by kernel_rfl) rfl #[] rfl y10_ ?_; (with_reducible refine (manometerlaw19_live.calls  true _ ?side1 A6.out).mono ?_); (case side1 => exact ⟨Tab_below hT.out y16_⟩); rintro e w9 ⟨rfl, hb⟩; refine ⟨_, rfl, ?_⟩; have n0_ := Aside0.mk (blk_below (g := gb146) (o := .cells #[.int .u64 a0_0, .int .u64 a0_1, .int .u64 a0_2, .int .i64 a0_3] 30 (0, 0)) y2_ hb); have n1_ := Aside0.mk (below_step y16_ hb); clear BK146; clear HB; have BK146 := n0_; have HB := n1_; clear n0_ n1_; (try clear hb); (try clear hb2); (try clear hk); (try clear hi); have hcz10_0 : w9.cell? ⟨gb146, 0, none⟩ = some (.int .u64 a0_0) := (blk_cell BK146.out 0).trans rfl; have hcz10_1 : w9.cell? ⟨gb146, 1, none⟩ = some (.int .u64 a0_1) := (blk_cell BK146.out 1).trans rfl; have hcz10_2 : w9.cell? ⟨gb146, 2, none⟩ = some (.int .u64 a0_2) := (blk_cell BK146.out 2).trans rfl; have hcz10_3 : w9.cell? ⟨gb146, 3, none⟩ = some (.int .i64 a0_3) := (blk_cell BK146.out 3).trans rfl; have hfz10_0 := blk_frozen BK146.out 0; have hfz10_1 := blk_frozen BK146.out 1; have hfz10_2 := blk_frozen BK146.out 2; have hfz10_3 := blk_frozen BK146.out 3))
    go_meet
    case rel => exact ⟨_, (true), y21_, H', ⟨by first | omega | exact Nat.le_refl _⟩, ⟨y2_⟩, ⟨y16_⟩⟩
   ·rw [if_neg c8] at H
    have c8b0 : decide (a0_1 < a0_2) = false := decide_eq_false c8
    clear c8
    (first | rw [c8b0] | (simp only [i64_w, i32_w]; rw [c8b0]) | skip)
    by_cases c11 : a1 < a0_3
    ·rw [if_pos c11] at H
     have c11b0 : decide (a1 < a0_3) = true := decide_eq_true c11
     clear c11
     have H' := Aside0.mk H
     clear H
     go_wp2_with (first | ((with_reducible refine gate_callee (f := 11) rfl ?_); refine goesL_ (some 11) rfl rfl Tryd.func11 (by kernel_rfl) rfl #[] rfl y10_ ?_; (with_reducible refine (manometerlaw19_live.calls  true _ ?side1 A6.out).mono ?_); (case side1 => exact ⟨Tab_below hT.out y16_⟩); rintro e w12 ⟨rfl, hb⟩; refine ⟨_, rfl, ?_⟩; have n0_ := Aside0.mk (blk_below (g := gb146) (o := .cells #[.int .u64 a0_0, .int .u64 a0_1, .int .u64 a0_2, .int .i64 a0_3] 30 (0, 0)) y2_ hb); have n1_ := Aside0.mk (below_step y16_ hb); clear BK146; clear HB; have BK146 := n0_; have HB := n1_; clear n0_ n1_; (try clear hb); (try clear hb2); (try clear hk); (try clear hi); have hcz13_0 : w12.cell? ⟨gb146, 0, none⟩ = some (.int .u64 a0_0) := (blk_cell BK146.out 0).trans rfl; have hcz13_1 : w12.cell? ⟨gb146, 1, none⟩ = some (.int .u64 a0_1) := (blk_cell BK146.out 1).trans rfl; have hcz13_2 : w12.cell? ⟨gb146, 2, none⟩ = some (.int .u64 a0_2) := (blk_cell BK146.out 2).trans rfl; have hcz13_3 : w12.cell? ⟨gb146, 3, none⟩ = some (.int .i64 a0_3) := (blk_cell BK146.out 3).trans rfl; have hfz13_0 := blk_frozen BK146.out 0; have hfz13_1 := blk_frozen BK146.out 1; have hfz13_2 := blk_frozen BK146.out 2; have hfz13_3 := blk_frozen BK146.out 3))
     go_meet
     case rel => exact ⟨_, (true), y21_, H', ⟨by first | omega | exact Nat.le_refl _⟩, ⟨y2_⟩, ⟨y16_⟩⟩
    ·rw [if_neg c11] at H
     have c11b0 : decide (a1 < a0_3) = false := decide_eq_false c11
     clear c11
     have H' := Aside0.mk H
     clear H
     go_wp2_with (first | ((with_reducible refine gate_callee (f := 11) rfl ?_); refine goesL_ (some 11) rfl rfl Tryd.func11 (by kernel_rfl) rfl #[] rfl y10_ ?_; (with_reducible refine (manometerlaw19_live.calls  true _ ?side1 A6.out).mono ?_); (case side1 => exact ⟨Tab_below hT.out y16_⟩); rintro e w14 ⟨rfl, hb⟩; refine ⟨_, rfl, ?_⟩; have n0_ := Aside0.mk (blk_below (g := gb146) (o := .cells #[.int .u64 a0_0, .int .u64 a0_1, .int .u64 a0_2, .int .i64 a0_3] 30 (0, 0)) y2_ hb); have n1_ := Aside0.mk (below_step y16_ hb); clear BK146; clear HB; have BK146 := n0_; have HB := n1_; clear n0_ n1_; (try clear hb); (try clear hb2); (try clear hk); (try clear hi); have hcz15_0 : w14.cell? ⟨gb146, 0, none⟩ = some (.int .u64 a0_0) := (blk_cell BK146.out 0).trans rfl; have hcz15_1 : w14.cell? ⟨gb146, 1, none⟩ = some (.int .u64 a0_1) := (blk_cell BK146.out 1).trans rfl; have hcz15_2 : w14.cell? ⟨gb146, 2, none⟩ = some (.int .u64 a0_2) := (blk_cell BK146.out 2).trans rfl; have hcz15_3 : w14.cell? ⟨gb146, 3, none⟩ = some (.int .i64 a0_3) := (blk_cell BK146.out 3).trans rfl; have hfz15_0 := blk_frozen BK146.out 0; have hfz15_1 := blk_frozen BK146.out 1; have hfz15_2 := blk_frozen BK146.out 2; have hfz15_3 := blk_frozen BK146.out 3))
     go_meet
     case rel => exact ⟨_, (decide (a2 < a1)), y21_, H', ⟨by first | omega | exact Nat.le_refl _⟩, ⟨y2_⟩, ⟨y16_⟩⟩
  ·replace c7 := Bool.eq_false_iff.mpr c7
   subst c7
   have H1 : (manometerlaw19_LimitFills.j0 k a1 a2 true a0_0 a0_1 a0_2 a0_3) = some r := by rw [if_neg (show ¬ (false = true) by decide)] at H; exact H
   clear H
   have H := H1
   clear H1
   have H' := Aside0.mk H
   clear H
   go_wp2_with (first | ((with_reducible refine gate_callee (f := 11) rfl ?_); refine goesL_ (some 11) rfl rfl Tryd.func11 (by kernel_rfl) rfl #[] rfl y10_ ?_; (with_reducible refine (manometerlaw19_live.calls  false _ ?side1 A6.out).mono ?_); (case side1 => exact ⟨Tab_below hT.out y16_⟩); rintro e w16 ⟨rfl, hb⟩; refine ⟨_, rfl, ?_⟩; have n0_ := Aside0.mk (blk_below (g := gb146) (o := .cells #[.int .u64 a0_0, .int .u64 a0_1, .int .u64 a0_2, .int .i64 a0_3] 30 (0, 0)) y2_ hb); have n1_ := Aside0.mk (below_step y16_ hb); clear BK146; clear HB; have BK146 := n0_; have HB := n1_; clear n0_ n1_; (try clear hb); (try clear hb2); (try clear hk); (try clear hi)))
   go_meet
   case rel => exact ⟨_, (true), y21_, H', ⟨by first | omega | exact Nat.le_refl _⟩, ⟨y2_⟩, ⟨y16_⟩⟩
 case rest =>
  clear HC4
  try clear c1
  try clear p2
  try clear c5
  try clear c7
  try clear c8
  try clear c8b0
  try clear c11
  try clear c11b0
  try clear hcz10_0
  try clear hcz10_1
  try clear hcz10_2
  try clear hcz10_3
  try clear hcz13_0
  try clear hcz13_1
  try clear hcz13_2
  try clear hcz13_3
  try clear hcz15_0
  try clear hcz15_1
  try clear hcz15_2
  try clear hcz15_3
  try clear hfz10_0
  try clear hfz10_1
  try clear hfz10_2
  try clear hfz10_3
  try clear hfz13_0
  try clear hfz13_1
  try clear hfz13_2
  try clear hfz13_3
  try clear hfz15_0
  try clear hfz15_1
  try clear hfz15_2
  try clear hfz15_3
  obtain ⟨kq, x30_3, rfl, HA, HJ3, BK146, HB⟩ := hcut
  cases kq with
  | zero => exact absurd HA.out (by simp [manometerlaw19_LimitFills.j0])
  | succ kj3 =>
   have H := HA.out
   clear HA
   simp only [manometerlaw19_LimitFills.j0] at H
   by_cases c17 : x30_3 = true
   ·subst c17
    have H1 : ((manometerlaw19_live.f).bind fun t148 => (some t148)) = some r := by rw [if_pos rfl] at H; exact H
    clear H
    have H := H1
    clear H1
    replace H := Option.bind_eq_some_iff.mp H
    obtain ⟨t148, A180, H⟩ := H
    replace H : (some t148) = some r := H
    have A18 := Aside0.mk A180
    clear A180
    obtain rfl := Option.some.inj H
    go_wp2_with (first | ((with_reducible refine gate_callee (f := 11) rfl ?_); refine goesL_ (some 31) rfl rfl Tryd.func11 (by kernel_rfl) rfl #[] rfl y10_ ?_; (with_reducible refine (manometerlaw19_live.calls  t148 _ ?side1 A18.out).mono ?_); (case side1 => exact ⟨Tab_below hT.out y16_⟩); rintro e w19 ⟨rfl, hb⟩; refine ⟨_, rfl, ?_⟩; have n0_ := Aside0.mk (blk_below (g := gb146) (o := .cells #[.int .u64 a0_0, .int .u64 a0_1, .int .u64 a0_2, .int .i64 a0_3] 30 (0, 0)) y2_ hb); have n1_ := Aside0.mk (below_step y16_ hb); clear BK146; clear HB; have BK146 := n0_; have HB := n1_; clear n0_ n1_; (try clear hb); (try clear hb2); (try clear hk); (try clear hi)))
    go_ret
    exact ⟨y20_, y16_⟩
   ·replace c17 := Bool.eq_false_iff.mpr c17
    subst c17
    have H1 : ((limit_Fill.f a0_0 a0_1 a0_2 a0_3 a1).bind fun bt149 => ((limit_Fill.f bt149.1 bt149.2.1 bt149.2.2.1 bt149.2.2.2 a2).bind fun bt154 => ((limit_Fill.f a0_0 a0_1 a0_2 a0_3 a2).bind fun bt158 => (if bt149.2.2.1 < a0_2 then (manometerlaw19_LimitFills.j1 kj3 a2 true a0_0 a0_1 a0_2 a0_3 bt154.1 bt154.2.1 bt154.2.2.1 bt154.2.2.2) else (if (!(bt154.1 == bt158.1) || (!(bt154.2.1 == bt158.2.1) || (!(bt154.2.2.1 == bt158.2.2.1) || (!(bt154.2.2.2 == bt158.2.2.2))))) = true then (manometerlaw19_LimitFills.j1 kj3 a2 true a0_0 a0_1 a0_2 a0_3 bt154.1 bt154.2.1 bt154.2.2.1 bt154.2.2.2) else (if bt154.2.2.1 > a0_1 then (manometerlaw19_LimitFills.j1 kj3 a2 true a0_0 a0_1 a0_2 a0_3 bt154.1 bt154.2.1 bt154.2.2.1 bt154.2.2.2) else (manometerlaw19_LimitFills.j1 kj3 a2 (decide (bt154.2.2.1 < bt149.2.2.1)) a0_0 a0_1 a0_2 a0_3 bt154.1 bt154.2.1 bt154.2.2.1 bt154.2.2.2))))))) = some r := by rw [if_neg (show ¬ (false = true) by decide)] at H; exact H
    clear H
    have H := H1
    clear H1
    replace H := Option.bind_eq_some_iff.mp H
    obtain ⟨⟨t149, t150, t151, t152⟩, A200, H⟩ := H
    replace H : ((limit_Fill.f t149 t150 t151 t152 a2).bind fun bt154 => ((limit_Fill.f a0_0 a0_1 a0_2 a0_3 a2).bind fun bt158 => (if t151 < a0_2 then (manometerlaw19_LimitFills.j1 kj3 a2 true a0_0 a0_1 a0_2 a0_3 bt154.1 bt154.2.1 bt154.2.2.1 bt154.2.2.2) else (if (!(bt154.1 == bt158.1) || (!(bt154.2.1 == bt158.2.1) || (!(bt154.2.2.1 == bt158.2.2.1) || (!(bt154.2.2.2 == bt158.2.2.2))))) = true then (manometerlaw19_LimitFills.j1 kj3 a2 true a0_0 a0_1 a0_2 a0_3 bt154.1 bt154.2.1 bt154.2.2.1 bt154.2.2.2) else (if bt154.2.2.1 > a0_1 then (manometerlaw19_LimitFills.j1 kj3 a2 true a0_0 a0_1 a0_2 a0_3 bt154.1 bt154.2.1 bt154.2.2.1 bt154.2.2.2) else (manometerlaw19_LimitFills.j1 kj3 a2 (decide (bt154.2.2.1 < t151)) a0_0 a0_1 a0_2 a0_3 bt154.1 bt154.2.1 bt154.2.2.1 bt154.2.2.2)))))) = some r := H
    have A20 := Aside0.mk A200
    clear A200
    replace H := Option.bind_eq_some_iff.mp H
    obtain ⟨⟨t154, t155, t156, t157⟩, A210, H⟩ := H
    replace H : ((limit_Fill.f a0_0 a0_1 a0_2 a0_3 a2).bind fun bt158 => (if t151 < a0_2 then (manometerlaw19_LimitFills.j1 kj3 a2 true a0_0 a0_1 a0_2 a0_3 t154 t155 t156 t157) else (if (!(t154 == bt158.1) || (!(t155 == bt158.2.1) || (!(t156 == bt158.2.2.1) || (!(t157 == bt158.2.2.2))))) = true then (manometerlaw19_LimitFills.j1 kj3 a2 true a0_0 a0_1 a0_2 a0_3 t154 t155 t156 t157) else (if t156 > a0_1 then (manometerlaw19_LimitFills.j1 kj3 a2 true a0_0 a0_1 a0_2 a0_3 t154 t155 t156 t157) else (manometerlaw19_LimitFills.j1 kj3 a2 (decide (t156 < t151)) a0_0 a0_1 a0_2 a0_3 t154 t155 t156 t157))))) = some r := H
    have A21 := Aside0.mk A210
    clear A210
    replace H := Option.bind_eq_some_iff.mp H
    obtain ⟨⟨t158, t159, t160, t161⟩, A220, H⟩ := H
    replace H : (if t151 < a0_2 then (manometerlaw19_LimitFills.j1 kj3 a2 true a0_0 a0_1 a0_2 a0_3 t154 t155 t156 t157) else (if (!(t154 == t158) || (!(t155 == t159) || (!(t156 == t160) || (!(t157 == t161))))) = true then (manometerlaw19_LimitFills.j1 kj3 a2 true a0_0 a0_1 a0_2 a0_3 t154 t155 t156 t157) else (if t156 > a0_1 then (manometerlaw19_LimitFills.j1 kj3 a2 true a0_0 a0_1 a0_2 a0_3 t154 t155 t156 t157) else (manometerlaw19_LimitFills.j1 kj3 a2 (decide (t156 < t151)) a0_0 a0_1 a0_2 a0_3 t154 t155 t156 t157)))) = some r := H
    have A22 := Aside0.mk A220
    clear A220
    have HC23 := Aside0.mk H
    clear H
    have hcz24_0 : wc.cell? ⟨gb146, 0, none⟩ = some (.int .u64 a0_0) := (blk_cell BK146.out 0).trans rfl
    have hcz24_1 : wc.cell? ⟨gb146, 1, none⟩ = some (.int .u64 a0_1) := (blk_cell BK146.out 1).trans rfl
    have hcz24_2 : wc.cell? ⟨gb146, 2, none⟩ = some (.int .u64 a0_2) := (blk_cell BK146.out 2).trans rfl
    have hcz24_3 : wc.cell? ⟨gb146, 3, none⟩ = some (.int .i64 a0_3) := (blk_cell BK146.out 3).trans rfl
    have hfz24_0 := blk_frozen BK146.out 0
    have hfz24_1 := blk_frozen BK146.out 1
    have hfz24_2 := blk_frozen BK146.out 2
    have hfz24_3 := blk_frozen BK146.out 3
    try go_wp2_with (first | ((with_reducible refine gate_callee (f := 18) rfl ?_); refine goesL_ (some 34) rfl rfl Tryd.func18 (by kernel_rfl) rfl #[.agg #[.int .u64 a0_0, .int .u64 a0_1, .int .u64 a0_2, .int .i64 a0_3], .int .i64 a1] rfl y10_ ?_; (with_reducible refine (limit_Fill.calls a0_0 a0_1 a0_2 a0_3 a1 t149 t150 t151 t152 _ A20.out).mono ?_); rintro e w25 ⟨rfl, hb⟩; refine ⟨_, rfl, ?_⟩; have n0_ := Aside0.mk (blk_below (g := gb146) (o := .cells #[.int .u64 a0_0, .int .u64 a0_1, .int .u64 a0_2, .int .i64 a0_3] 30 (0, 0)) y2_ hb); have n1_ := Aside0.mk (below_step y16_ hb); clear BK146; clear HB; have BK146 := n0_; have HB := n1_; clear n0_ n1_; (try clear hb); (try clear hb2); (try clear hk); (try clear hi)) | ((with_reducible refine gate_dst (N := 7) rfl ?_); refine box_event ?hg (N := 7) ?hd (cs := #[.int .u64 0, .int .u64 0, .int .u64 0, .int .i64 0]) (t := 30) ?hr ?_; (case hd => rfl); (case hg => rfl); (case hr => first | (go_simp; done) | (go_simp; rfl)); intro gb153 hg w26 hbox hb; have n0_ := Aside0.mk (blk_below (g := gb146) (o := .cells #[.int .u64 a0_0, .int .u64 a0_1, .int .u64 a0_2, .int .i64 a0_3] 30 (0, 0)) y2_ hb); have n1_ := Aside0.mk (below_step y16_ hb); have n2_ := Aside0.mk (hbox); have n3_ := Aside0.mk ((by rw [hg]; exact (below_size y16_) : w.heap.size ≤ gb153)); have n4_ := Aside0.mk ((by rw [hg]; exact (below_size y16_) : w.heap.size ≤ gb153)); have n5_ := Aside0.mk ((y23_ : gb146 ≠ gb153)); have n6_ := Aside0.mk ((y24_ : gb153 ≠ gb146)); clear BK146; clear HB; have BK146 := n0_; have HB := n1_; have BK153 := n2_; have GW153 := n3_; have GE153 := n4_; have NB146_153 := n5_; have NB153_146 := n6_; clear n0_ n1_ n2_ n3_ n4_ n5_ n6_; clear hb hbox hg; have hnb27 := NB153_146.out; have hnc27 := NB146_153.out; have hcz28_0 : w26.cell? ⟨gb153, 0, none⟩ = some (.int .u64 0) := (blk_cell BK153.out 0).trans rfl; have hcz28_1 : w26.cell? ⟨gb153, 1, none⟩ = some (.int .u64 0) := (blk_cell BK153.out 1).trans rfl; have hcz28_2 : w26.cell? ⟨gb153, 2, none⟩ = some (.int .u64 0) := (blk_cell BK153.out 2).trans rfl; have hcz28_3 : w26.cell? ⟨gb153, 3, none⟩ = some (.int .i64 0) := (blk_cell BK153.out 3).trans rfl; have hfz28_0 := blk_frozen BK153.out 0; have hfz28_1 := blk_frozen BK153.out 1; have hfz28_2 := blk_frozen BK153.out 2; have hfz28_3 := blk_frozen BK153.out 3))
    have n0_ : Aside0 (((((w26.setCell ⟨gb153, 0, none⟩ (.int .u64 t149)).setCell ⟨gb153, 1, none⟩ (.int .u64 t150)).setCell ⟨gb153, 2, none⟩ (.int .u64 t151)).setCell ⟨gb153, 3, none⟩ (.int .i64 t152)).heap[gb146]? = some (.cells #[.int .u64 a0_0, .int .u64 a0_1, .int .u64 a0_2, .int .i64 a0_3] 30 (0, 0))) := ⟨by (with_reducible repeat (first | refine blk_drewN ?_ _ | refine blk_drew ?_ | refine blk_alloc ?_ _)); refine blk_far ?_ NB146_153.out _; (with_reducible repeat (first | refine blk_drewN ?_ _ | refine blk_drew ?_ | refine blk_alloc ?_ _)); refine blk_far ?_ NB146_153.out _; (with_reducible repeat (first | refine blk_drewN ?_ _ | refine blk_drew ?_ | refine blk_alloc ?_ _)); refine blk_far ?_ NB146_153.out _; (with_reducible repeat (first | refine blk_drewN ?_ _ | refine blk_drew ?_ | refine blk_alloc ?_ _)); refine blk_far ?_ NB146_153.out _; (with_reducible repeat (first | refine blk_drewN ?_ _ | refine blk_drew ?_ | refine blk_alloc ?_ _)); exact BK146.out⟩
    have n1_ : Aside0 (((((w26.setCell ⟨gb153, 0, none⟩ (.int .u64 t149)).setCell ⟨gb153, 1, none⟩ (.int .u64 t150)).setCell ⟨gb153, 2, none⟩ (.int .u64 t151)).setCell ⟨gb153, 3, none⟩ (.int .i64 t152)).heap[gb153]? = some (.cells #[.int .u64 t149, .int .u64 t150, .int .u64 t151, .int .i64 t152] 30 (0, 0))) := ⟨by (with_reducible repeat (first | refine blk_drewN ?_ _ | refine blk_drew ?_ | refine blk_alloc ?_ _)); refine blk_put (cs := #[.int .u64 t149, .int .u64 t150, .int .u64 t151, .int .i64 0]) ?_ 3 _ rfl; (with_reducible repeat (first | refine blk_drewN ?_ _ | refine blk_drew ?_ | refine blk_alloc ?_ _)); refine blk_put (cs := #[.int .u64 t149, .int .u64 t150, .int .u64 0, .int .i64 0]) ?_ 2 _ rfl; (with_reducible repeat (first | refine blk_drewN ?_ _ | refine blk_drew ?_ | refine blk_alloc ?_ _)); refine blk_put (cs := #[.int .u64 t149, .int .u64 0, .int .u64 0, .int .i64 0]) ?_ 1 _ rfl; (with_reducible repeat (first | refine blk_drewN ?_ _ | refine blk_drew ?_ | refine blk_alloc ?_ _)); refine blk_put (cs := #[.int .u64 0, .int .u64 0, .int .u64 0, .int .i64 0]) ?_ 0 _ rfl; (with_reducible repeat (first | refine blk_drewN ?_ _ | refine blk_drew ?_ | refine blk_alloc ?_ _)); exact BK153.out⟩
    have n2_ : Aside0 (Below w.heap.size w ((((w26.setCell ⟨gb153, 0, none⟩ (.int .u64 t149)).setCell ⟨gb153, 1, none⟩ (.int .u64 t150)).setCell ⟨gb153, 2, none⟩ (.int .u64 t151)).setCell ⟨gb153, 3, none⟩ (.int .i64 t152))) := ⟨y8_⟩
    (try clear BK146)
    (try clear BK153)
    (try clear HB)
    generalize ((((w26.setCell ⟨gb153, 0, none⟩ (.int .u64 t149)).setCell ⟨gb153, 1, none⟩ (.int .u64 t150)).setCell ⟨gb153, 2, none⟩ (.int .u64 t151)).setCell ⟨gb153, 3, none⟩ (.int .i64 t152)) = w29 at n0_ n1_ n2_ ⊢
    have BK146 := n0_
    have BK153 := n1_
    have HB := n2_
    clear n0_ n1_ n2_
    have n0_ := Aside0.mk (blk_drew BK146.out)
    have n1_ := Aside0.mk (blk_drew BK153.out)
    have n2_ := Aside0.mk (below_drew1 HB.out)
    clear BK146
    clear BK153
    clear HB
    have BK146 := n0_
    have BK153 := n1_
    have HB := n2_
    clear n0_ n1_ n2_
    refine start_ (n := 10) (S := fun w' => w'.cell? ⟨gb153, 0, none⟩ = some (.int .u64 t149) ∧ w'.cell? ⟨gb153, 1, none⟩ = some (.int .u64 t150) ∧ w'.cell? ⟨gb153, 2, none⟩ = some (.int .u64 t151) ∧ w'.cell? ⟨gb153, 3, none⟩ = some (.int .i64 t152) ∧ w'.cell? ⟨gb146, 0, none⟩ = some (.int .u64 a0_0) ∧ w'.cell? ⟨gb146, 1, none⟩ = some (.int .u64 a0_1) ∧ w'.cell? ⟨gb146, 2, none⟩ = some (.int .u64 a0_2) ∧ w'.cell? ⟨gb146, 3, none⟩ = some (.int .i64 a0_3)) (ds := []) #[false, false, false, false, false, false, false, false, false, false] (by kernel_rfl) rfl rfl ⟨(blk_cell BK153.out 0).trans rfl, (blk_cell BK153.out 1).trans rfl, (blk_cell BK153.out 2).trans rfl, (blk_cell BK153.out 3).trans rfl, (blk_cell BK146.out 0).trans rfl, (blk_cell BK146.out 1).trans rfl, (blk_cell BK146.out 2).trans rfl, (blk_cell BK146.out 3).trans rfl⟩ (fun hHeld => ?_); refine with_tabW manometerlaw19_LimitFills.tab4 manometerlaw19_LimitFills.bits4 (fun HT_ HW_ => ?_)
    generalize w29.drew = w30 at BK146 BK153 HB hHeld ⊢
    refine pure_ (i := 1) (N := some 36) (v := ?_) (a' := ?_) #[false, true, false, false, false, false, false, false, false, false] rfl rfl (any_of HT_.out (by kernel_rfl)) (fun _ _ _ h => h) (Or.inl ⟨by rfl, ?_⟩) ?_ ?_
    rotate_left
    ·intro w'
     go_simp
     with_reducible rfl
    rotate_left
    ·simp only [Act.put, List.setIfInBounds_toArray, List.set_cons_zero, List.set_cons_succ, i64_w, i32_w]
     rfl
    refine pure_ (i := 4) (N := some 39) (v := ?_) (a' := ?_) #[false, true, false, false, true, false, false, false, false, false] rfl rfl (any_of HT_.out (by kernel_rfl)) (fun _ _ _ h => h) (Or.inl ⟨by rfl, ?_⟩) ?_ ?_
    rotate_left
    ·intro w'
     go_simp
     with_reducible rfl
    rotate_left
    ·simp only [Act.put, List.setIfInBounds_toArray, List.set_cons_zero, List.set_cons_succ, i64_w, i32_w]
     rfl
    refine take_ (i := 0) (N := some 35) (v := ?_) (a' := ?_) #[true, true, false, false, true, false, false, false, false, false] rfl rfl (take_ofW HT_.out HW_.out (by kernel_rfl)) (fun _ _ _ h => h) (Or.inl ⟨by rfl, ?_⟩) hHeld ?_ ?_
    rotate_left
    ·rintro w' ⟨s0, s1, s2, s3, s4, s5, s6, s7⟩
     go_simp
     with_reducible rfl
    rotate_left
    ·simp only [Act.put, List.setIfInBounds_toArray, List.set_cons_zero, List.set_cons_succ, i64_w, i32_w]
     rfl
    refine take_ (i := 3) (N := some 38) (v := ?_) (a' := ?_) #[true, true, false, true, true, false, false, false, false, false] rfl rfl (take_ofW HT_.out HW_.out (by kernel_rfl)) (fun _ _ _ h => h) (Or.inl ⟨by rfl, ?_⟩) hHeld ?_ ?_
    rotate_left
    ·rintro w' ⟨s0, s1, s2, s3, s4, s5, s6, s7⟩
     go_simp
     with_reducible rfl
    rotate_left
    ·simp only [Act.put, List.setIfInBounds_toArray, List.set_cons_zero, List.set_cons_succ, i64_w, i32_w]
     rfl
    refine join_ (σ := Nat × Nat) 2 #[true, true, true, true, true, true, true, true, false, false] (fun s_ => [(37, .agg #[.int .u64 t154, .int .u64 t155, .int .u64 t156, .int .i64 t157]), (40, .agg #[.int .u64 t158, .int .u64 t159, .int .u64 t160, .int .i64 t161]), (8, .pointer (some ⟨s_.1, 0, none⟩)), (9, .pointer (some ⟨s_.2, 0, none⟩))]) (fun s_ w' => (w'.cell? ⟨gb153, 0, none⟩ = some (.int .u64 t149) ∧ w'.cell? ⟨gb153, 1, none⟩ = some (.int .u64 t150) ∧ w'.cell? ⟨gb153, 2, none⟩ = some (.int .u64 t151) ∧ w'.cell? ⟨gb153, 3, none⟩ = some (.int .i64 t152) ∧ w'.cell? ⟨gb146, 0, none⟩ = some (.int .u64 a0_0) ∧ w'.cell? ⟨gb146, 1, none⟩ = some (.int .u64 a0_1) ∧ w'.cell? ⟨gb146, 2, none⟩ = some (.int .u64 a0_2) ∧ w'.cell? ⟨gb146, 3, none⟩ = some (.int .i64 a0_3)) ∧ (w'.heap[gb146]? = some (.cells #[.int .u64 a0_0, .int .u64 a0_1, .int .u64 a0_2, .int .i64 a0_3] 30 (0, 0))) ∧ (w'.heap[gb153]? = some (.cells #[.int .u64 t149, .int .u64 t150, .int .u64 t151, .int .i64 t152] 30 (0, 0))) ∧ (w'.heap[s_.1]? = some (.cells #[.int .u64 0, .int .u64 0, .int .u64 0, .int .i64 0] 30 (0, 0))) ∧ (w'.heap[s_.2]? = some (.cells #[.int .u64 0, .int .u64 0, .int .u64 0, .int .i64 0] 30 (0, 0))) ∧ (w.heap.size ≤ s_.1) ∧ (w.heap.size ≤ s_.1) ∧ (gb146 ≠ s_.1) ∧ (s_.1 ≠ gb146) ∧ (gb153 ≠ s_.1) ∧ (s_.1 ≠ gb153) ∧ (s_.2 ≠ s_.1) ∧ (s_.1 ≠ s_.2) ∧ (w.heap.size ≤ s_.2) ∧ (w.heap.size ≤ s_.2) ∧ (gb146 ≠ s_.2) ∧ (s_.2 ≠ gb146) ∧ (gb153 ≠ s_.2) ∧ (s_.2 ≠ gb153) ∧ (Below w.heap.size w w')) ?_ ?_
    rotate_left
    ·intro hJ2_5_6_7
     refine join_ (σ := Nat) 3 #[true, true, true, true, true, true, true, false, false, false] (fun s_ => [(37, .agg #[.int .u64 t154, .int .u64 t155, .int .u64 t156, .int .i64 t157]), (40, .agg #[.int .u64 t158, .int .u64 t159, .int .u64 t160, .int .i64 t161]), (8, .pointer (some ⟨s_, 0, none⟩))]) (fun s_ w' => (w'.cell? ⟨gb153, 0, none⟩ = some (.int .u64 t149) ∧ w'.cell? ⟨gb153, 1, none⟩ = some (.int .u64 t150) ∧ w'.cell? ⟨gb153, 2, none⟩ = some (.int .u64 t151) ∧ w'.cell? ⟨gb153, 3, none⟩ = some (.int .i64 t152) ∧ w'.cell? ⟨gb146, 0, none⟩ = some (.int .u64 a0_0) ∧ w'.cell? ⟨gb146, 1, none⟩ = some (.int .u64 a0_1) ∧ w'.cell? ⟨gb146, 2, none⟩ = some (.int .u64 a0_2) ∧ w'.cell? ⟨gb146, 3, none⟩ = some (.int .i64 a0_3)) ∧ (w'.heap[gb146]? = some (.cells #[.int .u64 a0_0, .int .u64 a0_1, .int .u64 a0_2, .int .i64 a0_3] 30 (0, 0))) ∧ (w'.heap[gb153]? = some (.cells #[.int .u64 t149, .int .u64 t150, .int .u64 t151, .int .i64 t152] 30 (0, 0))) ∧ (w'.heap[s_]? = some (.cells #[.int .u64 0, .int .u64 0, .int .u64 0, .int .i64 0] 30 (0, 0))) ∧ (w.heap.size ≤ s_) ∧ (w.heap.size ≤ s_) ∧ (gb146 ≠ s_) ∧ (s_ ≠ gb146) ∧ (gb153 ≠ s_) ∧ (s_ ≠ gb153) ∧ (Below w.heap.size w w')) ?_ ?_
     rotate_left
     ·intro hJ2_5_6
      refine join_ (σ := Nat) 3 #[true, true, true, true, true, true, false, true, false, false] (fun s_ => [(37, .agg #[.int .u64 t154, .int .u64 t155, .int .u64 t156, .int .i64 t157]), (40, .agg #[.int .u64 t158, .int .u64 t159, .int .u64 t160, .int .i64 t161]), (9, .pointer (some ⟨s_, 0, none⟩))]) (fun s_ w' => (w'.cell? ⟨gb153, 0, none⟩ = some (.int .u64 t149) ∧ w'.cell? ⟨gb153, 1, none⟩ = some (.int .u64 t150) ∧ w'.cell? ⟨gb153, 2, none⟩ = some (.int .u64 t151) ∧ w'.cell? ⟨gb153, 3, none⟩ = some (.int .i64 t152) ∧ w'.cell? ⟨gb146, 0, none⟩ = some (.int .u64 a0_0) ∧ w'.cell? ⟨gb146, 1, none⟩ = some (.int .u64 a0_1) ∧ w'.cell? ⟨gb146, 2, none⟩ = some (.int .u64 a0_2) ∧ w'.cell? ⟨gb146, 3, none⟩ = some (.int .i64 a0_3)) ∧ (w'.heap[gb146]? = some (.cells #[.int .u64 a0_0, .int .u64 a0_1, .int .u64 a0_2, .int .i64 a0_3] 30 (0, 0))) ∧ (w'.heap[gb153]? = some (.cells #[.int .u64 t149, .int .u64 t150, .int .u64 t151, .int .i64 t152] 30 (0, 0))) ∧ (w'.heap[s_]? = some (.cells #[.int .u64 0, .int .u64 0, .int .u64 0, .int .i64 0] 30 (0, 0))) ∧ (w.heap.size ≤ s_) ∧ (w.heap.size ≤ s_) ∧ (gb146 ≠ s_) ∧ (s_ ≠ gb146) ∧ (gb153 ≠ s_) ∧ (s_ ≠ gb153) ∧ (Below w.heap.size w w')) ?_ ?_
      rotate_left
      ·intro hJ2_5_7
       refine join_ (σ := Nat × Nat) 3 #[true, true, true, true, true, false, true, true, false, false] (fun s_ => [(37, .agg #[.int .u64 t154, .int .u64 t155, .int .u64 t156, .int .i64 t157]), (8, .pointer (some ⟨s_.1, 0, none⟩)), (9, .pointer (some ⟨s_.2, 0, none⟩))]) (fun s_ w' => (w'.cell? ⟨gb153, 0, none⟩ = some (.int .u64 t149) ∧ w'.cell? ⟨gb153, 1, none⟩ = some (.int .u64 t150) ∧ w'.cell? ⟨gb153, 2, none⟩ = some (.int .u64 t151) ∧ w'.cell? ⟨gb153, 3, none⟩ = some (.int .i64 t152) ∧ w'.cell? ⟨gb146, 0, none⟩ = some (.int .u64 a0_0) ∧ w'.cell? ⟨gb146, 1, none⟩ = some (.int .u64 a0_1) ∧ w'.cell? ⟨gb146, 2, none⟩ = some (.int .u64 a0_2) ∧ w'.cell? ⟨gb146, 3, none⟩ = some (.int .i64 a0_3)) ∧ (w'.heap[gb146]? = some (.cells #[.int .u64 a0_0, .int .u64 a0_1, .int .u64 a0_2, .int .i64 a0_3] 30 (0, 0))) ∧ (w'.heap[gb153]? = some (.cells #[.int .u64 t149, .int .u64 t150, .int .u64 t151, .int .i64 t152] 30 (0, 0))) ∧ (w'.heap[s_.1]? = some (.cells #[.int .u64 0, .int .u64 0, .int .u64 0, .int .i64 0] 30 (0, 0))) ∧ (w'.heap[s_.2]? = some (.cells #[.int .u64 0, .int .u64 0, .int .u64 0, .int .i64 0] 30 (0, 0))) ∧ (w.heap.size ≤ s_.1) ∧ (w.heap.size ≤ s_.1) ∧ (gb146 ≠ s_.1) ∧ (s_.1 ≠ gb146) ∧ (gb153 ≠ s_.1) ∧ (s_.1 ≠ gb153) ∧ (s_.2 ≠ s_.1) ∧ (s_.1 ≠ s_.2) ∧ (w.heap.size ≤ s_.2) ∧ (w.heap.size ≤ s_.2) ∧ (gb146 ≠ s_.2) ∧ (s_.2 ≠ gb146) ∧ (gb153 ≠ s_.2) ∧ (s_.2 ≠ gb153) ∧ (Below w.heap.size w w')) ?_ ?_
       rotate_left
       ·intro hJ2_6_7
        refine join_ (σ := Unit) 4 #[true, true, true, true, true, true, false, false, false, false] (fun s_ => [(37, .agg #[.int .u64 t154, .int .u64 t155, .int .u64 t156, .int .i64 t157]), (40, .agg #[.int .u64 t158, .int .u64 t159, .int .u64 t160, .int .i64 t161])]) (fun s_ w' => (w'.cell? ⟨gb153, 0, none⟩ = some (.int .u64 t149) ∧ w'.cell? ⟨gb153, 1, none⟩ = some (.int .u64 t150) ∧ w'.cell? ⟨gb153, 2, none⟩ = some (.int .u64 t151) ∧ w'.cell? ⟨gb153, 3, none⟩ = some (.int .i64 t152) ∧ w'.cell? ⟨gb146, 0, none⟩ = some (.int .u64 a0_0) ∧ w'.cell? ⟨gb146, 1, none⟩ = some (.int .u64 a0_1) ∧ w'.cell? ⟨gb146, 2, none⟩ = some (.int .u64 a0_2) ∧ w'.cell? ⟨gb146, 3, none⟩ = some (.int .i64 a0_3)) ∧ (w'.heap[gb146]? = some (.cells #[.int .u64 a0_0, .int .u64 a0_1, .int .u64 a0_2, .int .i64 a0_3] 30 (0, 0))) ∧ (w'.heap[gb153]? = some (.cells #[.int .u64 t149, .int .u64 t150, .int .u64 t151, .int .i64 t152] 30 (0, 0))) ∧ (Below w.heap.size w w')) ?_ ?_
        rotate_left
        ·intro hJ2_5
         refine join_ (σ := Nat) 4 #[true, true, true, true, true, false, true, false, false, false] (fun s_ => [(37, .agg #[.int .u64 t154, .int .u64 t155, .int .u64 t156, .int .i64 t157]), (8, .pointer (some ⟨s_, 0, none⟩))]) (fun s_ w' => (w'.cell? ⟨gb153, 0, none⟩ = some (.int .u64 t149) ∧ w'.cell? ⟨gb153, 1, none⟩ = some (.int .u64 t150) ∧ w'.cell? ⟨gb153, 2, none⟩ = some (.int .u64 t151) ∧ w'.cell? ⟨gb153, 3, none⟩ = some (.int .i64 t152) ∧ w'.cell? ⟨gb146, 0, none⟩ = some (.int .u64 a0_0) ∧ w'.cell? ⟨gb146, 1, none⟩ = some (.int .u64 a0_1) ∧ w'.cell? ⟨gb146, 2, none⟩ = some (.int .u64 a0_2) ∧ w'.cell? ⟨gb146, 3, none⟩ = some (.int .i64 a0_3)) ∧ (w'.heap[gb146]? = some (.cells #[.int .u64 a0_0, .int .u64 a0_1, .int .u64 a0_2, .int .i64 a0_3] 30 (0, 0))) ∧ (w'.heap[gb153]? = some (.cells #[.int .u64 t149, .int .u64 t150, .int .u64 t151, .int .i64 t152] 30 (0, 0))) ∧ (w'.heap[s_]? = some (.cells #[.int .u64 0, .int .u64 0, .int .u64 0, .int .i64 0] 30 (0, 0))) ∧ (w.heap.size ≤ s_) ∧ (w.heap.size ≤ s_) ∧ (gb146 ≠ s_) ∧ (s_ ≠ gb146) ∧ (gb153 ≠ s_) ∧ (s_ ≠ gb153) ∧ (Below w.heap.size w w')) ?_ ?_
         rotate_left
         ·intro hJ2_6
          refine join_ (σ := Nat) 4 #[true, true, true, true, true, false, false, true, false, false] (fun s_ => [(37, .agg #[.int .u64 t154, .int .u64 t155, .int .u64 t156, .int .i64 t157]), (9, .pointer (some ⟨s_, 0, none⟩))]) (fun s_ w' => (w'.cell? ⟨gb153, 0, none⟩ = some (.int .u64 t149) ∧ w'.cell? ⟨gb153, 1, none⟩ = some (.int .u64 t150) ∧ w'.cell? ⟨gb153, 2, none⟩ = some (.int .u64 t151) ∧ w'.cell? ⟨gb153, 3, none⟩ = some (.int .i64 t152) ∧ w'.cell? ⟨gb146, 0, none⟩ = some (.int .u64 a0_0) ∧ w'.cell? ⟨gb146, 1, none⟩ = some (.int .u64 a0_1) ∧ w'.cell? ⟨gb146, 2, none⟩ = some (.int .u64 a0_2) ∧ w'.cell? ⟨gb146, 3, none⟩ = some (.int .i64 a0_3)) ∧ (w'.heap[gb146]? = some (.cells #[.int .u64 a0_0, .int .u64 a0_1, .int .u64 a0_2, .int .i64 a0_3] 30 (0, 0))) ∧ (w'.heap[gb153]? = some (.cells #[.int .u64 t149, .int .u64 t150, .int .u64 t151, .int .i64 t152] 30 (0, 0))) ∧ (w'.heap[s_]? = some (.cells #[.int .u64 0, .int .u64 0, .int .u64 0, .int .i64 0] 30 (0, 0))) ∧ (w.heap.size ≤ s_) ∧ (w.heap.size ≤ s_) ∧ (gb146 ≠ s_) ∧ (s_ ≠ gb146) ∧ (gb153 ≠ s_) ∧ (s_ ≠ gb153) ∧ (Below w.heap.size w w')) ?_ ?_
          rotate_left
          ·intro hJ2_7
           refine join_ (σ := Nat × Nat) 4 #[true, true, false, true, true, false, true, true, false, false] (fun s_ => [(8, .pointer (some ⟨s_.1, 0, none⟩)), (9, .pointer (some ⟨s_.2, 0, none⟩))]) (fun s_ w' => (w'.cell? ⟨gb153, 0, none⟩ = some (.int .u64 t149) ∧ w'.cell? ⟨gb153, 1, none⟩ = some (.int .u64 t150) ∧ w'.cell? ⟨gb153, 2, none⟩ = some (.int .u64 t151) ∧ w'.cell? ⟨gb153, 3, none⟩ = some (.int .i64 t152) ∧ w'.cell? ⟨gb146, 0, none⟩ = some (.int .u64 a0_0) ∧ w'.cell? ⟨gb146, 1, none⟩ = some (.int .u64 a0_1) ∧ w'.cell? ⟨gb146, 2, none⟩ = some (.int .u64 a0_2) ∧ w'.cell? ⟨gb146, 3, none⟩ = some (.int .i64 a0_3)) ∧ (w'.heap[gb146]? = some (.cells #[.int .u64 a0_0, .int .u64 a0_1, .int .u64 a0_2, .int .i64 a0_3] 30 (0, 0))) ∧ (w'.heap[gb153]? = some (.cells #[.int .u64 t149, .int .u64 t150, .int .u64 t151, .int .i64 t152] 30 (0, 0))) ∧ (w'.heap[s_.1]? = some (.cells #[.int .u64 0, .int .u64 0, .int .u64 0, .int .i64 0] 30 (0, 0))) ∧ (w'.heap[s_.2]? = some (.cells #[.int .u64 0, .int .u64 0, .int .u64 0, .int .i64 0] 30 (0, 0))) ∧ (w.heap.size ≤ s_.1) ∧ (w.heap.size ≤ s_.1) ∧ (gb146 ≠ s_.1) ∧ (s_.1 ≠ gb146) ∧ (gb153 ≠ s_.1) ∧ (s_.1 ≠ gb153) ∧ (s_.2 ≠ s_.1) ∧ (s_.1 ≠ s_.2) ∧ (w.heap.size ≤ s_.2) ∧ (w.heap.size ≤ s_.2) ∧ (gb146 ≠ s_.2) ∧ (s_.2 ≠ gb146) ∧ (gb153 ≠ s_.2) ∧ (s_.2 ≠ gb153) ∧ (Below w.heap.size w w')) ?_ ?_
           rotate_left
           ·intro hJ6_7
            refine join_ (σ := Unit) 5 #[true, true, true, true, true, false, false, false, false, false] (fun s_ => [(37, .agg #[.int .u64 t154, .int .u64 t155, .int .u64 t156, .int .i64 t157])]) (fun s_ w' => (w'.cell? ⟨gb153, 0, none⟩ = some (.int .u64 t149) ∧ w'.cell? ⟨gb153, 1, none⟩ = some (.int .u64 t150) ∧ w'.cell? ⟨gb153, 2, none⟩ = some (.int .u64 t151) ∧ w'.cell? ⟨gb153, 3, none⟩ = some (.int .i64 t152) ∧ w'.cell? ⟨gb146, 0, none⟩ = some (.int .u64 a0_0) ∧ w'.cell? ⟨gb146, 1, none⟩ = some (.int .u64 a0_1) ∧ w'.cell? ⟨gb146, 2, none⟩ = some (.int .u64 a0_2) ∧ w'.cell? ⟨gb146, 3, none⟩ = some (.int .i64 a0_3)) ∧ (w'.heap[gb146]? = some (.cells #[.int .u64 a0_0, .int .u64 a0_1, .int .u64 a0_2, .int .i64 a0_3] 30 (0, 0))) ∧ (w'.heap[gb153]? = some (.cells #[.int .u64 t149, .int .u64 t150, .int .u64 t151, .int .i64 t152] 30 (0, 0))) ∧ (Below w.heap.size w w')) ?_ ?_
            rotate_left
            ·intro hJ2
             refine join_ (σ := Nat) 5 #[true, true, false, true, true, false, true, false, false, false] (fun s_ => [(8, .pointer (some ⟨s_, 0, none⟩))]) (fun s_ w' => (w'.cell? ⟨gb153, 0, none⟩ = some (.int .u64 t149) ∧ w'.cell? ⟨gb153, 1, none⟩ = some (.int .u64 t150) ∧ w'.cell? ⟨gb153, 2, none⟩ = some (.int .u64 t151) ∧ w'.cell? ⟨gb153, 3, none⟩ = some (.int .i64 t152) ∧ w'.cell? ⟨gb146, 0, none⟩ = some (.int .u64 a0_0) ∧ w'.cell? ⟨gb146, 1, none⟩ = some (.int .u64 a0_1) ∧ w'.cell? ⟨gb146, 2, none⟩ = some (.int .u64 a0_2) ∧ w'.cell? ⟨gb146, 3, none⟩ = some (.int .i64 a0_3)) ∧ (w'.heap[gb146]? = some (.cells #[.int .u64 a0_0, .int .u64 a0_1, .int .u64 a0_2, .int .i64 a0_3] 30 (0, 0))) ∧ (w'.heap[gb153]? = some (.cells #[.int .u64 t149, .int .u64 t150, .int .u64 t151, .int .i64 t152] 30 (0, 0))) ∧ (w'.heap[s_]? = some (.cells #[.int .u64 0, .int .u64 0, .int .u64 0, .int .i64 0] 30 (0, 0))) ∧ (w.heap.size ≤ s_) ∧ (w.heap.size ≤ s_) ∧ (gb146 ≠ s_) ∧ (s_ ≠ gb146) ∧ (gb153 ≠ s_) ∧ (s_ ≠ gb153) ∧ (Below w.heap.size w w')) ?_ ?_
             rotate_left
             ·intro hJ6
              refine join_ (σ := Nat) 5 #[true, true, false, true, true, false, false, true, false, false] (fun s_ => [(9, .pointer (some ⟨s_, 0, none⟩))]) (fun s_ w' => (w'.cell? ⟨gb153, 0, none⟩ = some (.int .u64 t149) ∧ w'.cell? ⟨gb153, 1, none⟩ = some (.int .u64 t150) ∧ w'.cell? ⟨gb153, 2, none⟩ = some (.int .u64 t151) ∧ w'.cell? ⟨gb153, 3, none⟩ = some (.int .i64 t152) ∧ w'.cell? ⟨gb146, 0, none⟩ = some (.int .u64 a0_0) ∧ w'.cell? ⟨gb146, 1, none⟩ = some (.int .u64 a0_1) ∧ w'.cell? ⟨gb146, 2, none⟩ = some (.int .u64 a0_2) ∧ w'.cell? ⟨gb146, 3, none⟩ = some (.int .i64 a0_3)) ∧ (w'.heap[gb146]? = some (.cells #[.int .u64 a0_0, .int .u64 a0_1, .int .u64 a0_2, .int .i64 a0_3] 30 (0, 0))) ∧ (w'.heap[gb153]? = some (.cells #[.int .u64 t149, .int .u64 t150, .int .u64 t151, .int .i64 t152] 30 (0, 0))) ∧ (w'.heap[s_]? = some (.cells #[.int .u64 0, .int .u64 0, .int .u64 0, .int .i64 0] 30 (0, 0))) ∧ (w.heap.size ≤ s_) ∧ (w.heap.size ≤ s_) ∧ (gb146 ≠ s_) ∧ (s_ ≠ gb146) ∧ (gb153 ≠ s_) ∧ (s_ ≠ gb153) ∧ (Below w.heap.size w w')) ?_ ?_
              rotate_left
              ·intro hJ7
               refine three_ (i := 2) (j := 6) (k := 7) (Ni := some 37) (Nj := some 8) (Nk := some 9) #[true, true, true, true, true, false, false, false, false, false] #[true, true, false, true, true, false, true, false, false, false] #[true, true, false, true, true, false, false, true, false, false] rfl rfl rfl rfl rfl rfl (three_of HT_.out (by kernel_rfl)) (by decide) (by decide) (by decide) (fun K hK => ?_) (fun K hK => ?_) (fun K hK => ?_)
               ·skip
                refine goes_ Tryd.func18 (by kernel_rfl) rfl #[.agg #[.int .u64 t149, .int .u64 t150, .int .u64 t151, .int .i64 t152], .int .i64 a2] (by rfl) rfl rfl y10_ ?_
                with_reducible refine (limit_Fill.calls t149 t150 t151 t152 a2 t154 t155 t156 t157 _ A21.out).mono ?_
                rintro e w31 ⟨rfl, hb⟩
                refine ⟨_, rfl, ?_⟩
                have n0_ := Aside0.mk (blk_below (g := gb146) (o := .cells #[.int .u64 a0_0, .int .u64 a0_1, .int .u64 a0_2, .int .i64 a0_3] 30 (0, 0)) y2_ hb)
                have n1_ := Aside0.mk (blk_below (g := gb153) (o := .cells #[.int .u64 t149, .int .u64 t150, .int .u64 t151, .int .i64 t152] 30 (0, 0)) y4_ hb)
                have n2_ := Aside0.mk (below_step y8_ hb)
                clear BK146
                clear BK153
                clear HB
                have BK146 := n0_
                have BK153 := n1_
                have HB := n2_
                clear n0_ n1_ n2_
                (try clear hb)
                (try clear hb2)
                (try clear hk)
                (try clear hi)
                refine hK.out _ _ ⟨(blk_cell BK153.out 0).trans rfl, (blk_cell BK153.out 1).trans rfl, (blk_cell BK153.out 2).trans rfl, (blk_cell BK153.out 3).trans rfl, (blk_cell BK146.out 0).trans rfl, (blk_cell BK146.out 1).trans rfl, (blk_cell BK146.out 2).trans rfl, (blk_cell BK146.out 3).trans rfl⟩ (fun hHeld => ?_)
                clear hK K
                refine norm_ (a' := ?_) ?_ ?_
                rotate_left
                ·show Act.put _ (some 37) _ = _
                 simp only [Act.put, List.setIfInBounds_toArray, List.set_cons_zero, List.set_cons_succ, i64_w, i32_w]
                 rfl
                exact norm_ y9_ (hJ2 () _ ⟨hHeld, y2_, y4_, y8_⟩)
               ·skip
                refine box_step ?hg (N := 8) ?hd (cs := #[.int .u64 0, .int .u64 0, .int .u64 0, .int .i64 0]) (t := 30) ?hr ?_; (case hd => rfl); (case hg => rfl); (case hr => first | (go_simp; done) | (go_simp; rfl))
                intro gb162 hg w31 hbox hb
                have n0_ := Aside0.mk (blk_below (g := gb146) (o := .cells #[.int .u64 a0_0, .int .u64 a0_1, .int .u64 a0_2, .int .i64 a0_3] 30 (0, 0)) y2_ hb)
                have n1_ := Aside0.mk (blk_below (g := gb153) (o := .cells #[.int .u64 t149, .int .u64 t150, .int .u64 t151, .int .i64 t152] 30 (0, 0)) y4_ hb)
                have n2_ := Aside0.mk (below_step y8_ hb)
                have n3_ := Aside0.mk (hbox)
                have n4_ := Aside0.mk ((y37_ : w.heap.size ≤ gb162))
                have n5_ := Aside0.mk ((y37_ : w.heap.size ≤ gb162))
                have n6_ := Aside0.mk ((y23_ : gb146 ≠ gb162))
                have n7_ := Aside0.mk ((y24_ : gb162 ≠ gb146))
                have n8_ := Aside0.mk ((y25_ : gb153 ≠ gb162))
                have n9_ := Aside0.mk ((y26_ : gb162 ≠ gb153))
                clear BK146
                clear BK153
                clear HB
                have BK146 := n0_
                have BK153 := n1_
                have HB := n2_
                have BK162 := n3_
                have GW162 := n4_
                have GE162 := n5_
                have NB146_162 := n6_
                have NB162_146 := n7_
                have NB153_162 := n8_
                have NB162_153 := n9_
                clear n0_ n1_ n2_ n3_ n4_ n5_ n6_ n7_ n8_ n9_
                clear hb hbox hg
                refine hK.out _ _ ⟨(blk_cell BK153.out 0).trans rfl, (blk_cell BK153.out 1).trans rfl, (blk_cell BK153.out 2).trans rfl, (blk_cell BK153.out 3).trans rfl, (blk_cell BK146.out 0).trans rfl, (blk_cell BK146.out 1).trans rfl, (blk_cell BK146.out 2).trans rfl, (blk_cell BK146.out 3).trans rfl⟩ (fun hHeld => ?_)
                clear hK K
                refine norm_ (a' := ?_) ?_ ?_
                rotate_left
                ·show Act.put _ (some 8) _ = _
                 simp only [Act.put, List.setIfInBounds_toArray, List.set_cons_zero, List.set_cons_succ, i64_w, i32_w]
                 rfl
                exact norm_ y9_ (hJ6 (gb162) _ ⟨hHeld, y2_, y4_, y18_, GW162.out, GE162.out, NB146_162.out, NB162_146.out, NB153_162.out, NB162_153.out, y15_⟩)
               ·skip
                refine box_step ?hg (N := 9) ?hd (cs := #[.int .u64 0, .int .u64 0, .int .u64 0, .int .i64 0]) (t := 30) ?hr ?_; (case hd => rfl); (case hg => rfl); (case hr => first | (go_simp; done) | (go_simp; rfl))
                intro gb163 hg w31 hbox hb
                have n0_ := Aside0.mk (blk_below (g := gb146) (o := .cells #[.int .u64 a0_0, .int .u64 a0_1, .int .u64 a0_2, .int .i64 a0_3] 30 (0, 0)) y2_ hb)
                have n1_ := Aside0.mk (blk_below (g := gb153) (o := .cells #[.int .u64 t149, .int .u64 t150, .int .u64 t151, .int .i64 t152] 30 (0, 0)) y4_ hb)
                have n2_ := Aside0.mk (below_step y8_ hb)
                have n3_ := Aside0.mk (hbox)
                have n4_ := Aside0.mk ((y37_ : w.heap.size ≤ gb163))
                have n5_ := Aside0.mk ((y37_ : w.heap.size ≤ gb163))
                have n6_ := Aside0.mk ((y23_ : gb146 ≠ gb163))
                have n7_ := Aside0.mk ((y24_ : gb163 ≠ gb146))
                have n8_ := Aside0.mk ((y25_ : gb153 ≠ gb163))
                have n9_ := Aside0.mk ((y26_ : gb163 ≠ gb153))
                clear BK146
                clear BK153
                clear HB
                have BK146 := n0_
                have BK153 := n1_
                have HB := n2_
                have BK163 := n3_
                have GW163 := n4_
                have GE163 := n5_
                have NB146_163 := n6_
                have NB163_146 := n7_
                have NB153_163 := n8_
                have NB163_153 := n9_
                clear n0_ n1_ n2_ n3_ n4_ n5_ n6_ n7_ n8_ n9_
                clear hb hbox hg
                refine hK.out _ _ ⟨(blk_cell BK153.out 0).trans rfl, (blk_cell BK153.out 1).trans rfl, (blk_cell BK153.out 2).trans rfl, (blk_cell BK153.out 3).trans rfl, (blk_cell BK146.out 0).trans rfl, (blk_cell BK146.out 1).trans rfl, (blk_cell BK146.out 2).trans rfl, (blk_cell BK146.out 3).trans rfl⟩ (fun hHeld => ?_)
                clear hK K
                refine norm_ (a' := ?_) ?_ ?_
                rotate_left
                ·show Act.put _ (some 9) _ = _
                 simp only [Act.put, List.setIfInBounds_toArray, List.set_cons_zero, List.set_cons_succ, i64_w, i32_w]
                 rfl
                exact norm_ y9_ (hJ7 (gb163) _ ⟨hHeld, y2_, y4_, y17_, GW163.out, GE163.out, NB146_163.out, NB163_146.out, NB153_163.out, NB163_153.out, y14_⟩)
              ·skip
               rintro gb163 w32 ⟨hS_, h0_, h1_, h2_, h3_, h4_, h5_, h6_, h7_, h8_, h9_⟩
               have n0_ : Aside0 (w32.heap[gb146]? = some (.cells #[.int .u64 a0_0, .int .u64 a0_1, .int .u64 a0_2, .int .i64 a0_3] 30 (0, 0))) := ⟨h0_⟩
               have n1_ : Aside0 (w32.heap[gb153]? = some (.cells #[.int .u64 t149, .int .u64 t150, .int .u64 t151, .int .i64 t152] 30 (0, 0))) := ⟨h1_⟩
               have n2_ : Aside0 (w32.heap[gb163]? = some (.cells #[.int .u64 0, .int .u64 0, .int .u64 0, .int .i64 0] 30 (0, 0))) := ⟨h2_⟩
               have n3_ : Aside0 (w.heap.size ≤ gb163) := ⟨h3_⟩
               have n4_ : Aside0 (w.heap.size ≤ gb163) := ⟨h4_⟩
               have n5_ : Aside0 (gb146 ≠ gb163) := ⟨h5_⟩
               have n6_ : Aside0 (gb163 ≠ gb146) := ⟨h6_⟩
               have n7_ : Aside0 (gb153 ≠ gb163) := ⟨h7_⟩
               have n8_ : Aside0 (gb163 ≠ gb153) := ⟨h8_⟩
               have n9_ : Aside0 (Below w.heap.size w w32) := ⟨h9_⟩
               clear BK146
               clear BK153
               clear HB
               clear h0_ h1_ h2_ h3_ h4_ h5_ h6_ h7_ h8_ h9_
               have BK146 := n0_
               have BK153 := n1_
               have BK163 := n2_
               have GW163 := n3_
               have GE163 := n4_
               have NB146_163 := n5_
               have NB163_146 := n6_
               have NB153_163 := n7_
               have NB163_153 := n8_
               have HB := n9_
               clear n0_ n1_ n2_ n3_ n4_ n5_ n6_ n7_ n8_ n9_
               have hHeld : w32.cell? ⟨gb153, 0, none⟩ = some (.int .u64 t149) ∧ w32.cell? ⟨gb153, 1, none⟩ = some (.int .u64 t150) ∧ w32.cell? ⟨gb153, 2, none⟩ = some (.int .u64 t151) ∧ w32.cell? ⟨gb153, 3, none⟩ = some (.int .i64 t152) ∧ w32.cell? ⟨gb146, 0, none⟩ = some (.int .u64 a0_0) ∧ w32.cell? ⟨gb146, 1, none⟩ = some (.int .u64 a0_1) ∧ w32.cell? ⟨gb146, 2, none⟩ = some (.int .u64 a0_2) ∧ w32.cell? ⟨gb146, 3, none⟩ = some (.int .i64 a0_3) := hS_
               refine norm_ (a' := ?_) ?_ ?_
               rotate_left
               ·simp only [putAll, Act.put, List.setIfInBounds_toArray, List.set_cons_zero, List.set_cons_succ]
                rfl
               refine two_ (i := 2) (j := 6) (Ni := some 37) (Nj := some 8) #[true, true, true, true, true, false, false, true, false, false] #[true, true, false, true, true, false, true, true, false, false] rfl rfl rfl rfl (two_of HT_.out (by kernel_rfl)) (by decide) (by decide) (fun K hK => ?_) (fun K hK => ?_)
               ·skip
                refine goes_ Tryd.func18 (by kernel_rfl) rfl #[.agg #[.int .u64 t149, .int .u64 t150, .int .u64 t151, .int .i64 t152], .int .i64 a2] (by rfl) rfl rfl y10_ ?_
                with_reducible refine (limit_Fill.calls t149 t150 t151 t152 a2 t154 t155 t156 t157 _ A21.out).mono ?_
                rintro e w33 ⟨rfl, hb⟩
                refine ⟨_, rfl, ?_⟩
                have n0_ := Aside0.mk (blk_below (g := gb146) (o := .cells #[.int .u64 a0_0, .int .u64 a0_1, .int .u64 a0_2, .int .i64 a0_3] 30 (0, 0)) y2_ hb)
                have n1_ := Aside0.mk (blk_below (g := gb153) (o := .cells #[.int .u64 t149, .int .u64 t150, .int .u64 t151, .int .i64 t152] 30 (0, 0)) y4_ hb)
                have n2_ := Aside0.mk (blk_below (g := gb163) (o := .cells #[.int .u64 0, .int .u64 0, .int .u64 0, .int .i64 0] 30 (0, 0)) y17_ hb)
                have n3_ := Aside0.mk (below_step y14_ hb)
                clear BK146
                clear BK153
                clear BK163
                clear HB
                have BK146 := n0_
                have BK153 := n1_
                have BK163 := n2_
                have HB := n3_
                clear n0_ n1_ n2_ n3_
                (try clear hb)
                (try clear hb2)
                (try clear hk)
                (try clear hi)
                refine hK.out _ _ ⟨(blk_cell BK153.out 0).trans rfl, (blk_cell BK153.out 1).trans rfl, (blk_cell BK153.out 2).trans rfl, (blk_cell BK153.out 3).trans rfl, (blk_cell BK146.out 0).trans rfl, (blk_cell BK146.out 1).trans rfl, (blk_cell BK146.out 2).trans rfl, (blk_cell BK146.out 3).trans rfl⟩ (fun hHeld => ?_)
                clear hK K
                refine norm_ (a' := ?_) ?_ ?_
                rotate_left
                ·show Act.put _ (some 37) _ = _
                 simp only [Act.put, List.setIfInBounds_toArray, List.set_cons_zero, List.set_cons_succ, i64_w, i32_w]
                 rfl
                exact norm_ y9_ (hJ2_7 (gb163) _ ⟨hHeld, y2_, y4_, y17_, GW163.out, GE163.out, NB146_163.out, NB163_146.out, NB153_163.out, NB163_153.out, y14_⟩)
               ·skip
                refine box_step ?hg (N := 8) ?hd (cs := #[.int .u64 0, .int .u64 0, .int .u64 0, .int .i64 0]) (t := 30) ?hr ?_; (case hd => rfl); (case hg => rfl); (case hr => first | (go_simp; done) | (go_simp; rfl))
                intro gb162 hg w33 hbox hb
                have n0_ := Aside0.mk (blk_below (g := gb146) (o := .cells #[.int .u64 a0_0, .int .u64 a0_1, .int .u64 a0_2, .int .i64 a0_3] 30 (0, 0)) y2_ hb)
                have n1_ := Aside0.mk (blk_below (g := gb153) (o := .cells #[.int .u64 t149, .int .u64 t150, .int .u64 t151, .int .i64 t152] 30 (0, 0)) y4_ hb)
                have n2_ := Aside0.mk (blk_below (g := gb163) (o := .cells #[.int .u64 0, .int .u64 0, .int .u64 0, .int .i64 0] 30 (0, 0)) y17_ hb)
                have n3_ := Aside0.mk (below_step y14_ hb)
                have n4_ := Aside0.mk (hbox)
                have n5_ := Aside0.mk ((by rw [hg]; exact (below_size y14_) : w.heap.size ≤ gb162))
                have n6_ := Aside0.mk ((by rw [hg]; exact (below_size y14_) : w.heap.size ≤ gb162))
                have n7_ := Aside0.mk ((y23_ : gb146 ≠ gb162))
                have n8_ := Aside0.mk ((y24_ : gb162 ≠ gb146))
                have n9_ := Aside0.mk ((y25_ : gb153 ≠ gb162))
                have n10_ := Aside0.mk ((y26_ : gb162 ≠ gb153))
                have n11_ := Aside0.mk ((y38_ : gb163 ≠ gb162))
                have n12_ := Aside0.mk ((y40_ : gb162 ≠ gb163))
                clear BK146
                clear BK153
                clear BK163
                clear HB
                have BK146 := n0_
                have BK153 := n1_
                have BK163 := n2_
                have HB := n3_
                have BK162 := n4_
                have GW162 := n5_
                have GE162 := n6_
                have NB146_162 := n7_
                have NB162_146 := n8_
                have NB153_162 := n9_
                have NB162_153 := n10_
                have NB163_162 := n11_
                have NB162_163 := n12_
                clear n0_ n1_ n2_ n3_ n4_ n5_ n6_ n7_ n8_ n9_ n10_ n11_ n12_
                clear hb hbox hg
                refine hK.out _ _ ⟨(blk_cell BK153.out 0).trans rfl, (blk_cell BK153.out 1).trans rfl, (blk_cell BK153.out 2).trans rfl, (blk_cell BK153.out 3).trans rfl, (blk_cell BK146.out 0).trans rfl, (blk_cell BK146.out 1).trans rfl, (blk_cell BK146.out 2).trans rfl, (blk_cell BK146.out 3).trans rfl⟩ (fun hHeld => ?_)
                clear hK K
                refine norm_ (a' := ?_) ?_ ?_
                rotate_left
                ·show Act.put _ (some 8) _ = _
                 simp only [Act.put, List.setIfInBounds_toArray, List.set_cons_zero, List.set_cons_succ, i64_w, i32_w]
                 rfl
                exact norm_ y9_ (hJ6_7 (gb162, gb163) _ ⟨hHeld, y2_, y4_, y18_, y17_, GW162.out, GE162.out, NB146_162.out, NB162_146.out, NB153_162.out, NB162_153.out, NB163_162.out, NB162_163.out, GW163.out, GE163.out, NB146_163.out, NB163_146.out, NB153_163.out, NB163_153.out, y36_⟩)
             ·skip
              rintro gb162 w32 ⟨hS_, h0_, h1_, h2_, h3_, h4_, h5_, h6_, h7_, h8_, h9_⟩
              have n0_ : Aside0 (w32.heap[gb146]? = some (.cells #[.int .u64 a0_0, .int .u64 a0_1, .int .u64 a0_2, .int .i64 a0_3] 30 (0, 0))) := ⟨h0_⟩
              have n1_ : Aside0 (w32.heap[gb153]? = some (.cells #[.int .u64 t149, .int .u64 t150, .int .u64 t151, .int .i64 t152] 30 (0, 0))) := ⟨h1_⟩
              have n2_ : Aside0 (w32.heap[gb162]? = some (.cells #[.int .u64 0, .int .u64 0, .int .u64 0, .int .i64 0] 30 (0, 0))) := ⟨h2_⟩
              have n3_ : Aside0 (w.heap.size ≤ gb162) := ⟨h3_⟩
              have n4_ : Aside0 (w.heap.size ≤ gb162) := ⟨h4_⟩
              have n5_ : Aside0 (gb146 ≠ gb162) := ⟨h5_⟩
              have n6_ : Aside0 (gb162 ≠ gb146) := ⟨h6_⟩
              have n7_ : Aside0 (gb153 ≠ gb162) := ⟨h7_⟩
              have n8_ : Aside0 (gb162 ≠ gb153) := ⟨h8_⟩
              have n9_ : Aside0 (Below w.heap.size w w32) := ⟨h9_⟩
              clear BK146
              clear BK153
              clear HB
              clear h0_ h1_ h2_ h3_ h4_ h5_ h6_ h7_ h8_ h9_
              have BK146 := n0_
              have BK153 := n1_
              have BK162 := n2_
              have GW162 := n3_
              have GE162 := n4_
              have NB146_162 := n5_
              have NB162_146 := n6_
              have NB153_162 := n7_
              have NB162_153 := n8_
              have HB := n9_
              clear n0_ n1_ n2_ n3_ n4_ n5_ n6_ n7_ n8_ n9_
              have hHeld : w32.cell? ⟨gb153, 0, none⟩ = some (.int .u64 t149) ∧ w32.cell? ⟨gb153, 1, none⟩ = some (.int .u64 t150) ∧ w32.cell? ⟨gb153, 2, none⟩ = some (.int .u64 t151) ∧ w32.cell? ⟨gb153, 3, none⟩ = some (.int .i64 t152) ∧ w32.cell? ⟨gb146, 0, none⟩ = some (.int .u64 a0_0) ∧ w32.cell? ⟨gb146, 1, none⟩ = some (.int .u64 a0_1) ∧ w32.cell? ⟨gb146, 2, none⟩ = some (.int .u64 a0_2) ∧ w32.cell? ⟨gb146, 3, none⟩ = some (.int .i64 a0_3) := hS_
              refine norm_ (a' := ?_) ?_ ?_
              rotate_left
              ·simp only [putAll, Act.put, List.setIfInBounds_toArray, List.set_cons_zero, List.set_cons_succ]
               rfl
              refine two_ (i := 2) (j := 7) (Ni := some 37) (Nj := some 9) #[true, true, true, true, true, false, true, false, false, false] #[true, true, false, true, true, false, true, true, false, false] rfl rfl rfl rfl (two_of HT_.out (by kernel_rfl)) (by decide) (by decide) (fun K hK => ?_) (fun K hK => ?_)
              ·skip
               refine goes_ Tryd.func18 (by kernel_rfl) rfl #[.agg #[.int .u64 t149, .int .u64 t150, .int .u64 t151, .int .i64 t152], .int .i64 a2] (by rfl) rfl rfl y10_ ?_
               with_reducible refine (limit_Fill.calls t149 t150 t151 t152 a2 t154 t155 t156 t157 _ A21.out).mono ?_
               rintro e w33 ⟨rfl, hb⟩
               refine ⟨_, rfl, ?_⟩
               have n0_ := Aside0.mk (blk_below (g := gb146) (o := .cells #[.int .u64 a0_0, .int .u64 a0_1, .int .u64 a0_2, .int .i64 a0_3] 30 (0, 0)) y2_ hb)
               have n1_ := Aside0.mk (blk_below (g := gb153) (o := .cells #[.int .u64 t149, .int .u64 t150, .int .u64 t151, .int .i64 t152] 30 (0, 0)) y4_ hb)
               have n2_ := Aside0.mk (blk_below (g := gb162) (o := .cells #[.int .u64 0, .int .u64 0, .int .u64 0, .int .i64 0] 30 (0, 0)) y18_ hb)
               have n3_ := Aside0.mk (below_step y15_ hb)
               clear BK146
               clear BK153
               clear BK162
               clear HB
               have BK146 := n0_
               have BK153 := n1_
               have BK162 := n2_
               have HB := n3_
               clear n0_ n1_ n2_ n3_
               (try clear hb)
               (try clear hb2)
               (try clear hk)
               (try clear hi)
               refine hK.out _ _ ⟨(blk_cell BK153.out 0).trans rfl, (blk_cell BK153.out 1).trans rfl, (blk_cell BK153.out 2).trans rfl, (blk_cell BK153.out 3).trans rfl, (blk_cell BK146.out 0).trans rfl, (blk_cell BK146.out 1).trans rfl, (blk_cell BK146.out 2).trans rfl, (blk_cell BK146.out 3).trans rfl⟩ (fun hHeld => ?_)
               clear hK K
               refine norm_ (a' := ?_) ?_ ?_
               rotate_left
               ·show Act.put _ (some 37) _ = _
                simp only [Act.put, List.setIfInBounds_toArray, List.set_cons_zero, List.set_cons_succ, i64_w, i32_w]
                rfl
               exact norm_ y9_ (hJ2_6 (gb162) _ ⟨hHeld, y2_, y4_, y18_, GW162.out, GE162.out, NB146_162.out, NB162_146.out, NB153_162.out, NB162_153.out, y15_⟩)
              ·skip
               refine box_step ?hg (N := 9) ?hd (cs := #[.int .u64 0, .int .u64 0, .int .u64 0, .int .i64 0]) (t := 30) ?hr ?_; (case hd => rfl); (case hg => rfl); (case hr => first | (go_simp; done) | (go_simp; rfl))
               intro gb163 hg w33 hbox hb
               have n0_ := Aside0.mk (blk_below (g := gb146) (o := .cells #[.int .u64 a0_0, .int .u64 a0_1, .int .u64 a0_2, .int .i64 a0_3] 30 (0, 0)) y2_ hb)
               have n1_ := Aside0.mk (blk_below (g := gb153) (o := .cells #[.int .u64 t149, .int .u64 t150, .int .u64 t151, .int .i64 t152] 30 (0, 0)) y4_ hb)
               have n2_ := Aside0.mk (blk_below (g := gb162) (o := .cells #[.int .u64 0, .int .u64 0, .int .u64 0, .int .i64 0] 30 (0, 0)) y18_ hb)
               have n3_ := Aside0.mk (below_step y15_ hb)
               have n4_ := Aside0.mk (hbox)
               have n5_ := Aside0.mk ((by rw [hg]; exact (below_size y15_) : w.heap.size ≤ gb163))
               have n6_ := Aside0.mk ((by rw [hg]; exact (below_size y15_) : w.heap.size ≤ gb163))
               have n7_ := Aside0.mk ((y23_ : gb146 ≠ gb163))
               have n8_ := Aside0.mk ((y24_ : gb163 ≠ gb146))
               have n9_ := Aside0.mk ((y25_ : gb153 ≠ gb163))
               have n10_ := Aside0.mk ((y26_ : gb163 ≠ gb153))
               have n11_ := Aside0.mk ((y39_ : gb162 ≠ gb163))
               have n12_ := Aside0.mk ((y41_ : gb163 ≠ gb162))
               clear BK146
               clear BK153
               clear BK162
               clear HB
               have BK146 := n0_
               have BK153 := n1_
               have BK162 := n2_
               have HB := n3_
               have BK163 := n4_
               have GW163 := n5_
               have GE163 := n6_
               have NB146_163 := n7_
               have NB163_146 := n8_
               have NB153_163 := n9_
               have NB163_153 := n10_
               have NB162_163 := n11_
               have NB163_162 := n12_
               clear n0_ n1_ n2_ n3_ n4_ n5_ n6_ n7_ n8_ n9_ n10_ n11_ n12_
               clear hb hbox hg
               refine hK.out _ _ ⟨(blk_cell BK153.out 0).trans rfl, (blk_cell BK153.out 1).trans rfl, (blk_cell BK153.out 2).trans rfl, (blk_cell BK153.out 3).trans rfl, (blk_cell BK146.out 0).trans rfl, (blk_cell BK146.out 1).trans rfl, (blk_cell BK146.out 2).trans rfl, (blk_cell BK146.out 3).trans rfl⟩ (fun hHeld => ?_)
               clear hK K
               refine norm_ (a' := ?_) ?_ ?_
               rotate_left
               ·show Act.put _ (some 9) _ = _
                simp only [Act.put, List.setIfInBounds_toArray, List.set_cons_zero, List.set_cons_succ, i64_w, i32_w]
                rfl
               exact norm_ y9_ (hJ6_7 (gb162, gb163) _ ⟨hHeld, y2_, y4_, y18_, y17_, GW162.out, GE162.out, NB146_162.out, NB162_146.out, NB153_162.out, NB162_153.out, NB163_162.out, NB162_163.out, GW163.out, GE163.out, NB146_163.out, NB163_146.out, NB153_163.out, NB163_153.out, y13_⟩)
            ·skip
             rintro _ w32 ⟨hS_, h0_, h1_, h2_⟩
             have n0_ : Aside0 (w32.heap[gb146]? = some (.cells #[.int .u64 a0_0, .int .u64 a0_1, .int .u64 a0_2, .int .i64 a0_3] 30 (0, 0))) := ⟨h0_⟩
             have n1_ : Aside0 (w32.heap[gb153]? = some (.cells #[.int .u64 t149, .int .u64 t150, .int .u64 t151, .int .i64 t152] 30 (0, 0))) := ⟨h1_⟩
             have n2_ : Aside0 (Below w.heap.size w w32) := ⟨h2_⟩
             clear BK146
             clear BK153
             clear HB
             clear h0_ h1_ h2_
             have BK146 := n0_
             have BK153 := n1_
             have HB := n2_
             clear n0_ n1_ n2_
             have hHeld : w32.cell? ⟨gb153, 0, none⟩ = some (.int .u64 t149) ∧ w32.cell? ⟨gb153, 1, none⟩ = some (.int .u64 t150) ∧ w32.cell? ⟨gb153, 2, none⟩ = some (.int .u64 t151) ∧ w32.cell? ⟨gb153, 3, none⟩ = some (.int .i64 t152) ∧ w32.cell? ⟨gb146, 0, none⟩ = some (.int .u64 a0_0) ∧ w32.cell? ⟨gb146, 1, none⟩ = some (.int .u64 a0_1) ∧ w32.cell? ⟨gb146, 2, none⟩ = some (.int .u64 a0_2) ∧ w32.cell? ⟨gb146, 3, none⟩ = some (.int .i64 a0_3) := hS_
             refine norm_ (a' := ?_) ?_ ?_
             rotate_left
             ·simp only [putAll, Act.put, List.setIfInBounds_toArray, List.set_cons_zero, List.set_cons_succ]
              rfl
             refine three_ (i := 5) (j := 6) (k := 7) (Ni := some 40) (Nj := some 8) (Nk := some 9) #[true, true, true, true, true, true, false, false, false, false] #[true, true, true, true, true, false, true, false, false, false] #[true, true, true, true, true, false, false, true, false, false] rfl rfl rfl rfl rfl rfl (three_of HT_.out (by kernel_rfl)) (by decide) (by decide) (by decide) (fun K hK => ?_) (fun K hK => ?_) (fun K hK => ?_)
             ·skip
              refine goes_ Tryd.func18 (by kernel_rfl) rfl #[.agg #[.int .u64 a0_0, .int .u64 a0_1, .int .u64 a0_2, .int .i64 a0_3], .int .i64 a2] (by rfl) rfl rfl y10_ ?_
              with_reducible refine (limit_Fill.calls a0_0 a0_1 a0_2 a0_3 a2 t158 t159 t160 t161 _ A22.out).mono ?_
              rintro e w33 ⟨rfl, hb⟩
              refine ⟨_, rfl, ?_⟩
              have n0_ := Aside0.mk (blk_below (g := gb146) (o := .cells #[.int .u64 a0_0, .int .u64 a0_1, .int .u64 a0_2, .int .i64 a0_3] 30 (0, 0)) y2_ hb)
              have n1_ := Aside0.mk (blk_below (g := gb153) (o := .cells #[.int .u64 t149, .int .u64 t150, .int .u64 t151, .int .i64 t152] 30 (0, 0)) y4_ hb)
              have n2_ := Aside0.mk (below_step y8_ hb)
              clear BK146
              clear BK153
              clear HB
              have BK146 := n0_
              have BK153 := n1_
              have HB := n2_
              clear n0_ n1_ n2_
              (try clear hb)
              (try clear hb2)
              (try clear hk)
              (try clear hi)
              refine hK.out _ _ ⟨(blk_cell BK153.out 0).trans rfl, (blk_cell BK153.out 1).trans rfl, (blk_cell BK153.out 2).trans rfl, (blk_cell BK153.out 3).trans rfl, (blk_cell BK146.out 0).trans rfl, (blk_cell BK146.out 1).trans rfl, (blk_cell BK146.out 2).trans rfl, (blk_cell BK146.out 3).trans rfl⟩ (fun hHeld => ?_)
              clear hK K
              refine norm_ (a' := ?_) ?_ ?_
              rotate_left
              ·show Act.put _ (some 40) _ = _
               simp only [Act.put, List.setIfInBounds_toArray, List.set_cons_zero, List.set_cons_succ, i64_w, i32_w]
               rfl
              exact norm_ y9_ (hJ2_5 () _ ⟨hHeld, y2_, y4_, y8_⟩)
             ·skip
              refine box_step ?hg (N := 8) ?hd (cs := #[.int .u64 0, .int .u64 0, .int .u64 0, .int .i64 0]) (t := 30) ?hr ?_; (case hd => rfl); (case hg => rfl); (case hr => first | (go_simp; done) | (go_simp; rfl))
              intro gb162 hg w33 hbox hb
              have n0_ := Aside0.mk (blk_below (g := gb146) (o := .cells #[.int .u64 a0_0, .int .u64 a0_1, .int .u64 a0_2, .int .i64 a0_3] 30 (0, 0)) y2_ hb)
              have n1_ := Aside0.mk (blk_below (g := gb153) (o := .cells #[.int .u64 t149, .int .u64 t150, .int .u64 t151, .int .i64 t152] 30 (0, 0)) y4_ hb)
              have n2_ := Aside0.mk (below_step y8_ hb)
              have n3_ := Aside0.mk (hbox)
              have n4_ := Aside0.mk ((y37_ : w.heap.size ≤ gb162))
              have n5_ := Aside0.mk ((y37_ : w.heap.size ≤ gb162))
              have n6_ := Aside0.mk ((y23_ : gb146 ≠ gb162))
              have n7_ := Aside0.mk ((y24_ : gb162 ≠ gb146))
              have n8_ := Aside0.mk ((y25_ : gb153 ≠ gb162))
              have n9_ := Aside0.mk ((y26_ : gb162 ≠ gb153))
              clear BK146
              clear BK153
              clear HB
              have BK146 := n0_
              have BK153 := n1_
              have HB := n2_
              have BK162 := n3_
              have GW162 := n4_
              have GE162 := n5_
              have NB146_162 := n6_
              have NB162_146 := n7_
              have NB153_162 := n8_
              have NB162_153 := n9_
              clear n0_ n1_ n2_ n3_ n4_ n5_ n6_ n7_ n8_ n9_
              clear hb hbox hg
              refine hK.out _ _ ⟨(blk_cell BK153.out 0).trans rfl, (blk_cell BK153.out 1).trans rfl, (blk_cell BK153.out 2).trans rfl, (blk_cell BK153.out 3).trans rfl, (blk_cell BK146.out 0).trans rfl, (blk_cell BK146.out 1).trans rfl, (blk_cell BK146.out 2).trans rfl, (blk_cell BK146.out 3).trans rfl⟩ (fun hHeld => ?_)
              clear hK K
              refine norm_ (a' := ?_) ?_ ?_
              rotate_left
              ·show Act.put _ (some 8) _ = _
               simp only [Act.put, List.setIfInBounds_toArray, List.set_cons_zero, List.set_cons_succ, i64_w, i32_w]
               rfl
              exact norm_ y9_ (hJ2_6 (gb162) _ ⟨hHeld, y2_, y4_, y18_, GW162.out, GE162.out, NB146_162.out, NB162_146.out, NB153_162.out, NB162_153.out, y15_⟩)
             ·skip
              refine box_step ?hg (N := 9) ?hd (cs := #[.int .u64 0, .int .u64 0, .int .u64 0, .int .i64 0]) (t := 30) ?hr ?_; (case hd => rfl); (case hg => rfl); (case hr => first | (go_simp; done) | (go_simp; rfl))
              intro gb163 hg w33 hbox hb
              have n0_ := Aside0.mk (blk_below (g := gb146) (o := .cells #[.int .u64 a0_0, .int .u64 a0_1, .int .u64 a0_2, .int .i64 a0_3] 30 (0, 0)) y2_ hb)
              have n1_ := Aside0.mk (blk_below (g := gb153) (o := .cells #[.int .u64 t149, .int .u64 t150, .int .u64 t151, .int .i64 t152] 30 (0, 0)) y4_ hb)
              have n2_ := Aside0.mk (below_step y8_ hb)
              have n3_ := Aside0.mk (hbox)
              have n4_ := Aside0.mk ((y37_ : w.heap.size ≤ gb163))
              have n5_ := Aside0.mk ((y37_ : w.heap.size ≤ gb163))
              have n6_ := Aside0.mk ((y23_ : gb146 ≠ gb163))
              have n7_ := Aside0.mk ((y24_ : gb163 ≠ gb146))
              have n8_ := Aside0.mk ((y25_ : gb153 ≠ gb163))
              have n9_ := Aside0.mk ((y26_ : gb163 ≠ gb153))
              clear BK146
              clear BK153
              clear HB
              have BK146 := n0_
              have BK153 := n1_
              have HB := n2_
              have BK163 := n3_
              have GW163 := n4_
              have GE163 := n5_
              have NB146_163 := n6_
              have NB163_146 := n7_
              have NB153_163 := n8_
              have NB163_153 := n9_
              clear n0_ n1_ n2_ n3_ n4_ n5_ n6_ n7_ n8_ n9_
              clear hb hbox hg
              refine hK.out _ _ ⟨(blk_cell BK153.out 0).trans rfl, (blk_cell BK153.out 1).trans rfl, (blk_cell BK153.out 2).trans rfl, (blk_cell BK153.out 3).trans rfl, (blk_cell BK146.out 0).trans rfl, (blk_cell BK146.out 1).trans rfl, (blk_cell BK146.out 2).trans rfl, (blk_cell BK146.out 3).trans rfl⟩ (fun hHeld => ?_)
              clear hK K
              refine norm_ (a' := ?_) ?_ ?_
              rotate_left
              ·show Act.put _ (some 9) _ = _
               simp only [Act.put, List.setIfInBounds_toArray, List.set_cons_zero, List.set_cons_succ, i64_w, i32_w]
               rfl
              exact norm_ y9_ (hJ2_7 (gb163) _ ⟨hHeld, y2_, y4_, y17_, GW163.out, GE163.out, NB146_163.out, NB163_146.out, NB153_163.out, NB163_153.out, y14_⟩)
           ·skip
            rintro ⟨gb162, gb163⟩ w33 ⟨hS_, h0_, h1_, h2_, h3_, h4_, h5_, h6_, h7_, h8_, h9_, h10_, h11_, h12_, h13_, h14_, h15_, h16_, h17_, h18_⟩
            have n0_ : Aside0 (w33.heap[gb146]? = some (.cells #[.int .u64 a0_0, .int .u64 a0_1, .int .u64 a0_2, .int .i64 a0_3] 30 (0, 0))) := ⟨h0_⟩
            have n1_ : Aside0 (w33.heap[gb153]? = some (.cells #[.int .u64 t149, .int .u64 t150, .int .u64 t151, .int .i64 t152] 30 (0, 0))) := ⟨h1_⟩
            have n2_ : Aside0 (w33.heap[gb162]? = some (.cells #[.int .u64 0, .int .u64 0, .int .u64 0, .int .i64 0] 30 (0, 0))) := ⟨h2_⟩
            have n3_ : Aside0 (w33.heap[gb163]? = some (.cells #[.int .u64 0, .int .u64 0, .int .u64 0, .int .i64 0] 30 (0, 0))) := ⟨h3_⟩
            have n4_ : Aside0 (w.heap.size ≤ gb162) := ⟨h4_⟩
            have n5_ : Aside0 (w.heap.size ≤ gb162) := ⟨h5_⟩
            have n6_ : Aside0 (gb146 ≠ gb162) := ⟨h6_⟩
            have n7_ : Aside0 (gb162 ≠ gb146) := ⟨h7_⟩
            have n8_ : Aside0 (gb153 ≠ gb162) := ⟨h8_⟩
            have n9_ : Aside0 (gb162 ≠ gb153) := ⟨h9_⟩
            have n10_ : Aside0 (gb163 ≠ gb162) := ⟨h10_⟩
            have n11_ : Aside0 (gb162 ≠ gb163) := ⟨h11_⟩
            have n12_ : Aside0 (w.heap.size ≤ gb163) := ⟨h12_⟩
            have n13_ : Aside0 (w.heap.size ≤ gb163) := ⟨h13_⟩
            have n14_ : Aside0 (gb146 ≠ gb163) := ⟨h14_⟩
            have n15_ : Aside0 (gb163 ≠ gb146) := ⟨h15_⟩
            have n16_ : Aside0 (gb153 ≠ gb163) := ⟨h16_⟩
            have n17_ : Aside0 (gb163 ≠ gb153) := ⟨h17_⟩
            have n18_ : Aside0 (Below w.heap.size w w33) := ⟨h18_⟩
            clear BK146
            clear BK153
            clear HB
            clear h0_ h1_ h2_ h3_ h4_ h5_ h6_ h7_ h8_ h9_ h10_ h11_ h12_ h13_ h14_ h15_ h16_ h17_ h18_
            have BK146 := n0_
            have BK153 := n1_
            have BK162 := n2_
            have BK163 := n3_
            have GW162 := n4_
            have GE162 := n5_
            have NB146_162 := n6_
            have NB162_146 := n7_
            have NB153_162 := n8_
            have NB162_153 := n9_
            have NB163_162 := n10_
            have NB162_163 := n11_
            have GW163 := n12_
            have GE163 := n13_
            have NB146_163 := n14_
            have NB163_146 := n15_
            have NB153_163 := n16_
            have NB163_153 := n17_
            have HB := n18_
            clear n0_ n1_ n2_ n3_ n4_ n5_ n6_ n7_ n8_ n9_ n10_ n11_ n12_ n13_ n14_ n15_ n16_ n17_ n18_
            have hHeld : w33.cell? ⟨gb153, 0, none⟩ = some (.int .u64 t149) ∧ w33.cell? ⟨gb153, 1, none⟩ = some (.int .u64 t150) ∧ w33.cell? ⟨gb153, 2, none⟩ = some (.int .u64 t151) ∧ w33.cell? ⟨gb153, 3, none⟩ = some (.int .i64 t152) ∧ w33.cell? ⟨gb146, 0, none⟩ = some (.int .u64 a0_0) ∧ w33.cell? ⟨gb146, 1, none⟩ = some (.int .u64 a0_1) ∧ w33.cell? ⟨gb146, 2, none⟩ = some (.int .u64 a0_2) ∧ w33.cell? ⟨gb146, 3, none⟩ = some (.int .i64 a0_3) := hS_
            refine norm_ (a' := ?_) ?_ ?_
            rotate_left
            ·simp only [putAll, Act.put, List.setIfInBounds_toArray, List.set_cons_zero, List.set_cons_succ]
             rfl
            refine one_ (i := 2) (N := some 37) #[true, true, true, true, true, false, true, true, false, false] rfl rfl (one_of HT_.out (by kernel_rfl)) (by decide) (fun K hK => ?_)
            refine goes_ Tryd.func18 (by kernel_rfl) rfl #[.agg #[.int .u64 t149, .int .u64 t150, .int .u64 t151, .int .i64 t152], .int .i64 a2] (by rfl) rfl rfl y10_ ?_
            with_reducible refine (limit_Fill.calls t149 t150 t151 t152 a2 t154 t155 t156 t157 _ A21.out).mono ?_
            rintro e w34 ⟨rfl, hb⟩
            refine ⟨_, rfl, ?_⟩
            have n0_ := Aside0.mk (blk_below (g := gb146) (o := .cells #[.int .u64 a0_0, .int .u64 a0_1, .int .u64 a0_2, .int .i64 a0_3] 30 (0, 0)) y2_ hb)
            have n1_ := Aside0.mk (blk_below (g := gb153) (o := .cells #[.int .u64 t149, .int .u64 t150, .int .u64 t151, .int .i64 t152] 30 (0, 0)) y4_ hb)
            have n2_ := Aside0.mk (blk_below (g := gb162) (o := .cells #[.int .u64 0, .int .u64 0, .int .u64 0, .int .i64 0] 30 (0, 0)) y18_ hb)
            have n3_ := Aside0.mk (blk_below (g := gb163) (o := .cells #[.int .u64 0, .int .u64 0, .int .u64 0, .int .i64 0] 30 (0, 0)) y17_ hb)
            have n4_ := Aside0.mk (below_step y13_ hb)
            clear BK146
            clear BK153
            clear BK162
            clear BK163
            clear HB
            have BK146 := n0_
            have BK153 := n1_
            have BK162 := n2_
            have BK163 := n3_
            have HB := n4_
            clear n0_ n1_ n2_ n3_ n4_
            (try clear hb)
            (try clear hb2)
            (try clear hk)
            (try clear hi)
            refine hK.out _ _ ⟨(blk_cell BK153.out 0).trans rfl, (blk_cell BK153.out 1).trans rfl, (blk_cell BK153.out 2).trans rfl, (blk_cell BK153.out 3).trans rfl, (blk_cell BK146.out 0).trans rfl, (blk_cell BK146.out 1).trans rfl, (blk_cell BK146.out 2).trans rfl, (blk_cell BK146.out 3).trans rfl⟩ (fun hHeld => ?_)
            clear hK K
            refine norm_ (a' := ?_) ?_ ?_
            rotate_left
            ·show Act.put _ (some 37) _ = _
             simp only [Act.put, List.setIfInBounds_toArray, List.set_cons_zero, List.set_cons_succ, i64_w, i32_w]
             rfl
            exact norm_ y9_ (hJ2_6_7 (gb162, gb163) _ ⟨hHeld, y2_, y4_, y18_, y17_, GW162.out, GE162.out, NB146_162.out, NB162_146.out, NB153_162.out, NB162_153.out, NB163_162.out, NB162_163.out, GW163.out, GE163.out, NB146_163.out, NB163_146.out, NB153_163.out, NB163_153.out, y13_⟩)
          ·skip
           rintro gb163 w33 ⟨hS_, h0_, h1_, h2_, h3_, h4_, h5_, h6_, h7_, h8_, h9_⟩
           have n0_ : Aside0 (w33.heap[gb146]? = some (.cells #[.int .u64 a0_0, .int .u64 a0_1, .int .u64 a0_2, .int .i64 a0_3] 30 (0, 0))) := ⟨h0_⟩
           have n1_ : Aside0 (w33.heap[gb153]? = some (.cells #[.int .u64 t149, .int .u64 t150, .int .u64 t151, .int .i64 t152] 30 (0, 0))) := ⟨h1_⟩
           have n2_ : Aside0 (w33.heap[gb163]? = some (.cells #[.int .u64 0, .int .u64 0, .int .u64 0, .int .i64 0] 30 (0, 0))) := ⟨h2_⟩
           have n3_ : Aside0 (w.heap.size ≤ gb163) := ⟨h3_⟩
           have n4_ : Aside0 (w.heap.size ≤ gb163) := ⟨h4_⟩
           have n5_ : Aside0 (gb146 ≠ gb163) := ⟨h5_⟩
           have n6_ : Aside0 (gb163 ≠ gb146) := ⟨h6_⟩
           have n7_ : Aside0 (gb153 ≠ gb163) := ⟨h7_⟩
           have n8_ : Aside0 (gb163 ≠ gb153) := ⟨h8_⟩
           have n9_ : Aside0 (Below w.heap.size w w33) := ⟨h9_⟩
           clear BK146
           clear BK153
           clear HB
           clear h0_ h1_ h2_ h3_ h4_ h5_ h6_ h7_ h8_ h9_
           have BK146 := n0_
           have BK153 := n1_
           have BK163 := n2_
           have GW163 := n3_
           have GE163 := n4_
           have NB146_163 := n5_
           have NB163_146 := n6_
           have NB153_163 := n7_
           have NB163_153 := n8_
           have HB := n9_
           clear n0_ n1_ n2_ n3_ n4_ n5_ n6_ n7_ n8_ n9_
           have hHeld : w33.cell? ⟨gb153, 0, none⟩ = some (.int .u64 t149) ∧ w33.cell? ⟨gb153, 1, none⟩ = some (.int .u64 t150) ∧ w33.cell? ⟨gb153, 2, none⟩ = some (.int .u64 t151) ∧ w33.cell? ⟨gb153, 3, none⟩ = some (.int .i64 t152) ∧ w33.cell? ⟨gb146, 0, none⟩ = some (.int .u64 a0_0) ∧ w33.cell? ⟨gb146, 1, none⟩ = some (.int .u64 a0_1) ∧ w33.cell? ⟨gb146, 2, none⟩ = some (.int .u64 a0_2) ∧ w33.cell? ⟨gb146, 3, none⟩ = some (.int .i64 a0_3) := hS_
           refine norm_ (a' := ?_) ?_ ?_
           rotate_left
           ·simp only [putAll, Act.put, List.setIfInBounds_toArray, List.set_cons_zero, List.set_cons_succ]
            rfl
           refine two_ (i := 5) (j := 6) (Ni := some 40) (Nj := some 8) #[true, true, true, true, true, true, false, true, false, false] #[true, true, true, true, true, false, true, true, false, false] rfl rfl rfl rfl (two_of HT_.out (by kernel_rfl)) (by decide) (by decide) (fun K hK => ?_) (fun K hK => ?_)
           ·skip
            refine goes_ Tryd.func18 (by kernel_rfl) rfl #[.agg #[.int .u64 a0_0, .int .u64 a0_1, .int .u64 a0_2, .int .i64 a0_3], .int .i64 a2] (by rfl) rfl rfl y10_ ?_
            with_reducible refine (limit_Fill.calls a0_0 a0_1 a0_2 a0_3 a2 t158 t159 t160 t161 _ A22.out).mono ?_
            rintro e w34 ⟨rfl, hb⟩
            refine ⟨_, rfl, ?_⟩
            have n0_ := Aside0.mk (blk_below (g := gb146) (o := .cells #[.int .u64 a0_0, .int .u64 a0_1, .int .u64 a0_2, .int .i64 a0_3] 30 (0, 0)) y2_ hb)
            have n1_ := Aside0.mk (blk_below (g := gb153) (o := .cells #[.int .u64 t149, .int .u64 t150, .int .u64 t151, .int .i64 t152] 30 (0, 0)) y4_ hb)
            have n2_ := Aside0.mk (blk_below (g := gb163) (o := .cells #[.int .u64 0, .int .u64 0, .int .u64 0, .int .i64 0] 30 (0, 0)) y17_ hb)
            have n3_ := Aside0.mk (below_step y14_ hb)
            clear BK146
            clear BK153
            clear BK163
            clear HB
            have BK146 := n0_
            have BK153 := n1_
            have BK163 := n2_
            have HB := n3_
            clear n0_ n1_ n2_ n3_
            (try clear hb)
            (try clear hb2)
            (try clear hk)
            (try clear hi)
            refine hK.out _ _ ⟨(blk_cell BK153.out 0).trans rfl, (blk_cell BK153.out 1).trans rfl, (blk_cell BK153.out 2).trans rfl, (blk_cell BK153.out 3).trans rfl, (blk_cell BK146.out 0).trans rfl, (blk_cell BK146.out 1).trans rfl, (blk_cell BK146.out 2).trans rfl, (blk_cell BK146.out 3).trans rfl⟩ (fun hHeld => ?_)
            clear hK K
            refine norm_ (a' := ?_) ?_ ?_
            rotate_left
            ·show Act.put _ (some 40) _ = _
             simp only [Act.put, List.setIfInBounds_toArray, List.set_cons_zero, List.set_cons_succ, i64_w, i32_w]
             rfl
            exact norm_ y9_ (hJ2_5_7 (gb163) _ ⟨hHeld, y2_, y4_, y17_, GW163.out, GE163.out, NB146_163.out, NB163_146.out, NB153_163.out, NB163_153.out, y14_⟩)
           ·skip
            refine box_step ?hg (N := 8) ?hd (cs := #[.int .u64 0, .int .u64 0, .int .u64 0, .int .i64 0]) (t := 30) ?hr ?_; (case hd => rfl); (case hg => rfl); (case hr => first | (go_simp; done) | (go_simp; rfl))
            intro gb162 hg w34 hbox hb
            have n0_ := Aside0.mk (blk_below (g := gb146) (o := .cells #[.int .u64 a0_0, .int .u64 a0_1, .int .u64 a0_2, .int .i64 a0_3] 30 (0, 0)) y2_ hb)
            have n1_ := Aside0.mk (blk_below (g := gb153) (o := .cells #[.int .u64 t149, .int .u64 t150, .int .u64 t151, .int .i64 t152] 30 (0, 0)) y4_ hb)
            have n2_ := Aside0.mk (blk_below (g := gb163) (o := .cells #[.int .u64 0, .int .u64 0, .int .u64 0, .int .i64 0] 30 (0, 0)) y17_ hb)
            have n3_ := Aside0.mk (below_step y14_ hb)
            have n4_ := Aside0.mk (hbox)
            have n5_ := Aside0.mk ((by rw [hg]; exact (below_size y14_) : w.heap.size ≤ gb162))
            have n6_ := Aside0.mk ((by rw [hg]; exact (below_size y14_) : w.heap.size ≤ gb162))
            have n7_ := Aside0.mk ((y23_ : gb146 ≠ gb162))
            have n8_ := Aside0.mk ((y24_ : gb162 ≠ gb146))
            have n9_ := Aside0.mk ((y25_ : gb153 ≠ gb162))
            have n10_ := Aside0.mk ((y26_ : gb162 ≠ gb153))
            have n11_ := Aside0.mk ((y38_ : gb163 ≠ gb162))
            have n12_ := Aside0.mk ((y40_ : gb162 ≠ gb163))
            clear BK146
            clear BK153
            clear BK163
            clear HB
            have BK146 := n0_
            have BK153 := n1_
            have BK163 := n2_
            have HB := n3_
            have BK162 := n4_
            have GW162 := n5_
            have GE162 := n6_
            have NB146_162 := n7_
            have NB162_146 := n8_
            have NB153_162 := n9_
            have NB162_153 := n10_
            have NB163_162 := n11_
            have NB162_163 := n12_
            clear n0_ n1_ n2_ n3_ n4_ n5_ n6_ n7_ n8_ n9_ n10_ n11_ n12_
            clear hb hbox hg
            refine hK.out _ _ ⟨(blk_cell BK153.out 0).trans rfl, (blk_cell BK153.out 1).trans rfl, (blk_cell BK153.out 2).trans rfl, (blk_cell BK153.out 3).trans rfl, (blk_cell BK146.out 0).trans rfl, (blk_cell BK146.out 1).trans rfl, (blk_cell BK146.out 2).trans rfl, (blk_cell BK146.out 3).trans rfl⟩ (fun hHeld => ?_)
            clear hK K
            refine norm_ (a' := ?_) ?_ ?_
            rotate_left
            ·show Act.put _ (some 8) _ = _
             simp only [Act.put, List.setIfInBounds_toArray, List.set_cons_zero, List.set_cons_succ, i64_w, i32_w]
             rfl
            exact norm_ y9_ (hJ2_6_7 (gb162, gb163) _ ⟨hHeld, y2_, y4_, y18_, y17_, GW162.out, GE162.out, NB146_162.out, NB162_146.out, NB153_162.out, NB162_153.out, NB163_162.out, NB162_163.out, GW163.out, GE163.out, NB146_163.out, NB163_146.out, NB153_163.out, NB163_153.out, y36_⟩)
         ·skip
          rintro gb162 w33 ⟨hS_, h0_, h1_, h2_, h3_, h4_, h5_, h6_, h7_, h8_, h9_⟩
          have n0_ : Aside0 (w33.heap[gb146]? = some (.cells #[.int .u64 a0_0, .int .u64 a0_1, .int .u64 a0_2, .int .i64 a0_3] 30 (0, 0))) := ⟨h0_⟩
          have n1_ : Aside0 (w33.heap[gb153]? = some (.cells #[.int .u64 t149, .int .u64 t150, .int .u64 t151, .int .i64 t152] 30 (0, 0))) := ⟨h1_⟩
          have n2_ : Aside0 (w33.heap[gb162]? = some (.cells #[.int .u64 0, .int .u64 0, .int .u64 0, .int .i64 0] 30 (0, 0))) := ⟨h2_⟩
          have n3_ : Aside0 (w.heap.size ≤ gb162) := ⟨h3_⟩
          have n4_ : Aside0 (w.heap.size ≤ gb162) := ⟨h4_⟩
          have n5_ : Aside0 (gb146 ≠ gb162) := ⟨h5_⟩
          have n6_ : Aside0 (gb162 ≠ gb146) := ⟨h6_⟩
          have n7_ : Aside0 (gb153 ≠ gb162) := ⟨h7_⟩
          have n8_ : Aside0 (gb162 ≠ gb153) := ⟨h8_⟩
          have n9_ : Aside0 (Below w.heap.size w w33) := ⟨h9_⟩
          clear BK146
          clear BK153
          clear HB
          clear h0_ h1_ h2_ h3_ h4_ h5_ h6_ h7_ h8_ h9_
          have BK146 := n0_
          have BK153 := n1_
          have BK162 := n2_
          have GW162 := n3_
          have GE162 := n4_
          have NB146_162 := n5_
          have NB162_146 := n6_
          have NB153_162 := n7_
          have NB162_153 := n8_
          have HB := n9_
          clear n0_ n1_ n2_ n3_ n4_ n5_ n6_ n7_ n8_ n9_
          have hHeld : w33.cell? ⟨gb153, 0, none⟩ = some (.int .u64 t149) ∧ w33.cell? ⟨gb153, 1, none⟩ = some (.int .u64 t150) ∧ w33.cell? ⟨gb153, 2, none⟩ = some (.int .u64 t151) ∧ w33.cell? ⟨gb153, 3, none⟩ = some (.int .i64 t152) ∧ w33.cell? ⟨gb146, 0, none⟩ = some (.int .u64 a0_0) ∧ w33.cell? ⟨gb146, 1, none⟩ = some (.int .u64 a0_1) ∧ w33.cell? ⟨gb146, 2, none⟩ = some (.int .u64 a0_2) ∧ w33.cell? ⟨gb146, 3, none⟩ = some (.int .i64 a0_3) := hS_
          refine norm_ (a' := ?_) ?_ ?_
          rotate_left
          ·simp only [putAll, Act.put, List.setIfInBounds_toArray, List.set_cons_zero, List.set_cons_succ]
           rfl
          refine two_ (i := 5) (j := 7) (Ni := some 40) (Nj := some 9) #[true, true, true, true, true, true, true, false, false, false] #[true, true, true, true, true, false, true, true, false, false] rfl rfl rfl rfl (two_of HT_.out (by kernel_rfl)) (by decide) (by decide) (fun K hK => ?_) (fun K hK => ?_)
          ·skip
           refine goes_ Tryd.func18 (by kernel_rfl) rfl #[.agg #[.int .u64 a0_0, .int .u64 a0_1, .int .u64 a0_2, .int .i64 a0_3], .int .i64 a2] (by rfl) rfl rfl y10_ ?_
           with_reducible refine (limit_Fill.calls a0_0 a0_1 a0_2 a0_3 a2 t158 t159 t160 t161 _ A22.out).mono ?_
           rintro e w34 ⟨rfl, hb⟩
           refine ⟨_, rfl, ?_⟩
           have n0_ := Aside0.mk (blk_below (g := gb146) (o := .cells #[.int .u64 a0_0, .int .u64 a0_1, .int .u64 a0_2, .int .i64 a0_3] 30 (0, 0)) y2_ hb)
           have n1_ := Aside0.mk (blk_below (g := gb153) (o := .cells #[.int .u64 t149, .int .u64 t150, .int .u64 t151, .int .i64 t152] 30 (0, 0)) y4_ hb)
           have n2_ := Aside0.mk (blk_below (g := gb162) (o := .cells #[.int .u64 0, .int .u64 0, .int .u64 0, .int .i64 0] 30 (0, 0)) y18_ hb)
           have n3_ := Aside0.mk (below_step y15_ hb)
           clear BK146
           clear BK153
           clear BK162
           clear HB
           have BK146 := n0_
           have BK153 := n1_
           have BK162 := n2_
           have HB := n3_
           clear n0_ n1_ n2_ n3_
           (try clear hb)
           (try clear hb2)
           (try clear hk)
           (try clear hi)
           refine hK.out _ _ ⟨(blk_cell BK153.out 0).trans rfl, (blk_cell BK153.out 1).trans rfl, (blk_cell BK153.out 2).trans rfl, (blk_cell BK153.out 3).trans rfl, (blk_cell BK146.out 0).trans rfl, (blk_cell BK146.out 1).trans rfl, (blk_cell BK146.out 2).trans rfl, (blk_cell BK146.out 3).trans rfl⟩ (fun hHeld => ?_)
           clear hK K
           refine norm_ (a' := ?_) ?_ ?_
           rotate_left
           ·show Act.put _ (some 40) _ = _
            simp only [Act.put, List.setIfInBounds_toArray, List.set_cons_zero, List.set_cons_succ, i64_w, i32_w]
            rfl
           exact norm_ y9_ (hJ2_5_6 (gb162) _ ⟨hHeld, y2_, y4_, y18_, GW162.out, GE162.out, NB146_162.out, NB162_146.out, NB153_162.out, NB162_153.out, y15_⟩)
          ·skip
           refine box_step ?hg (N := 9) ?hd (cs := #[.int .u64 0, .int .u64 0, .int .u64 0, .int .i64 0]) (t := 30) ?hr ?_; (case hd => rfl); (case hg => rfl); (case hr => first | (go_simp; done) | (go_simp; rfl))
           intro gb163 hg w34 hbox hb
           have n0_ := Aside0.mk (blk_below (g := gb146) (o := .cells #[.int .u64 a0_0, .int .u64 a0_1, .int .u64 a0_2, .int .i64 a0_3] 30 (0, 0)) y2_ hb)
           have n1_ := Aside0.mk (blk_below (g := gb153) (o := .cells #[.int .u64 t149, .int .u64 t150, .int .u64 t151, .int .i64 t152] 30 (0, 0)) y4_ hb)
           have n2_ := Aside0.mk (blk_below (g := gb162) (o := .cells #[.int .u64 0, .int .u64 0, .int .u64 0, .int .i64 0] 30 (0, 0)) y18_ hb)
           have n3_ := Aside0.mk (below_step y15_ hb)
           have n4_ := Aside0.mk (hbox)
           have n5_ := Aside0.mk ((by rw [hg]; exact (below_size y15_) : w.heap.size ≤ gb163))
           have n6_ := Aside0.mk ((by rw [hg]; exact (below_size y15_) : w.heap.size ≤ gb163))
           have n7_ := Aside0.mk ((y23_ : gb146 ≠ gb163))
           have n8_ := Aside0.mk ((y24_ : gb163 ≠ gb146))
           have n9_ := Aside0.mk ((y25_ : gb153 ≠ gb163))
           have n10_ := Aside0.mk ((y26_ : gb163 ≠ gb153))
           have n11_ := Aside0.mk ((y39_ : gb162 ≠ gb163))
           have n12_ := Aside0.mk ((y41_ : gb163 ≠ gb162))
           clear BK146
           clear BK153
           clear BK162
           clear HB
           have BK146 := n0_
           have BK153 := n1_
           have BK162 := n2_
           have HB := n3_
           have BK163 := n4_
           have GW163 := n5_
           have GE163 := n6_
           have NB146_163 := n7_
           have NB163_146 := n8_
           have NB153_163 := n9_
           have NB163_153 := n10_
           have NB162_163 := n11_
           have NB163_162 := n12_
           clear n0_ n1_ n2_ n3_ n4_ n5_ n6_ n7_ n8_ n9_ n10_ n11_ n12_
           clear hb hbox hg
           refine hK.out _ _ ⟨(blk_cell BK153.out 0).trans rfl, (blk_cell BK153.out 1).trans rfl, (blk_cell BK153.out 2).trans rfl, (blk_cell BK153.out 3).trans rfl, (blk_cell BK146.out 0).trans rfl, (blk_cell BK146.out 1).trans rfl, (blk_cell BK146.out 2).trans rfl, (blk_cell BK146.out 3).trans rfl⟩ (fun hHeld => ?_)
           clear hK K
           refine norm_ (a' := ?_) ?_ ?_
           rotate_left
           ·show Act.put _ (some 9) _ = _
            simp only [Act.put, List.setIfInBounds_toArray, List.set_cons_zero, List.set_cons_succ, i64_w, i32_w]
            rfl
           exact norm_ y9_ (hJ2_6_7 (gb162, gb163) _ ⟨hHeld, y2_, y4_, y18_, y17_, GW162.out, GE162.out, NB146_162.out, NB162_146.out, NB153_162.out, NB162_153.out, NB163_162.out, NB162_163.out, GW163.out, GE163.out, NB146_163.out, NB163_146.out, NB153_163.out, NB163_153.out, y13_⟩)
        ·skip
         rintro _ w33 ⟨hS_, h0_, h1_, h2_⟩
         have n0_ : Aside0 (w33.heap[gb146]? = some (.cells #[.int .u64 a0_0, .int .u64 a0_1, .int .u64 a0_2, .int .i64 a0_3] 30 (0, 0))) := ⟨h0_⟩
         have n1_ : Aside0 (w33.heap[gb153]? = some (.cells #[.int .u64 t149, .int .u64 t150, .int .u64 t151, .int .i64 t152] 30 (0, 0))) := ⟨h1_⟩
         have n2_ : Aside0 (Below w.heap.size w w33) := ⟨h2_⟩
         clear BK146
         clear BK153
         clear HB
         clear h0_ h1_ h2_
         have BK146 := n0_
         have BK153 := n1_
         have HB := n2_
         clear n0_ n1_ n2_
         have hHeld : w33.cell? ⟨gb153, 0, none⟩ = some (.int .u64 t149) ∧ w33.cell? ⟨gb153, 1, none⟩ = some (.int .u64 t150) ∧ w33.cell? ⟨gb153, 2, none⟩ = some (.int .u64 t151) ∧ w33.cell? ⟨gb153, 3, none⟩ = some (.int .i64 t152) ∧ w33.cell? ⟨gb146, 0, none⟩ = some (.int .u64 a0_0) ∧ w33.cell? ⟨gb146, 1, none⟩ = some (.int .u64 a0_1) ∧ w33.cell? ⟨gb146, 2, none⟩ = some (.int .u64 a0_2) ∧ w33.cell? ⟨gb146, 3, none⟩ = some (.int .i64 a0_3) := hS_
         refine norm_ (a' := ?_) ?_ ?_
         rotate_left
         ·simp only [putAll, Act.put, List.setIfInBounds_toArray, List.set_cons_zero, List.set_cons_succ]
          rfl
         refine two_ (i := 6) (j := 7) (Ni := some 8) (Nj := some 9) #[true, true, true, true, true, true, true, false, false, false] #[true, true, true, true, true, true, false, true, false, false] rfl rfl rfl rfl (two_of HT_.out (by kernel_rfl)) (by decide) (by decide) (fun K hK => ?_) (fun K hK => ?_)
         ·skip
          refine box_step ?hg (N := 8) ?hd (cs := #[.int .u64 0, .int .u64 0, .int .u64 0, .int .i64 0]) (t := 30) ?hr ?_; (case hd => rfl); (case hg => rfl); (case hr => first | (go_simp; done) | (go_simp; rfl))
          intro gb162 hg w34 hbox hb
          have n0_ := Aside0.mk (blk_below (g := gb146) (o := .cells #[.int .u64 a0_0, .int .u64 a0_1, .int .u64 a0_2, .int .i64 a0_3] 30 (0, 0)) y2_ hb)
          have n1_ := Aside0.mk (blk_below (g := gb153) (o := .cells #[.int .u64 t149, .int .u64 t150, .int .u64 t151, .int .i64 t152] 30 (0, 0)) y4_ hb)
          have n2_ := Aside0.mk (below_step y8_ hb)
          have n3_ := Aside0.mk (hbox)
          have n4_ := Aside0.mk ((y37_ : w.heap.size ≤ gb162))
          have n5_ := Aside0.mk ((y37_ : w.heap.size ≤ gb162))
          have n6_ := Aside0.mk ((y23_ : gb146 ≠ gb162))
          have n7_ := Aside0.mk ((y24_ : gb162 ≠ gb146))
          have n8_ := Aside0.mk ((y25_ : gb153 ≠ gb162))
          have n9_ := Aside0.mk ((y26_ : gb162 ≠ gb153))
          clear BK146
          clear BK153
          clear HB
          have BK146 := n0_
          have BK153 := n1_
          have HB := n2_
          have BK162 := n3_
          have GW162 := n4_
          have GE162 := n5_
          have NB146_162 := n6_
          have NB162_146 := n7_
          have NB153_162 := n8_
          have NB162_153 := n9_
          clear n0_ n1_ n2_ n3_ n4_ n5_ n6_ n7_ n8_ n9_
          clear hb hbox hg
          refine hK.out _ _ ⟨(blk_cell BK153.out 0).trans rfl, (blk_cell BK153.out 1).trans rfl, (blk_cell BK153.out 2).trans rfl, (blk_cell BK153.out 3).trans rfl, (blk_cell BK146.out 0).trans rfl, (blk_cell BK146.out 1).trans rfl, (blk_cell BK146.out 2).trans rfl, (blk_cell BK146.out 3).trans rfl⟩ (fun hHeld => ?_)
          clear hK K
          refine norm_ (a' := ?_) ?_ ?_
          rotate_left
          ·show Act.put _ (some 8) _ = _
           simp only [Act.put, List.setIfInBounds_toArray, List.set_cons_zero, List.set_cons_succ, i64_w, i32_w]
           rfl
          exact norm_ y9_ (hJ2_5_6 (gb162) _ ⟨hHeld, y2_, y4_, y18_, GW162.out, GE162.out, NB146_162.out, NB162_146.out, NB153_162.out, NB162_153.out, y15_⟩)
         ·skip
          refine box_step ?hg (N := 9) ?hd (cs := #[.int .u64 0, .int .u64 0, .int .u64 0, .int .i64 0]) (t := 30) ?hr ?_; (case hd => rfl); (case hg => rfl); (case hr => first | (go_simp; done) | (go_simp; rfl))
          intro gb163 hg w34 hbox hb
          have n0_ := Aside0.mk (blk_below (g := gb146) (o := .cells #[.int .u64 a0_0, .int .u64 a0_1, .int .u64 a0_2, .int .i64 a0_3] 30 (0, 0)) y2_ hb)
          have n1_ := Aside0.mk (blk_below (g := gb153) (o := .cells #[.int .u64 t149, .int .u64 t150, .int .u64 t151, .int .i64 t152] 30 (0, 0)) y4_ hb)
          have n2_ := Aside0.mk (below_step y8_ hb)
          have n3_ := Aside0.mk (hbox)
          have n4_ := Aside0.mk ((y37_ : w.heap.size ≤ gb163))
          have n5_ := Aside0.mk ((y37_ : w.heap.size ≤ gb163))
          have n6_ := Aside0.mk ((y23_ : gb146 ≠ gb163))
          have n7_ := Aside0.mk ((y24_ : gb163 ≠ gb146))
          have n8_ := Aside0.mk ((y25_ : gb153 ≠ gb163))
          have n9_ := Aside0.mk ((y26_ : gb163 ≠ gb153))
          clear BK146
          clear BK153
          clear HB
          have BK146 := n0_
          have BK153 := n1_
          have HB := n2_
          have BK163 := n3_
          have GW163 := n4_
          have GE163 := n5_
          have NB146_163 := n6_
          have NB163_146 := n7_
          have NB153_163 := n8_
          have NB163_153 := n9_
          clear n0_ n1_ n2_ n3_ n4_ n5_ n6_ n7_ n8_ n9_
          clear hb hbox hg
          refine hK.out _ _ ⟨(blk_cell BK153.out 0).trans rfl, (blk_cell BK153.out 1).trans rfl, (blk_cell BK153.out 2).trans rfl, (blk_cell BK153.out 3).trans rfl, (blk_cell BK146.out 0).trans rfl, (blk_cell BK146.out 1).trans rfl, (blk_cell BK146.out 2).trans rfl, (blk_cell BK146.out 3).trans rfl⟩ (fun hHeld => ?_)
          clear hK K
          refine norm_ (a' := ?_) ?_ ?_
          rotate_left
          ·show Act.put _ (some 9) _ = _
           simp only [Act.put, List.setIfInBounds_toArray, List.set_cons_zero, List.set_cons_succ, i64_w, i32_w]
           rfl
          exact norm_ y9_ (hJ2_5_7 (gb163) _ ⟨hHeld, y2_, y4_, y17_, GW163.out, GE163.out, NB146_163.out, NB163_146.out, NB153_163.out, NB163_153.out, y14_⟩)
       ·skip
        rintro ⟨gb162, gb163⟩ w34 ⟨hS_, h0_, h1_, h2_, h3_, h4_, h5_, h6_, h7_, h8_, h9_, h10_, h11_, h12_, h13_, h14_, h15_, h16_, h17_, h18_⟩
        have n0_ : Aside0 (w34.heap[gb146]? = some (.cells #[.int .u64 a0_0, .int .u64 a0_1, .int .u64 a0_2, .int .i64 a0_3] 30 (0, 0))) := ⟨h0_⟩
        have n1_ : Aside0 (w34.heap[gb153]? = some (.cells #[.int .u64 t149, .int .u64 t150, .int .u64 t151, .int .i64 t152] 30 (0, 0))) := ⟨h1_⟩
        have n2_ : Aside0 (w34.heap[gb162]? = some (.cells #[.int .u64 0, .int .u64 0, .int .u64 0, .int .i64 0] 30 (0, 0))) := ⟨h2_⟩
        have n3_ : Aside0 (w34.heap[gb163]? = some (.cells #[.int .u64 0, .int .u64 0, .int .u64 0, .int .i64 0] 30 (0, 0))) := ⟨h3_⟩
        have n4_ : Aside0 (w.heap.size ≤ gb162) := ⟨h4_⟩
        have n5_ : Aside0 (w.heap.size ≤ gb162) := ⟨h5_⟩
        have n6_ : Aside0 (gb146 ≠ gb162) := ⟨h6_⟩
        have n7_ : Aside0 (gb162 ≠ gb146) := ⟨h7_⟩
        have n8_ : Aside0 (gb153 ≠ gb162) := ⟨h8_⟩
        have n9_ : Aside0 (gb162 ≠ gb153) := ⟨h9_⟩
        have n10_ : Aside0 (gb163 ≠ gb162) := ⟨h10_⟩
        have n11_ : Aside0 (gb162 ≠ gb163) := ⟨h11_⟩
        have n12_ : Aside0 (w.heap.size ≤ gb163) := ⟨h12_⟩
        have n13_ : Aside0 (w.heap.size ≤ gb163) := ⟨h13_⟩
        have n14_ : Aside0 (gb146 ≠ gb163) := ⟨h14_⟩
        have n15_ : Aside0 (gb163 ≠ gb146) := ⟨h15_⟩
        have n16_ : Aside0 (gb153 ≠ gb163) := ⟨h16_⟩
        have n17_ : Aside0 (gb163 ≠ gb153) := ⟨h17_⟩
        have n18_ : Aside0 (Below w.heap.size w w34) := ⟨h18_⟩
        clear BK146
        clear BK153
        clear HB
        clear h0_ h1_ h2_ h3_ h4_ h5_ h6_ h7_ h8_ h9_ h10_ h11_ h12_ h13_ h14_ h15_ h16_ h17_ h18_
        have BK146 := n0_
        have BK153 := n1_
        have BK162 := n2_
        have BK163 := n3_
        have GW162 := n4_
        have GE162 := n5_
        have NB146_162 := n6_
        have NB162_146 := n7_
        have NB153_162 := n8_
        have NB162_153 := n9_
        have NB163_162 := n10_
        have NB162_163 := n11_
        have GW163 := n12_
        have GE163 := n13_
        have NB146_163 := n14_
        have NB163_146 := n15_
        have NB153_163 := n16_
        have NB163_153 := n17_
        have HB := n18_
        clear n0_ n1_ n2_ n3_ n4_ n5_ n6_ n7_ n8_ n9_ n10_ n11_ n12_ n13_ n14_ n15_ n16_ n17_ n18_
        have hHeld : w34.cell? ⟨gb153, 0, none⟩ = some (.int .u64 t149) ∧ w34.cell? ⟨gb153, 1, none⟩ = some (.int .u64 t150) ∧ w34.cell? ⟨gb153, 2, none⟩ = some (.int .u64 t151) ∧ w34.cell? ⟨gb153, 3, none⟩ = some (.int .i64 t152) ∧ w34.cell? ⟨gb146, 0, none⟩ = some (.int .u64 a0_0) ∧ w34.cell? ⟨gb146, 1, none⟩ = some (.int .u64 a0_1) ∧ w34.cell? ⟨gb146, 2, none⟩ = some (.int .u64 a0_2) ∧ w34.cell? ⟨gb146, 3, none⟩ = some (.int .i64 a0_3) := hS_
        refine norm_ (a' := ?_) ?_ ?_
        rotate_left
        ·simp only [putAll, Act.put, List.setIfInBounds_toArray, List.set_cons_zero, List.set_cons_succ]
         rfl
        refine one_ (i := 5) (N := some 40) #[true, true, true, true, true, true, true, true, false, false] rfl rfl (one_of HT_.out (by kernel_rfl)) (by decide) (fun K hK => ?_)
        refine goes_ Tryd.func18 (by kernel_rfl) rfl #[.agg #[.int .u64 a0_0, .int .u64 a0_1, .int .u64 a0_2, .int .i64 a0_3], .int .i64 a2] (by rfl) rfl rfl y10_ ?_
        with_reducible refine (limit_Fill.calls a0_0 a0_1 a0_2 a0_3 a2 t158 t159 t160 t161 _ A22.out).mono ?_
        rintro e w35 ⟨rfl, hb⟩
        refine ⟨_, rfl, ?_⟩
        have n0_ := Aside0.mk (blk_below (g := gb146) (o := .cells #[.int .u64 a0_0, .int .u64 a0_1, .int .u64 a0_2, .int .i64 a0_3] 30 (0, 0)) y2_ hb)
        have n1_ := Aside0.mk (blk_below (g := gb153) (o := .cells #[.int .u64 t149, .int .u64 t150, .int .u64 t151, .int .i64 t152] 30 (0, 0)) y4_ hb)
        have n2_ := Aside0.mk (blk_below (g := gb162) (o := .cells #[.int .u64 0, .int .u64 0, .int .u64 0, .int .i64 0] 30 (0, 0)) y18_ hb)
        have n3_ := Aside0.mk (blk_below (g := gb163) (o := .cells #[.int .u64 0, .int .u64 0, .int .u64 0, .int .i64 0] 30 (0, 0)) y17_ hb)
        have n4_ := Aside0.mk (below_step y13_ hb)
        clear BK146
        clear BK153
        clear BK162
        clear BK163
        clear HB
        have BK146 := n0_
        have BK153 := n1_
        have BK162 := n2_
        have BK163 := n3_
        have HB := n4_
        clear n0_ n1_ n2_ n3_ n4_
        (try clear hb)
        (try clear hb2)
        (try clear hk)
        (try clear hi)
        refine hK.out _ _ ⟨(blk_cell BK153.out 0).trans rfl, (blk_cell BK153.out 1).trans rfl, (blk_cell BK153.out 2).trans rfl, (blk_cell BK153.out 3).trans rfl, (blk_cell BK146.out 0).trans rfl, (blk_cell BK146.out 1).trans rfl, (blk_cell BK146.out 2).trans rfl, (blk_cell BK146.out 3).trans rfl⟩ (fun hHeld => ?_)
        clear hK K
        refine norm_ (a' := ?_) ?_ ?_
        rotate_left
        ·show Act.put _ (some 40) _ = _
         simp only [Act.put, List.setIfInBounds_toArray, List.set_cons_zero, List.set_cons_succ, i64_w, i32_w]
         rfl
        exact norm_ y9_ (hJ2_5_6_7 (gb162, gb163) _ ⟨hHeld, y2_, y4_, y18_, y17_, GW162.out, GE162.out, NB146_162.out, NB162_146.out, NB153_162.out, NB162_153.out, NB163_162.out, NB162_163.out, GW163.out, GE163.out, NB146_163.out, NB163_146.out, NB153_163.out, NB163_153.out, y13_⟩)
      ·skip
       rintro gb163 w34 ⟨hS_, h0_, h1_, h2_, h3_, h4_, h5_, h6_, h7_, h8_, h9_⟩
       have n0_ : Aside0 (w34.heap[gb146]? = some (.cells #[.int .u64 a0_0, .int .u64 a0_1, .int .u64 a0_2, .int .i64 a0_3] 30 (0, 0))) := ⟨h0_⟩
       have n1_ : Aside0 (w34.heap[gb153]? = some (.cells #[.int .u64 t149, .int .u64 t150, .int .u64 t151, .int .i64 t152] 30 (0, 0))) := ⟨h1_⟩
       have n2_ : Aside0 (w34.heap[gb163]? = some (.cells #[.int .u64 0, .int .u64 0, .int .u64 0, .int .i64 0] 30 (0, 0))) := ⟨h2_⟩
       have n3_ : Aside0 (w.heap.size ≤ gb163) := ⟨h3_⟩
       have n4_ : Aside0 (w.heap.size ≤ gb163) := ⟨h4_⟩
       have n5_ : Aside0 (gb146 ≠ gb163) := ⟨h5_⟩
       have n6_ : Aside0 (gb163 ≠ gb146) := ⟨h6_⟩
       have n7_ : Aside0 (gb153 ≠ gb163) := ⟨h7_⟩
       have n8_ : Aside0 (gb163 ≠ gb153) := ⟨h8_⟩
       have n9_ : Aside0 (Below w.heap.size w w34) := ⟨h9_⟩
       clear BK146
       clear BK153
       clear HB
       clear h0_ h1_ h2_ h3_ h4_ h5_ h6_ h7_ h8_ h9_
       have BK146 := n0_
       have BK153 := n1_
       have BK163 := n2_
       have GW163 := n3_
       have GE163 := n4_
       have NB146_163 := n5_
       have NB163_146 := n6_
       have NB153_163 := n7_
       have NB163_153 := n8_
       have HB := n9_
       clear n0_ n1_ n2_ n3_ n4_ n5_ n6_ n7_ n8_ n9_
       have hHeld : w34.cell? ⟨gb153, 0, none⟩ = some (.int .u64 t149) ∧ w34.cell? ⟨gb153, 1, none⟩ = some (.int .u64 t150) ∧ w34.cell? ⟨gb153, 2, none⟩ = some (.int .u64 t151) ∧ w34.cell? ⟨gb153, 3, none⟩ = some (.int .i64 t152) ∧ w34.cell? ⟨gb146, 0, none⟩ = some (.int .u64 a0_0) ∧ w34.cell? ⟨gb146, 1, none⟩ = some (.int .u64 a0_1) ∧ w34.cell? ⟨gb146, 2, none⟩ = some (.int .u64 a0_2) ∧ w34.cell? ⟨gb146, 3, none⟩ = some (.int .i64 a0_3) := hS_
       refine norm_ (a' := ?_) ?_ ?_
       rotate_left
       ·simp only [putAll, Act.put, List.setIfInBounds_toArray, List.set_cons_zero, List.set_cons_succ]
        rfl
       refine one_ (i := 6) (N := some 8) #[true, true, true, true, true, true, true, true, false, false] rfl rfl (one_of HT_.out (by kernel_rfl)) (by decide) (fun K hK => ?_)
       refine box_step ?hg (N := 8) ?hd (cs := #[.int .u64 0, .int .u64 0, .int .u64 0, .int .i64 0]) (t := 30) ?hr ?_; (case hd => rfl); (case hg => rfl); (case hr => first | (go_simp; done) | (go_simp; rfl))
       intro gb162 hg w35 hbox hb
       have n0_ := Aside0.mk (blk_below (g := gb146) (o := .cells #[.int .u64 a0_0, .int .u64 a0_1, .int .u64 a0_2, .int .i64 a0_3] 30 (0, 0)) y2_ hb)
       have n1_ := Aside0.mk (blk_below (g := gb153) (o := .cells #[.int .u64 t149, .int .u64 t150, .int .u64 t151, .int .i64 t152] 30 (0, 0)) y4_ hb)
       have n2_ := Aside0.mk (blk_below (g := gb163) (o := .cells #[.int .u64 0, .int .u64 0, .int .u64 0, .int .i64 0] 30 (0, 0)) y17_ hb)
       have n3_ := Aside0.mk (below_step y14_ hb)
       have n4_ := Aside0.mk (hbox)
       have n5_ := Aside0.mk ((by rw [hg]; exact (below_size y14_) : w.heap.size ≤ gb162))
       have n6_ := Aside0.mk ((by rw [hg]; exact (below_size y14_) : w.heap.size ≤ gb162))
       have n7_ := Aside0.mk ((y23_ : gb146 ≠ gb162))
       have n8_ := Aside0.mk ((y24_ : gb162 ≠ gb146))
       have n9_ := Aside0.mk ((y25_ : gb153 ≠ gb162))
       have n10_ := Aside0.mk ((y26_ : gb162 ≠ gb153))
       have n11_ := Aside0.mk ((y38_ : gb163 ≠ gb162))
       have n12_ := Aside0.mk ((y40_ : gb162 ≠ gb163))
       clear BK146
       clear BK153
       clear BK163
       clear HB
       have BK146 := n0_
       have BK153 := n1_
       have BK163 := n2_
       have HB := n3_
       have BK162 := n4_
       have GW162 := n5_
       have GE162 := n6_
       have NB146_162 := n7_
       have NB162_146 := n8_
       have NB153_162 := n9_
       have NB162_153 := n10_
       have NB163_162 := n11_
       have NB162_163 := n12_
       clear n0_ n1_ n2_ n3_ n4_ n5_ n6_ n7_ n8_ n9_ n10_ n11_ n12_
       clear hb hbox hg
       refine hK.out _ _ ⟨(blk_cell BK153.out 0).trans rfl, (blk_cell BK153.out 1).trans rfl, (blk_cell BK153.out 2).trans rfl, (blk_cell BK153.out 3).trans rfl, (blk_cell BK146.out 0).trans rfl, (blk_cell BK146.out 1).trans rfl, (blk_cell BK146.out 2).trans rfl, (blk_cell BK146.out 3).trans rfl⟩ (fun hHeld => ?_)
       clear hK K
       refine norm_ (a' := ?_) ?_ ?_
       rotate_left
       ·show Act.put _ (some 8) _ = _
        simp only [Act.put, List.setIfInBounds_toArray, List.set_cons_zero, List.set_cons_succ, i64_w, i32_w]
        rfl
       exact norm_ y9_ (hJ2_5_6_7 (gb162, gb163) _ ⟨hHeld, y2_, y4_, y18_, y17_, GW162.out, GE162.out, NB146_162.out, NB162_146.out, NB153_162.out, NB162_153.out, NB163_162.out, NB162_163.out, GW163.out, GE163.out, NB146_163.out, NB163_146.out, NB153_163.out, NB163_153.out, y36_⟩)
     ·skip
      rintro gb162 w34 ⟨hS_, h0_, h1_, h2_, h3_, h4_, h5_, h6_, h7_, h8_, h9_⟩
      have n0_ : Aside0 (w34.heap[gb146]? = some (.cells #[.int .u64 a0_0, .int .u64 a0_1, .int .u64 a0_2, .int .i64 a0_3] 30 (0, 0))) := ⟨h0_⟩
      have n1_ : Aside0 (w34.heap[gb153]? = some (.cells #[.int .u64 t149, .int .u64 t150, .int .u64 t151, .int .i64 t152] 30 (0, 0))) := ⟨h1_⟩
      have n2_ : Aside0 (w34.heap[gb162]? = some (.cells #[.int .u64 0, .int .u64 0, .int .u64 0, .int .i64 0] 30 (0, 0))) := ⟨h2_⟩
      have n3_ : Aside0 (w.heap.size ≤ gb162) := ⟨h3_⟩
      have n4_ : Aside0 (w.heap.size ≤ gb162) := ⟨h4_⟩
      have n5_ : Aside0 (gb146 ≠ gb162) := ⟨h5_⟩
      have n6_ : Aside0 (gb162 ≠ gb146) := ⟨h6_⟩
      have n7_ : Aside0 (gb153 ≠ gb162) := ⟨h7_⟩
      have n8_ : Aside0 (gb162 ≠ gb153) := ⟨h8_⟩
      have n9_ : Aside0 (Below w.heap.size w w34) := ⟨h9_⟩
      clear BK146
      clear BK153
      clear HB
      clear h0_ h1_ h2_ h3_ h4_ h5_ h6_ h7_ h8_ h9_
      have BK146 := n0_
      have BK153 := n1_
      have BK162 := n2_
      have GW162 := n3_
      have GE162 := n4_
      have NB146_162 := n5_
      have NB162_146 := n6_
      have NB153_162 := n7_
      have NB162_153 := n8_
      have HB := n9_
      clear n0_ n1_ n2_ n3_ n4_ n5_ n6_ n7_ n8_ n9_
      have hHeld : w34.cell? ⟨gb153, 0, none⟩ = some (.int .u64 t149) ∧ w34.cell? ⟨gb153, 1, none⟩ = some (.int .u64 t150) ∧ w34.cell? ⟨gb153, 2, none⟩ = some (.int .u64 t151) ∧ w34.cell? ⟨gb153, 3, none⟩ = some (.int .i64 t152) ∧ w34.cell? ⟨gb146, 0, none⟩ = some (.int .u64 a0_0) ∧ w34.cell? ⟨gb146, 1, none⟩ = some (.int .u64 a0_1) ∧ w34.cell? ⟨gb146, 2, none⟩ = some (.int .u64 a0_2) ∧ w34.cell? ⟨gb146, 3, none⟩ = some (.int .i64 a0_3) := hS_
      refine norm_ (a' := ?_) ?_ ?_
      rotate_left
      ·simp only [putAll, Act.put, List.setIfInBounds_toArray, List.set_cons_zero, List.set_cons_succ]
       rfl
      refine one_ (i := 7) (N := some 9) #[true, true, true, true, true, true, true, true, false, false] rfl rfl (one_of HT_.out (by kernel_rfl)) (by decide) (fun K hK => ?_)
      refine box_step ?hg (N := 9) ?hd (cs := #[.int .u64 0, .int .u64 0, .int .u64 0, .int .i64 0]) (t := 30) ?hr ?_; (case hd => rfl); (case hg => rfl); (case hr => first | (go_simp; done) | (go_simp; rfl))
      intro gb163 hg w35 hbox hb
      have n0_ := Aside0.mk (blk_below (g := gb146) (o := .cells #[.int .u64 a0_0, .int .u64 a0_1, .int .u64 a0_2, .int .i64 a0_3] 30 (0, 0)) y2_ hb)
      have n1_ := Aside0.mk (blk_below (g := gb153) (o := .cells #[.int .u64 t149, .int .u64 t150, .int .u64 t151, .int .i64 t152] 30 (0, 0)) y4_ hb)
      have n2_ := Aside0.mk (blk_below (g := gb162) (o := .cells #[.int .u64 0, .int .u64 0, .int .u64 0, .int .i64 0] 30 (0, 0)) y18_ hb)
      have n3_ := Aside0.mk (below_step y15_ hb)
      have n4_ := Aside0.mk (hbox)
      have n5_ := Aside0.mk ((by rw [hg]; exact (below_size y15_) : w.heap.size ≤ gb163))
      have n6_ := Aside0.mk ((by rw [hg]; exact (below_size y15_) : w.heap.size ≤ gb163))
      have n7_ := Aside0.mk ((y23_ : gb146 ≠ gb163))
      have n8_ := Aside0.mk ((y24_ : gb163 ≠ gb146))
      have n9_ := Aside0.mk ((y25_ : gb153 ≠ gb163))
      have n10_ := Aside0.mk ((y26_ : gb163 ≠ gb153))
      have n11_ := Aside0.mk ((y39_ : gb162 ≠ gb163))
      have n12_ := Aside0.mk ((y41_ : gb163 ≠ gb162))
      clear BK146
      clear BK153
      clear BK162
      clear HB
      have BK146 := n0_
      have BK153 := n1_
      have BK162 := n2_
      have HB := n3_
      have BK163 := n4_
      have GW163 := n5_
      have GE163 := n6_
      have NB146_163 := n7_
      have NB163_146 := n8_
      have NB153_163 := n9_
      have NB163_153 := n10_
      have NB162_163 := n11_
      have NB163_162 := n12_
      clear n0_ n1_ n2_ n3_ n4_ n5_ n6_ n7_ n8_ n9_ n10_ n11_ n12_
      clear hb hbox hg
      refine hK.out _ _ ⟨(blk_cell BK153.out 0).trans rfl, (blk_cell BK153.out 1).trans rfl, (blk_cell BK153.out 2).trans rfl, (blk_cell BK153.out 3).trans rfl, (blk_cell BK146.out 0).trans rfl, (blk_cell BK146.out 1).trans rfl, (blk_cell BK146.out 2).trans rfl, (blk_cell BK146.out 3).trans rfl⟩ (fun hHeld => ?_)
      clear hK K
      refine norm_ (a' := ?_) ?_ ?_
      rotate_left
      ·show Act.put _ (some 9) _ = _
       simp only [Act.put, List.setIfInBounds_toArray, List.set_cons_zero, List.set_cons_succ, i64_w, i32_w]
       rfl
      exact norm_ y9_ (hJ2_5_6_7 (gb162, gb163) _ ⟨hHeld, y2_, y4_, y18_, y17_, GW162.out, GE162.out, NB146_162.out, NB162_146.out, NB153_162.out, NB162_153.out, NB163_162.out, NB162_163.out, GW163.out, GE163.out, NB146_163.out, NB163_146.out, NB153_163.out, NB163_153.out, y13_⟩)
    rintro ⟨gb162, gb163⟩ w35 ⟨hS_, h0_, h1_, h2_, h3_, h4_, h5_, h6_, h7_, h8_, h9_, h10_, h11_, h12_, h13_, h14_, h15_, h16_, h17_, h18_⟩
    have n0_ : Aside0 (w35.heap[gb146]? = some (.cells #[.int .u64 a0_0, .int .u64 a0_1, .int .u64 a0_2, .int .i64 a0_3] 30 (0, 0))) := ⟨h0_⟩
    have n1_ : Aside0 (w35.heap[gb153]? = some (.cells #[.int .u64 t149, .int .u64 t150, .int .u64 t151, .int .i64 t152] 30 (0, 0))) := ⟨h1_⟩
    have n2_ : Aside0 (w35.heap[gb162]? = some (.cells #[.int .u64 0, .int .u64 0, .int .u64 0, .int .i64 0] 30 (0, 0))) := ⟨h2_⟩
    have n3_ : Aside0 (w35.heap[gb163]? = some (.cells #[.int .u64 0, .int .u64 0, .int .u64 0, .int .i64 0] 30 (0, 0))) := ⟨h3_⟩
    have n4_ : Aside0 (w.heap.size ≤ gb162) := ⟨h4_⟩
    have n5_ : Aside0 (w.heap.size ≤ gb162) := ⟨h5_⟩
    have n6_ : Aside0 (gb146 ≠ gb162) := ⟨h6_⟩
    have n7_ : Aside0 (gb162 ≠ gb146) := ⟨h7_⟩
    have n8_ : Aside0 (gb153 ≠ gb162) := ⟨h8_⟩
    have n9_ : Aside0 (gb162 ≠ gb153) := ⟨h9_⟩
    have n10_ : Aside0 (gb163 ≠ gb162) := ⟨h10_⟩
    have n11_ : Aside0 (gb162 ≠ gb163) := ⟨h11_⟩
    have n12_ : Aside0 (w.heap.size ≤ gb163) := ⟨h12_⟩
    have n13_ : Aside0 (w.heap.size ≤ gb163) := ⟨h13_⟩
    have n14_ : Aside0 (gb146 ≠ gb163) := ⟨h14_⟩
    have n15_ : Aside0 (gb163 ≠ gb146) := ⟨h15_⟩
    have n16_ : Aside0 (gb153 ≠ gb163) := ⟨h16_⟩
    have n17_ : Aside0 (gb163 ≠ gb153) := ⟨h17_⟩
    have n18_ : Aside0 (Below w.heap.size w w35) := ⟨h18_⟩
    clear BK146
    clear BK153
    clear HB
    clear h0_ h1_ h2_ h3_ h4_ h5_ h6_ h7_ h8_ h9_ h10_ h11_ h12_ h13_ h14_ h15_ h16_ h17_ h18_
    have BK146 := n0_
    have BK153 := n1_
    have BK162 := n2_
    have BK163 := n3_
    have GW162 := n4_
    have GE162 := n5_
    have NB146_162 := n6_
    have NB162_146 := n7_
    have NB153_162 := n8_
    have NB162_153 := n9_
    have NB163_162 := n10_
    have NB162_163 := n11_
    have GW163 := n12_
    have GE163 := n13_
    have NB146_163 := n14_
    have NB163_146 := n15_
    have NB153_163 := n16_
    have NB163_153 := n17_
    have HB := n18_
    clear n0_ n1_ n2_ n3_ n4_ n5_ n6_ n7_ n8_ n9_ n10_ n11_ n12_ n13_ n14_ n15_ n16_ n17_ n18_
    have hHeld : w35.cell? ⟨gb153, 0, none⟩ = some (.int .u64 t149) ∧ w35.cell? ⟨gb153, 1, none⟩ = some (.int .u64 t150) ∧ w35.cell? ⟨gb153, 2, none⟩ = some (.int .u64 t151) ∧ w35.cell? ⟨gb153, 3, none⟩ = some (.int .i64 t152) ∧ w35.cell? ⟨gb146, 0, none⟩ = some (.int .u64 a0_0) ∧ w35.cell? ⟨gb146, 1, none⟩ = some (.int .u64 a0_1) ∧ w35.cell? ⟨gb146, 2, none⟩ = some (.int .u64 a0_2) ∧ w35.cell? ⟨gb146, 3, none⟩ = some (.int .i64 a0_3) := hS_
    refine norm_ (a' := ?_) ?_ ?_
    rotate_left
    ·simp only [putAll, Act.put, List.setIfInBounds_toArray, List.set_cons_zero, List.set_cons_succ]
     rfl
    refine one_ (i := 8) (N := none) #[true, true, true, true, true, true, true, true, true, false] rfl rfl (one_of HT_.out (by kernel_rfl)) (by decide) (fun K hK => ?_)
    have hs36 : w35.cell? ⟨gb162, 0, none⟩ = some (.int .u64 0) := (blk_cell BK162.out 0).trans rfl
    have hfs36 := blk_frozen BK162.out 0
    have hns36_0 := NB146_162.out
    have hns36_1 := NB153_162.out
    have hns36_3 := NB163_162.out
    have hms36_0 := NB162_146.out
    have hms36_1 := NB162_153.out
    have hms36_3 := NB162_163.out
    have hs37 : w35.cell? ⟨gb162, 1, none⟩ = some (.int .u64 0) := (blk_cell BK162.out 1).trans rfl
    have hfs37 := blk_frozen BK162.out 1
    have hns37_0 := NB146_162.out
    have hns37_1 := NB153_162.out
    have hns37_3 := NB163_162.out
    have hms37_0 := NB162_146.out
    have hms37_1 := NB162_153.out
    have hms37_3 := NB162_163.out
    have hs38 : w35.cell? ⟨gb162, 2, none⟩ = some (.int .u64 0) := (blk_cell BK162.out 2).trans rfl
    have hfs38 := blk_frozen BK162.out 2
    have hns38_0 := NB146_162.out
    have hns38_1 := NB153_162.out
    have hns38_3 := NB163_162.out
    have hms38_0 := NB162_146.out
    have hms38_1 := NB162_153.out
    have hms38_3 := NB162_163.out
    have hs39 : w35.cell? ⟨gb162, 3, none⟩ = some (.int .i64 0) := (blk_cell BK162.out 3).trans rfl
    have hfs39 := blk_frozen BK162.out 3
    have hns39_0 := NB146_162.out
    have hns39_1 := NB153_162.out
    have hns39_3 := NB163_162.out
    have hms39_0 := NB162_146.out
    have hms39_1 := NB162_153.out
    have hms39_3 := NB162_163.out
    refine skip_ (w1 := ?_) (by rfl) rfl ?_ ?_
    rotate_left
    ·go_simp
     rfl
    refine hK.out _ _ ⟨((cell_far (p := ⟨gb162, _, none⟩) NB153_162.out _).trans (((cell_far (p := ⟨gb162, _, none⟩) NB153_162.out _).trans (((cell_far (p := ⟨gb162, _, none⟩) NB153_162.out _).trans (((cell_far (p := ⟨gb162, _, none⟩) NB153_162.out _).trans (hHeld.1)))))))), ((cell_far (p := ⟨gb162, _, none⟩) NB153_162.out _).trans (((cell_far (p := ⟨gb162, _, none⟩) NB153_162.out _).trans (((cell_far (p := ⟨gb162, _, none⟩) NB153_162.out _).trans (((cell_far (p := ⟨gb162, _, none⟩) NB153_162.out _).trans (hHeld.2.1)))))))), ((cell_far (p := ⟨gb162, _, none⟩) NB153_162.out _).trans (((cell_far (p := ⟨gb162, _, none⟩) NB153_162.out _).trans (((cell_far (p := ⟨gb162, _, none⟩) NB153_162.out _).trans (((cell_far (p := ⟨gb162, _, none⟩) NB153_162.out _).trans (hHeld.2.2.1)))))))), ((cell_far (p := ⟨gb162, _, none⟩) NB153_162.out _).trans (((cell_far (p := ⟨gb162, _, none⟩) NB153_162.out _).trans (((cell_far (p := ⟨gb162, _, none⟩) NB153_162.out _).trans (((cell_far (p := ⟨gb162, _, none⟩) NB153_162.out _).trans (hHeld.2.2.2.1)))))))), ((cell_far (p := ⟨gb162, _, none⟩) NB146_162.out _).trans (((cell_far (p := ⟨gb162, _, none⟩) NB146_162.out _).trans (((cell_far (p := ⟨gb162, _, none⟩) NB146_162.out _).trans (((cell_far (p := ⟨gb162, _, none⟩) NB146_162.out _).trans (hHeld.2.2.2.2.1)))))))), ((cell_far (p := ⟨gb162, _, none⟩) NB146_162.out _).trans (((cell_far (p := ⟨gb162, _, none⟩) NB146_162.out _).trans (((cell_far (p := ⟨gb162, _, none⟩) NB146_162.out _).trans (((cell_far (p := ⟨gb162, _, none⟩) NB146_162.out _).trans (hHeld.2.2.2.2.2.1)))))))), ((cell_far (p := ⟨gb162, _, none⟩) NB146_162.out _).trans (((cell_far (p := ⟨gb162, _, none⟩) NB146_162.out _).trans (((cell_far (p := ⟨gb162, _, none⟩) NB146_162.out _).trans (((cell_far (p := ⟨gb162, _, none⟩) NB146_162.out _).trans (hHeld.2.2.2.2.2.2.1)))))))), ((cell_far (p := ⟨gb162, _, none⟩) NB146_162.out _).trans (((cell_far (p := ⟨gb162, _, none⟩) NB146_162.out _).trans (((cell_far (p := ⟨gb162, _, none⟩) NB146_162.out _).trans (((cell_far (p := ⟨gb162, _, none⟩) NB146_162.out _).trans (hHeld.2.2.2.2.2.2.2))))))))⟩ (fun hHeld => ?_)
    clear hK K
    refine one_ (i := 9) (N := none) #[true, true, true, true, true, true, true, true, true, true] rfl rfl (one_of HT_.out (by kernel_rfl)) (by decide) (fun K hK => ?_)
    have hs40 : w35.cell? ⟨gb163, 0, none⟩ = some (.int .u64 0) := (blk_cell BK163.out 0).trans rfl
    have hfs40 := blk_frozen BK163.out 0
    have hns40_0 := NB146_163.out
    have hns40_1 := NB153_163.out
    have hns40_2 := NB162_163.out
    have hms40_0 := NB163_146.out
    have hms40_1 := NB163_153.out
    have hms40_2 := NB163_162.out
    have hs41 : w35.cell? ⟨gb163, 1, none⟩ = some (.int .u64 0) := (blk_cell BK163.out 1).trans rfl
    have hfs41 := blk_frozen BK163.out 1
    have hns41_0 := NB146_163.out
    have hns41_1 := NB153_163.out
    have hns41_2 := NB162_163.out
    have hms41_0 := NB163_146.out
    have hms41_1 := NB163_153.out
    have hms41_2 := NB163_162.out
    have hs42 : w35.cell? ⟨gb163, 2, none⟩ = some (.int .u64 0) := (blk_cell BK163.out 2).trans rfl
    have hfs42 := blk_frozen BK163.out 2
    have hns42_0 := NB146_163.out
    have hns42_1 := NB153_163.out
    have hns42_2 := NB162_163.out
    have hms42_0 := NB163_146.out
    have hms42_1 := NB163_153.out
    have hms42_2 := NB163_162.out
    have hs43 : w35.cell? ⟨gb163, 3, none⟩ = some (.int .i64 0) := (blk_cell BK163.out 3).trans rfl
    have hfs43 := blk_frozen BK163.out 3
    have hns43_0 := NB146_163.out
    have hns43_1 := NB153_163.out
    have hns43_2 := NB162_163.out
    have hms43_0 := NB163_146.out
    have hms43_1 := NB163_153.out
    have hms43_2 := NB163_162.out
    refine skip_ (w1 := ?_) (by rfl) rfl ?_ ?_
    rotate_left
    ·go_simp
     rfl
    refine hK.out _ _ ⟨((cell_far (p := ⟨gb163, _, none⟩) NB153_163.out _).trans (((cell_far (p := ⟨gb163, _, none⟩) NB153_163.out _).trans (((cell_far (p := ⟨gb163, _, none⟩) NB153_163.out _).trans (((cell_far (p := ⟨gb163, _, none⟩) NB153_163.out _).trans (hHeld.1)))))))), ((cell_far (p := ⟨gb163, _, none⟩) NB153_163.out _).trans (((cell_far (p := ⟨gb163, _, none⟩) NB153_163.out _).trans (((cell_far (p := ⟨gb163, _, none⟩) NB153_163.out _).trans (((cell_far (p := ⟨gb163, _, none⟩) NB153_163.out _).trans (hHeld.2.1)))))))), ((cell_far (p := ⟨gb163, _, none⟩) NB153_163.out _).trans (((cell_far (p := ⟨gb163, _, none⟩) NB153_163.out _).trans (((cell_far (p := ⟨gb163, _, none⟩) NB153_163.out _).trans (((cell_far (p := ⟨gb163, _, none⟩) NB153_163.out _).trans (hHeld.2.2.1)))))))), ((cell_far (p := ⟨gb163, _, none⟩) NB153_163.out _).trans (((cell_far (p := ⟨gb163, _, none⟩) NB153_163.out _).trans (((cell_far (p := ⟨gb163, _, none⟩) NB153_163.out _).trans (((cell_far (p := ⟨gb163, _, none⟩) NB153_163.out _).trans (hHeld.2.2.2.1)))))))), ((cell_far (p := ⟨gb163, _, none⟩) NB146_163.out _).trans (((cell_far (p := ⟨gb163, _, none⟩) NB146_163.out _).trans (((cell_far (p := ⟨gb163, _, none⟩) NB146_163.out _).trans (((cell_far (p := ⟨gb163, _, none⟩) NB146_163.out _).trans (hHeld.2.2.2.2.1)))))))), ((cell_far (p := ⟨gb163, _, none⟩) NB146_163.out _).trans (((cell_far (p := ⟨gb163, _, none⟩) NB146_163.out _).trans (((cell_far (p := ⟨gb163, _, none⟩) NB146_163.out _).trans (((cell_far (p := ⟨gb163, _, none⟩) NB146_163.out _).trans (hHeld.2.2.2.2.2.1)))))))), ((cell_far (p := ⟨gb163, _, none⟩) NB146_163.out _).trans (((cell_far (p := ⟨gb163, _, none⟩) NB146_163.out _).trans (((cell_far (p := ⟨gb163, _, none⟩) NB146_163.out _).trans (((cell_far (p := ⟨gb163, _, none⟩) NB146_163.out _).trans (hHeld.2.2.2.2.2.2.1)))))))), ((cell_far (p := ⟨gb163, _, none⟩) NB146_163.out _).trans (((cell_far (p := ⟨gb163, _, none⟩) NB146_163.out _).trans (((cell_far (p := ⟨gb163, _, none⟩) NB146_163.out _).trans (((cell_far (p := ⟨gb163, _, none⟩) NB146_163.out _).trans (hHeld.2.2.2.2.2.2.2))))))))⟩ (fun hHeld => ?_)
    clear hK K
    refine done_ (done_of HT_.out (by kernel_rfl)) ?_
    go_upto_region 5 with (fail)
    go_cut [64] (fun v64 wc => ∃ (kq : Nat) (x64_22 : Bool), v64 = .bool x64_22 ∧ Aside0 (manometerlaw19_LimitFills.j1 kq a2 x64_22 a0_0 a0_1 a0_2 a0_3 t154 t155 t156 t157 = some r) ∧ Aside0 (kq ≤ kj3) ∧ Aside0 (wc.heap[gb146]? = some (.cells #[.int .u64 a0_0, .int .u64 a0_1, .int .u64 a0_2, .int .i64 a0_3] 30 (0, 0))) ∧ Aside0 (wc.heap[gb153]? = some (.cells #[.int .u64 t149, .int .u64 t150, .int .u64 t151, .int .i64 t152] 30 (0, 0))) ∧ Aside0 (wc.heap[gb162]? = some (.cells #[.int .u64 t154, .int .u64 t155, .int .u64 t156, .int .i64 t157] 30 (0, 0))) ∧ Aside0 (wc.heap[gb163]? = some (.cells #[.int .u64 t158, .int .u64 t159, .int .u64 t160, .int .i64 t161] 30 (0, 0))) ∧ Aside0 (Below w.heap.size w wc))
    case first =>
     have H := HC23.out
     clear HC23
     by_cases c44 : t151 < a0_2
     ·rw [if_pos c44] at H
      have c44b0 : decide (t151 < a0_2) = true := decide_eq_true c44
      clear c44
      (first | rw [c44b0] | (simp only [i64_w, i32_w]; rw [c44b0]) | skip)
      have H' := Aside0.mk H
      clear H
      have hnb45 := NB153_146.out
      have hnc45 := NB146_153.out
      have hnb46 := NB153_162.out
      have hnc46 := NB162_153.out
      have hnb47 := NB153_163.out
      have hnc47 := NB163_153.out
      have hcz48_0 : w35.cell? ⟨gb153, 0, none⟩ = some (.int .u64 t149) := (blk_cell BK153.out 0).trans rfl
      have hcz48_1 : w35.cell? ⟨gb153, 1, none⟩ = some (.int .u64 t150) := (blk_cell BK153.out 1).trans rfl
      have hcz48_2 : w35.cell? ⟨gb153, 2, none⟩ = some (.int .u64 t151) := (blk_cell BK153.out 2).trans rfl
      have hcz48_3 : w35.cell? ⟨gb153, 3, none⟩ = some (.int .i64 t152) := (blk_cell BK153.out 3).trans rfl
      have hfz48_0 := blk_frozen BK153.out 0
      have hfz48_1 := blk_frozen BK153.out 1
      have hfz48_2 := blk_frozen BK153.out 2
      have hfz48_3 := blk_frozen BK153.out 3
      have hnb49 := NB146_162.out
      have hnc49 := NB162_146.out
      have hnb50 := NB146_163.out
      have hnc50 := NB163_146.out
      have hcz51_0 : w35.cell? ⟨gb146, 0, none⟩ = some (.int .u64 a0_0) := (blk_cell BK146.out 0).trans rfl
      have hcz51_1 : w35.cell? ⟨gb146, 1, none⟩ = some (.int .u64 a0_1) := (blk_cell BK146.out 1).trans rfl
      have hcz51_2 : w35.cell? ⟨gb146, 2, none⟩ = some (.int .u64 a0_2) := (blk_cell BK146.out 2).trans rfl
      have hcz51_3 : w35.cell? ⟨gb146, 3, none⟩ = some (.int .i64 a0_3) := (blk_cell BK146.out 3).trans rfl
      have hfz51_0 := blk_frozen BK146.out 0
      have hfz51_1 := blk_frozen BK146.out 1
      have hfz51_2 := blk_frozen BK146.out 2
      have hfz51_3 := blk_frozen BK146.out 3
      go_wp2
      go_meet
      case rel => exact ⟨_, (true), y21_, H', ⟨by have := HJ3.out; first | omega | exact Nat.le_refl _⟩, ⟨y12_⟩, ⟨y11_⟩, ⟨y7_⟩, ⟨y6_⟩, ⟨y13_⟩⟩
     ·rw [if_neg c44] at H
      have c44b0 : decide (t151 < a0_2) = false := decide_eq_false c44
      clear c44
      (first | rw [c44b0] | (simp only [i64_w, i32_w]; rw [c44b0]) | skip)
      by_cases c52 : (!(t154 == t158) || (!(t155 == t159) || (!(t156 == t160) || (!(t157 == t161))))) = true
      ·rw [if_pos c52] at H
       have c52b0 : (!(t154 == t158) || (!(t155 == t159) || (!(t156 == t160) || (!(t157 == t161))))) = true := c52
       clear c52
       have H' := Aside0.mk H
       clear H
       have hnb53 := NB153_146.out
       have hnc53 := NB146_153.out
       have hnb54 := NB153_162.out
       have hnc54 := NB162_153.out
       have hnb55 := NB153_163.out
       have hnc55 := NB163_153.out
       have hcz56_0 : w35.cell? ⟨gb153, 0, none⟩ = some (.int .u64 t149) := (blk_cell BK153.out 0).trans rfl
       have hcz56_1 : w35.cell? ⟨gb153, 1, none⟩ = some (.int .u64 t150) := (blk_cell BK153.out 1).trans rfl
       have hcz56_2 : w35.cell? ⟨gb153, 2, none⟩ = some (.int .u64 t151) := (blk_cell BK153.out 2).trans rfl
       have hcz56_3 : w35.cell? ⟨gb153, 3, none⟩ = some (.int .i64 t152) := (blk_cell BK153.out 3).trans rfl
       have hfz56_0 := blk_frozen BK153.out 0
       have hfz56_1 := blk_frozen BK153.out 1
       have hfz56_2 := blk_frozen BK153.out 2
       have hfz56_3 := blk_frozen BK153.out 3
       have hnb57 := NB146_162.out
       have hnc57 := NB162_146.out
       have hnb58 := NB146_163.out
       have hnc58 := NB163_146.out
       have hcz59_0 : w35.cell? ⟨gb146, 0, none⟩ = some (.int .u64 a0_0) := (blk_cell BK146.out 0).trans rfl
       have hcz59_1 : w35.cell? ⟨gb146, 1, none⟩ = some (.int .u64 a0_1) := (blk_cell BK146.out 1).trans rfl
       have hcz59_2 : w35.cell? ⟨gb146, 2, none⟩ = some (.int .u64 a0_2) := (blk_cell BK146.out 2).trans rfl
       have hcz59_3 : w35.cell? ⟨gb146, 3, none⟩ = some (.int .i64 a0_3) := (blk_cell BK146.out 3).trans rfl
       have hfz59_0 := blk_frozen BK146.out 0
       have hfz59_1 := blk_frozen BK146.out 1
       have hfz59_2 := blk_frozen BK146.out 2
       have hfz59_3 := blk_frozen BK146.out 3
       have hnb60 := NB162_163.out
       have hnc60 := NB163_162.out
       have hcz61_0 : w35.cell? ⟨gb162, 0, none⟩ = some (.int .u64 0) := (blk_cell BK162.out 0).trans rfl
       have hcz61_1 : w35.cell? ⟨gb162, 1, none⟩ = some (.int .u64 0) := (blk_cell BK162.out 1).trans rfl
       have hcz61_2 : w35.cell? ⟨gb162, 2, none⟩ = some (.int .u64 0) := (blk_cell BK162.out 2).trans rfl
       have hcz61_3 : w35.cell? ⟨gb162, 3, none⟩ = some (.int .i64 0) := (blk_cell BK162.out 3).trans rfl
       have hfz61_0 := blk_frozen BK162.out 0
       have hfz61_1 := blk_frozen BK162.out 1
       have hfz61_2 := blk_frozen BK162.out 2
       have hfz61_3 := blk_frozen BK162.out 3
       have hcz62_0 : w35.cell? ⟨gb163, 0, none⟩ = some (.int .u64 0) := (blk_cell BK163.out 0).trans rfl
       have hcz62_1 : w35.cell? ⟨gb163, 1, none⟩ = some (.int .u64 0) := (blk_cell BK163.out 1).trans rfl
       have hcz62_2 : w35.cell? ⟨gb163, 2, none⟩ = some (.int .u64 0) := (blk_cell BK163.out 2).trans rfl
       have hcz62_3 : w35.cell? ⟨gb163, 3, none⟩ = some (.int .i64 0) := (blk_cell BK163.out 3).trans rfl
       have hfz62_0 := blk_frozen BK163.out 0
       have hfz62_1 := blk_frozen BK163.out 1
       have hfz62_2 := blk_frozen BK163.out 2
       have hfz62_3 := blk_frozen BK163.out 3
       go_wp2
       go_meet
       case rel => exact ⟨_, (true), y21_, H', ⟨by have := HJ3.out; first | omega | exact Nat.le_refl _⟩, ⟨y12_⟩, ⟨y11_⟩, ⟨y7_⟩, ⟨y6_⟩, ⟨y13_⟩⟩
      ·rw [if_neg c52] at H
       have c52b0 : (!(t154 == t158) || (!(t155 == t159) || (!(t156 == t160) || (!(t157 == t161))))) = false := by simpa using c52
       clear c52
       by_cases c63 : t156 > a0_1
       ·rw [if_pos c63] at H
        have c63b0 : decide (a0_1 < t156) = true := decide_eq_true c63
        clear c63
        have H' := Aside0.mk H
        clear H
        have hnb64 := NB153_146.out
        have hnc64 := NB146_153.out
        have hnb65 := NB153_162.out
        have hnc65 := NB162_153.out
        have hnb66 := NB153_163.out
        have hnc66 := NB163_153.out
        have hcz67_0 : w35.cell? ⟨gb153, 0, none⟩ = some (.int .u64 t149) := (blk_cell BK153.out 0).trans rfl
        have hcz67_1 : w35.cell? ⟨gb153, 1, none⟩ = some (.int .u64 t150) := (blk_cell BK153.out 1).trans rfl
        have hcz67_2 : w35.cell? ⟨gb153, 2, none⟩ = some (.int .u64 t151) := (blk_cell BK153.out 2).trans rfl
        have hcz67_3 : w35.cell? ⟨gb153, 3, none⟩ = some (.int .i64 t152) := (blk_cell BK153.out 3).trans rfl
        have hfz67_0 := blk_frozen BK153.out 0
        have hfz67_1 := blk_frozen BK153.out 1
        have hfz67_2 := blk_frozen BK153.out 2
        have hfz67_3 := blk_frozen BK153.out 3
        have hnb68 := NB146_162.out
        have hnc68 := NB162_146.out
        have hnb69 := NB146_163.out
        have hnc69 := NB163_146.out
        have hcz70_0 : w35.cell? ⟨gb146, 0, none⟩ = some (.int .u64 a0_0) := (blk_cell BK146.out 0).trans rfl
        have hcz70_1 : w35.cell? ⟨gb146, 1, none⟩ = some (.int .u64 a0_1) := (blk_cell BK146.out 1).trans rfl
        have hcz70_2 : w35.cell? ⟨gb146, 2, none⟩ = some (.int .u64 a0_2) := (blk_cell BK146.out 2).trans rfl
        have hcz70_3 : w35.cell? ⟨gb146, 3, none⟩ = some (.int .i64 a0_3) := (blk_cell BK146.out 3).trans rfl
        have hfz70_0 := blk_frozen BK146.out 0
        have hfz70_1 := blk_frozen BK146.out 1
        have hfz70_2 := blk_frozen BK146.out 2
        have hfz70_3 := blk_frozen BK146.out 3
        have hnb71 := NB162_163.out
        have hnc71 := NB163_162.out
        have hcz72_0 : w35.cell? ⟨gb162, 0, none⟩ = some (.int .u64 0) := (blk_cell BK162.out 0).trans rfl
        have hcz72_1 : w35.cell? ⟨gb162, 1, none⟩ = some (.int .u64 0) := (blk_cell BK162.out 1).trans rfl
        have hcz72_2 : w35.cell? ⟨gb162, 2, none⟩ = some (.int .u64 0) := (blk_cell BK162.out 2).trans rfl
        have hcz72_3 : w35.cell? ⟨gb162, 3, none⟩ = some (.int .i64 0) := (blk_cell BK162.out 3).trans rfl
        have hfz72_0 := blk_frozen BK162.out 0
        have hfz72_1 := blk_frozen BK162.out 1
        have hfz72_2 := blk_frozen BK162.out 2
        have hfz72_3 := blk_frozen BK162.out 3
        have hcz73_0 : w35.cell? ⟨gb163, 0, none⟩ = some (.int .u64 0) := (blk_cell BK163.out 0).trans rfl
        have hcz73_1 : w35.cell? ⟨gb163, 1, none⟩ = some (.int .u64 0) := (blk_cell BK163.out 1).trans rfl
        have hcz73_2 : w35.cell? ⟨gb163, 2, none⟩ = some (.int .u64 0) := (blk_cell BK163.out 2).trans rfl
        have hcz73_3 : w35.cell? ⟨gb163, 3, none⟩ = some (.int .i64 0) := (blk_cell BK163.out 3).trans rfl
        have hfz73_0 := blk_frozen BK163.out 0
        have hfz73_1 := blk_frozen BK163.out 1
        have hfz73_2 := blk_frozen BK163.out 2
        have hfz73_3 := blk_frozen BK163.out 3
        go_wp2
        go_meet
        case rel => exact ⟨_, (true), y21_, H', ⟨by have := HJ3.out; first | omega | exact Nat.le_refl _⟩, ⟨y12_⟩, ⟨y11_⟩, ⟨y7_⟩, ⟨y6_⟩, ⟨y13_⟩⟩
       ·rw [if_neg c63] at H
        have c63b0 : decide (a0_1 < t156) = false := decide_eq_false c63
        clear c63
        have H' := Aside0.mk H
        clear H
        have hnb74 := NB153_146.out
        have hnc74 := NB146_153.out
        have hnb75 := NB153_162.out
        have hnc75 := NB162_153.out
        have hnb76 := NB153_163.out
        have hnc76 := NB163_153.out
        have hcz77_0 : w35.cell? ⟨gb153, 0, none⟩ = some (.int .u64 t149) := (blk_cell BK153.out 0).trans rfl
        have hcz77_1 : w35.cell? ⟨gb153, 1, none⟩ = some (.int .u64 t150) := (blk_cell BK153.out 1).trans rfl
        have hcz77_2 : w35.cell? ⟨gb153, 2, none⟩ = some (.int .u64 t151) := (blk_cell BK153.out 2).trans rfl
        have hcz77_3 : w35.cell? ⟨gb153, 3, none⟩ = some (.int .i64 t152) := (blk_cell BK153.out 3).trans rfl
        have hfz77_0 := blk_frozen BK153.out 0
        have hfz77_1 := blk_frozen BK153.out 1
        have hfz77_2 := blk_frozen BK153.out 2
        have hfz77_3 := blk_frozen BK153.out 3
        have hnb78 := NB146_162.out
        have hnc78 := NB162_146.out
        have hnb79 := NB146_163.out
        have hnc79 := NB163_146.out
        have hcz80_0 : w35.cell? ⟨gb146, 0, none⟩ = some (.int .u64 a0_0) := (blk_cell BK146.out 0).trans rfl
        have hcz80_1 : w35.cell? ⟨gb146, 1, none⟩ = some (.int .u64 a0_1) := (blk_cell BK146.out 1).trans rfl
        have hcz80_2 : w35.cell? ⟨gb146, 2, none⟩ = some (.int .u64 a0_2) := (blk_cell BK146.out 2).trans rfl
        have hcz80_3 : w35.cell? ⟨gb146, 3, none⟩ = some (.int .i64 a0_3) := (blk_cell BK146.out 3).trans rfl
        have hfz80_0 := blk_frozen BK146.out 0
        have hfz80_1 := blk_frozen BK146.out 1
        have hfz80_2 := blk_frozen BK146.out 2
        have hfz80_3 := blk_frozen BK146.out 3
        have hnb81 := NB162_163.out
        have hnc81 := NB163_162.out
        have hcz82_0 : w35.cell? ⟨gb162, 0, none⟩ = some (.int .u64 0) := (blk_cell BK162.out 0).trans rfl
        have hcz82_1 : w35.cell? ⟨gb162, 1, none⟩ = some (.int .u64 0) := (blk_cell BK162.out 1).trans rfl
        have hcz82_2 : w35.cell? ⟨gb162, 2, none⟩ = some (.int .u64 0) := (blk_cell BK162.out 2).trans rfl
        have hcz82_3 : w35.cell? ⟨gb162, 3, none⟩ = some (.int .i64 0) := (blk_cell BK162.out 3).trans rfl
        have hfz82_0 := blk_frozen BK162.out 0
        have hfz82_1 := blk_frozen BK162.out 1
        have hfz82_2 := blk_frozen BK162.out 2
        have hfz82_3 := blk_frozen BK162.out 3
        have hcz83_0 : w35.cell? ⟨gb163, 0, none⟩ = some (.int .u64 0) := (blk_cell BK163.out 0).trans rfl
        have hcz83_1 : w35.cell? ⟨gb163, 1, none⟩ = some (.int .u64 0) := (blk_cell BK163.out 1).trans rfl
        have hcz83_2 : w35.cell? ⟨gb163, 2, none⟩ = some (.int .u64 0) := (blk_cell BK163.out 2).trans rfl
        have hcz83_3 : w35.cell? ⟨gb163, 3, none⟩ = some (.int .i64 0) := (blk_cell BK163.out 3).trans rfl
        have hfz83_0 := blk_frozen BK163.out 0
        have hfz83_1 := blk_frozen BK163.out 1
        have hfz83_2 := blk_frozen BK163.out 2
        have hfz83_3 := blk_frozen BK163.out 3
        go_wp2
        go_meet
        case rel => exact ⟨_, (decide (t156 < t151)), y21_, H', ⟨by have := HJ3.out; first | omega | exact Nat.le_refl _⟩, ⟨y12_⟩, ⟨y11_⟩, ⟨y7_⟩, ⟨y6_⟩, ⟨y13_⟩⟩
    case rest =>
     clear HC23
     try clear c1
     try clear p2
     try clear c4
     try clear c5
     try clear c6
     try clear c7
     try clear c8
     try clear c18
     try clear c44
     try clear c44b0
     try clear c45
     try clear c46
     try clear c47
     try clear c49
     try clear c50
     try clear c52
     try clear c52b0
     try clear c53
     try clear c54
     try clear c55
     try clear c57
     try clear c58
     try clear c60
     try clear c63
     try clear c63b0
     try clear c64
     try clear c65
     try clear c66
     try clear c68
     try clear c69
     try clear c71
     try clear c74
     try clear c75
     try clear c76
     try clear c78
     try clear c79
     try clear c81
     try clear hcz48_0
     try clear hcz48_1
     try clear hcz48_2
     try clear hcz48_3
     try clear hcz51_0
     try clear hcz51_1
     try clear hcz51_2
     try clear hcz51_3
     try clear hcz56_0
     try clear hcz56_1
     try clear hcz56_2
     try clear hcz56_3
     try clear hcz59_0
     try clear hcz59_1
     try clear hcz59_2
     try clear hcz59_3
     try clear hcz61_0
     try clear hcz61_1
     try clear hcz61_2
     try clear hcz61_3
     try clear hcz62_0
     try clear hcz62_1
     try clear hcz62_2
     try clear hcz62_3
     try clear hcz67_0
     try clear hcz67_1
     try clear hcz67_2
     try clear hcz67_3
     try clear hcz70_0
     try clear hcz70_1
     try clear hcz70_2
     try clear hcz70_3
     try clear hcz72_0
     try clear hcz72_1
     try clear hcz72_2
     try clear hcz72_3
     try clear hcz73_0
     try clear hcz73_1
     try clear hcz73_2
     try clear hcz73_3
     try clear hcz77_0
     try clear hcz77_1
     try clear hcz77_2
     try clear hcz77_3
     try clear hcz80_0
     try clear hcz80_1
     try clear hcz80_2
     try clear hcz80_3
     try clear hcz82_0
     try clear hcz82_1
     try clear hcz82_2
     try clear hcz82_3
     try clear hcz83_0
     try clear hcz83_1
     try clear hcz83_2
     try clear hcz83_3
     try clear hfz48_0
     try clear hfz48_1
     try clear hfz48_2
     try clear hfz48_3
     try clear hfz51_0
     try clear hfz51_1
     try clear hfz51_2
     try clear hfz51_3
     try clear hfz56_0
     try clear hfz56_1
     try clear hfz56_2
     try clear hfz56_3
     try clear hfz59_0
     try clear hfz59_1
     try clear hfz59_2
     try clear hfz59_3
     try clear hfz61_0
     try clear hfz61_1
     try clear hfz61_2
     try clear hfz61_3
     try clear hfz62_0
     try clear hfz62_1
     try clear hfz62_2
     try clear hfz62_3
     try clear hfz67_0
     try clear hfz67_1
     try clear hfz67_2
     try clear hfz67_3
     try clear hfz70_0
     try clear hfz70_1
     try clear hfz70_2
     try clear hfz70_3
     try clear hfz72_0
     try clear hfz72_1
     try clear hfz72_2
     try clear hfz72_3
     try clear hfz73_0
     try clear hfz73_1
     try clear hfz73_2
     try clear hfz73_3
     try clear hfz77_0
     try clear hfz77_1
     try clear hfz77_2
     try clear hfz77_3
     try clear hfz80_0
     try clear hfz80_1
     try clear hfz80_2
     try clear hfz80_3
     try clear hfz82_0
     try clear hfz82_1
     try clear hfz82_2
     try clear hfz82_3
     try clear hfz83_0
     try clear hfz83_1
     try clear hfz83_2
     try clear hfz83_3
     obtain ⟨kq, x64_22, rfl, HA, HJ22, BK146, BK153, BK162, BK163, HB⟩ := hcut
     cases kq with
     | zero => exact absurd HA.out (by simp [manometerlaw19_LimitFills.j1])
     | succ kj22 =>
      have H := HA.out
      clear HA
      simp only [manometerlaw19_LimitFills.j1] at H
      by_cases c84 : x64_22 = true
      ·subst c84
       have H1 : (some false) = some r := by rw [if_pos rfl] at H; exact H
       clear H
       have H := H1
       clear H1
       obtain rfl := Option.some.inj H
       go_wp2
       go_ret
       exact ⟨y20_, y13_⟩
      ·replace c84 := Bool.eq_false_iff.mpr c84
       subst c84
       have H1 : (if a0_0 = 0 then (some true) else (if (IntKind.u64.wrap ((IntKind.u64.wrap (a2)) - (IntKind.u64.wrap (a0_3)))) ≤ (IntKind.u64.wrap (Int.tdiv a0_1 a0_0)) then (some true) else (some (t156 == a0_1)))) = some r := by rw [if_neg (show ¬ (false = true) by decide)] at H; exact H
       clear H
       have H := H1
       clear H1
       by_cases c85 : a0_0 = 0
       ·rw [if_pos c85] at H
        have c85b0 : (a0_0 == 0) = true := beq_iff_eq.mpr c85
        have c85b1 : (a0_0 != 0) = false := bne_eq_false_iff_eq.mpr c85
        clear c85
        obtain rfl := Option.some.inj H
        have hnb86 := NB146_153.out
        have hnc86 := NB153_146.out
        have hnb87 := NB146_162.out
        have hnc87 := NB162_146.out
        have hnb88 := NB146_163.out
        have hnc88 := NB163_146.out
        have hcz89_0 : wc.cell? ⟨gb146, 0, none⟩ = some (.int .u64 a0_0) := (blk_cell BK146.out 0).trans rfl
        have hcz89_1 : wc.cell? ⟨gb146, 1, none⟩ = some (.int .u64 a0_1) := (blk_cell BK146.out 1).trans rfl
        have hcz89_2 : wc.cell? ⟨gb146, 2, none⟩ = some (.int .u64 a0_2) := (blk_cell BK146.out 2).trans rfl
        have hcz89_3 : wc.cell? ⟨gb146, 3, none⟩ = some (.int .i64 a0_3) := (blk_cell BK146.out 3).trans rfl
        have hfz89_0 := blk_frozen BK146.out 0
        have hfz89_1 := blk_frozen BK146.out 1
        have hfz89_2 := blk_frozen BK146.out 2
        have hfz89_3 := blk_frozen BK146.out 3
        go_wp2
        go_ret
        exact ⟨y20_, y13_⟩
       ·rw [if_neg c85] at H
        have c85b0 : (a0_0 == 0) = false := beq_eq_false_iff_ne.mpr c85
        have c85b1 : (a0_0 != 0) = true := bne_iff_ne.mpr c85
        by_cases c90 : (IntKind.u64.wrap ((IntKind.u64.wrap (a2)) - (IntKind.u64.wrap (a0_3)))) ≤ (IntKind.u64.wrap (Int.tdiv a0_1 a0_0))
        ·rw [if_pos c90] at H
         have c90b0 : decide ((IntKind.u64.wrap ((IntKind.u64.wrap (a2)) - (IntKind.u64.wrap (a0_3)))) ≤ (IntKind.u64.wrap (Int.tdiv a0_1 a0_0))) = true := decide_eq_true c90
         clear c90
         obtain rfl := Option.some.inj H
         have hnb91 := NB146_153.out
         have hnc91 := NB153_146.out
         have hnb92 := NB146_162.out
         have hnc92 := NB162_146.out
         have hnb93 := NB146_163.out
         have hnc93 := NB163_146.out
         have hcz94_0 : wc.cell? ⟨gb146, 0, none⟩ = some (.int .u64 a0_0) := (blk_cell BK146.out 0).trans rfl
         have hcz94_1 : wc.cell? ⟨gb146, 1, none⟩ = some (.int .u64 a0_1) := (blk_cell BK146.out 1).trans rfl
         have hcz94_2 : wc.cell? ⟨gb146, 2, none⟩ = some (.int .u64 a0_2) := (blk_cell BK146.out 2).trans rfl
         have hcz94_3 : wc.cell? ⟨gb146, 3, none⟩ = some (.int .i64 a0_3) := (blk_cell BK146.out 3).trans rfl
         have hfz94_0 := blk_frozen BK146.out 0
         have hfz94_1 := blk_frozen BK146.out 1
         have hfz94_2 := blk_frozen BK146.out 2
         have hfz94_3 := blk_frozen BK146.out 3
         go_wp2
         go_ret
         exact ⟨y20_, y13_⟩
        ·rw [if_neg c90] at H
         have c90b0 : decide ((IntKind.u64.wrap ((IntKind.u64.wrap (a2)) - (IntKind.u64.wrap (a0_3)))) ≤ (IntKind.u64.wrap (Int.tdiv a0_1 a0_0))) = false := decide_eq_false c90
         clear c90
         obtain rfl := Option.some.inj H
         have hnb95 := NB146_153.out
         have hnc95 := NB153_146.out
         have hnb96 := NB146_162.out
         have hnc96 := NB162_146.out
         have hnb97 := NB146_163.out
         have hnc97 := NB163_146.out
         have hcz98_0 : wc.cell? ⟨gb146, 0, none⟩ = some (.int .u64 a0_0) := (blk_cell BK146.out 0).trans rfl
         have hcz98_1 : wc.cell? ⟨gb146, 1, none⟩ = some (.int .u64 a0_1) := (blk_cell BK146.out 1).trans rfl
         have hcz98_2 : wc.cell? ⟨gb146, 2, none⟩ = some (.int .u64 a0_2) := (blk_cell BK146.out 2).trans rfl
         have hcz98_3 : wc.cell? ⟨gb146, 3, none⟩ = some (.int .i64 a0_3) := (blk_cell BK146.out 3).trans rfl
         have hfz98_0 := blk_frozen BK146.out 0
         have hfz98_1 := blk_frozen BK146.out 1
         have hfz98_2 := blk_frozen BK146.out 2
         have hfz98_3 := blk_frozen BK146.out 3
         have hnb99 := NB162_153.out
         have hnc99 := NB153_162.out
         have hnb100 := NB162_163.out
         have hnc100 := NB163_162.out
         have hcz101_0 : wc.cell? ⟨gb162, 0, none⟩ = some (.int .u64 t154) := (blk_cell BK162.out 0).trans rfl
         have hcz101_1 : wc.cell? ⟨gb162, 1, none⟩ = some (.int .u64 t155) := (blk_cell BK162.out 1).trans rfl
         have hcz101_2 : wc.cell? ⟨gb162, 2, none⟩ = some (.int .u64 t156) := (blk_cell BK162.out 2).trans rfl
         have hcz101_3 : wc.cell? ⟨gb162, 3, none⟩ = some (.int .i64 t157) := (blk_cell BK162.out 3).trans rfl
         have hfz101_0 := blk_frozen BK162.out 0
         have hfz101_1 := blk_frozen BK162.out 1
         have hfz101_2 := blk_frozen BK162.out 2
         have hfz101_3 := blk_frozen BK162.out 3
         go_wp2
         go_ret
         exact ⟨y20_, y13_⟩
end Go.Proofs.YtbpmgaaipkenkaaDoor.PMB
