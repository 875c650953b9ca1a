import Derived.Test.YtdckhaejhfkkbaaDoorCRecordBackPRTx0
import Derived.Test.YtdckhaejhfkkbaaDoorCRecordBackPRTx6
import Derived.Test.YtdckhaejhfkkbaaDoorCRecordBackPRTx8
import Derived.Test.YtdckhaejhfkkbaaDoorCRecordBackPRTx9
import Derived.Test.YtdckhaejhfkkbaaDoorCRecordBackPRTx16
import Derived.Test.YtdckhaejhfkkbaaDoorCRecordBackPRTx21
import Derived.Test.YtdckhaejhfkkbaaDoorCRecordBackO2
import Derived.Test.YtdckhaejhfkkbaaDoorCRecordBackPRTx2
import Derived.Test.YtdckhaejhfkkbaaDoorCRecordBackY
namespace Go.Proofs.YtdckhaejhfkkbaaDoor.PRT
open Go.RowKit Go.Proofs.YtdckhaejhfkkbaaDoorW.PrintWords Go.Proofs.YtdckhaejhfkkbaaDoorW.PrintLast Go.Proofs.YtdckhaejhfkkbaaDoorW.PrintMore
attribute [local go_sem] max2_int min2_int max_two min_two max_three min_three max_four min_four
set_option linter.unusedVariables false
set_option linter.unusedSimpArgs false
mutual
def manometerlaw13_RecordBack.j0 : Nat → List Int → Int → Bool → Int → Int → List (S52) → List (S45) → Option (Bool)
 | 0, _, _, _, _, _, _, _ => none
 | k + 1, x1, x2, x30, x611000, x611001, x611002, x611003 => if x30 = true then ((manometerlaw13_live.f k).bind fun t613 => (some t613)) else ((record_Take.f k x1).bind fun bt614 => (if bt614.2.2.2.2 = 0 then ((record_Put.f k bt614.1 bt614.2.1 bt614.2.2.1 bt614.2.2.2.1).bind fun bt624 => (if bt624.2 = 0 then ((manometerref01_Equal.f k bt624.1 x1).bind fun t628 => (if t628 = true then (manometerlaw13_RecordBack.j1 k x1 x2 x611000 x611001 x611002 x611003) else (some false))) else (some false))) else (manometerlaw13_RecordBack.j1 k x1 x2 x611000 x611001 x611002 x611003)))
def manometerlaw13_RecordBack.j1 : Nat → List Int → Int → Int → Int → List (S52) → List (S45) → Option (Bool)
 | 0, _, _, _, _, _, _ => none
 | k + 1, x1, x2, x611000, x611001, x611002, x611003 => (record_Put.f k x611000 x611001 x611002 x611003).bind fun bt629 => ((record_Check.f k x611000 x611001 x611002 x611003).bind fun t633 => (if bt629.2 = t633 then (manometerlaw13_RecordBack.j2 k x1 x2 bt629.1 bt629.2 (bt629.2 != 0) x611000 x611001 x611002 x611003) else (manometerlaw13_RecordBack.j2 k x1 x2 bt629.1 bt629.2 true x611000 x611001 x611002 x611003)))
def manometerlaw13_RecordBack.j2 : Nat → List Int → Int → List Int → Int → Bool → Int → Int → List (S52) → List (S45) → Option (Bool)
 | 0, _, _, _, _, _, _, _, _, _ => none
 | k + 1, x1, x2, x11, x12, x64, x611000, x611001, x611002, x611003 => if x64 = true then ((record_Check.f k x611000 x611001 x611002 x611003).bind fun t634 => (if x12 = t634 then (some ((x11.length : Int) == 0)) else (some false))) else ((record_Take.f k x11).bind fun bt635 => (if bt635.2.2.2.2 = 0 then ((record_Same.f k x611000 x611001 x611002 x611003 bt635.1 bt635.2.1 bt635.2.2.1 bt635.2.2.2.1).bind fun t645 => (manometerlaw13_RecordBack.j3 k x1 x2 x11 (!t645))) else (manometerlaw13_RecordBack.j3 k x1 x2 x11 true)))
def manometerlaw13_RecordBack.j3 : Nat → List Int → Int → List Int → Bool → Option (Bool)
 | 0, _, _, _, _ => none
 | k + 1, x1, x2, x11, x86 => if x86 = true then (some false) else (if (x1.length : Int) > 0 then ((manometerref01_Join.f k (([x11, x1] : List (List Int)))).bind fun t649 => ((record_Take.f k t649).bind fun bt652 => (if bt652.2.2.2.2 = 8 then (if x2 < 0 then (some true) else (if x2 ≥ (x11.length : Int) then (some true) else (if 0 ≤ x2 then (if x2 ≤ (x11.length : Int) then ((record_Take.f k (x11.take (x2 : Int).toNat)).bind fun bt667 => (some (bt667.2.2.2.2 == 6))) else (none)) else (none)))) else (some false)))) else (if x2 < 0 then (some true) else (if x2 ≥ (x11.length : Int) then (some true) else (if 0 ≤ x2 then (if x2 ≤ (x11.length : Int) then ((record_Take.f k (x11.take (x2 : Int).toNat)).bind fun bt682 => (some (bt682.2.2.2.2 == 6))) else (none)) else (none)))))
end
def manometerlaw13_RecordBack.f (k : Nat) (a0_0 : Int) (a0_1 : Int) (l0_2 : List (S52)) (l0_3 : List (S45)) (l1 : List Int) (a2 : Int) : Option (Bool) := (manometerlaw13_live.f k).bind fun t611 => (if t611 = true then ((manometerlaw13_few.f k a0_0 a0_1 l0_2 l0_3).bind fun t612 => (if t612 = true then (manometerlaw13_RecordBack.j0 k l1 a2 (decide ((l1.length : Int) > 6000)) a0_0 a0_1 l0_2 l0_3) else (manometerlaw13_RecordBack.j0 k l1 a2 true a0_0 a0_1 l0_2 l0_3))) else (manometerlaw13_RecordBack.j0 k l1 a2 true a0_0 a0_1 l0_2 l0_3))
set_option maxHeartbeats 8000000 in
set_option maxRecDepth 100000 in
theorem manometerlaw13_RecordBack.calls (k : Nat) (a0_0 : Int) (a0_1 : Int) (A0_2 : Option Addr) (c0_2 : Nat) (l0_2 : List (S52)) (A0_3 : Option Addr) (c0_3 : Nat) (l0_3 : List (S45)) (P1_ : Nat → Prop) (A1 : Option Addr) (c1 : Nat) (l1 : List Int) (a2 : Int) (r : Bool) (w : World) (hT : Aside0 (Tab w)) (hr0_2 : Kd.C k52 w A0_2 l0_2.length l0_2) (hc0_2 : l0_2.length ≤ c0_2) (hr0_3 : Kd.C k45 w A0_3 l0_3.length l0_3) (hc0_3 : l0_3.length ≤ c0_3) (hs1 : Kd.V (Kd.int .u8) 5 w w.heap.size (fun k_ => P1_ k_) (.slice A1 l1.length c1) l1) (h : manometerlaw13_RecordBack.f k a0_0 a0_1 l0_2 l0_3 l1 a2 = some r) :
  Calls Tryd.prog 7 #[.agg #[.int .i64 a0_0, .int .u32 a0_1, .slice A0_2 l0_2.length c0_2, .slice A0_3 l0_3.length c0_3], .slice A1 l1.length c1, .int .i64 a2] w fun e w' => e = .returned (.bool r) ∧ Below w.heap.size w w' := by
 have hu29 := Tryd.underlying29
 have HR0_2 := Aside0.mk hr0_2
 have HC0_2 := Aside0.mk hc0_2
 clear hr0_2 hc0_2
 have HR0_3 := Aside0.mk hr0_3
 have HC0_3 := Aside0.mk hc0_3
 clear hr0_3 hc0_3
 have HO1 := Aside0.mk (show Kd.V (Kd.int .u8) 5 w w.heap.size (fun k_ => (P1_ k_ ∨ w.heap.size ≤ k_)) (.slice A1 l1.length c1) l1 from Kd.V_mono hs1 (fun k_ hk => .inl hk))
 have HB := Aside0.mk (Below.refl w.heap.size w)
 have H : ((manometerlaw13_live.f k).bind fun t611 => (if t611 = true then ((manometerlaw13_few.f k a0_0 a0_1 l0_2 l0_3).bind fun t612 => (if t612 = true then (manometerlaw13_RecordBack.j0 k l1 a2 (decide ((l1.length : Int) > 6000)) a0_0 a0_1 l0_2 l0_3) else (manometerlaw13_RecordBack.j0 k l1 a2 true a0_0 a0_1 l0_2 l0_3))) else (manometerlaw13_RecordBack.j0 k l1 a2 true a0_0 a0_1 l0_2 l0_3))) = some r := h
 clear h
 have HC4 := Aside0.mk H
 clear H
 go_enter Tryd.func7, Tryd.ntmps7
 go_upto_region 1 with (first | ((with_reducible refine gate_dst (N := 3) rfl ?_); (try (refine gate_guard (by rfl) ?_; dsimp only)); refine box_event ?hg (N := 3) ?hd (cs := #[.int .i64 a0_0, .int .u32 a0_1, .slice A0_2 l0_2.length c0_2, .slice A0_3 l0_3.length c0_3]) (t := 29) ?hr ?_; (case hd => rfl); (case hg => rfl); (case hr => first | (go_simp; done) | (go_simp; rfl)); intro gb610 hg w5 hbox hb; have n0_ := Aside0.mk (Kd.V_below (Kd.V_elderB y57_ gb610 (Nat.le_of_eq hg.symm)) hb); have n1_ := Aside0.mk (below_step y1_ hb); have n2_ := Aside0.mk (hbox); have n3_ := Aside0.mk ((y29_ : w.heap.size ≤ gb610)); have n4_ := Aside0.mk ((y29_ : w.heap.size ≤ gb610)); clear HO1; clear HB; have HO1 := n0_; have HB := n1_; have BK610 := n2_; have GW610 := n3_; have GE610 := n4_; clear n0_ n1_ n2_ n3_ n4_; clear hb hbox hg))
 (try simp only [Act.put, List.setIfInBounds_toArray, List.set_cons_zero, List.set_cons_succ])
 go_cut [30] (fun v30 wc => ∃ (kq : Nat) (x30_3 : Bool), v30 = .bool x30_3 ∧ Aside0 (manometerlaw13_RecordBack.j0 kq l1 a2 x30_3 a0_0 a0_1 l0_2 l0_3 = some r) ∧ Aside0 (kq ≤ k) ∧ Aside0 (Kd.V (Kd.int .u8) 5 wc w.heap.size (fun k_ => (P1_ k_ ∨ w.heap.size ≤ k_) ∧ k_ ≠ gb610) (.slice A1 l1.length c1) l1) ∧ Aside0 (wc.heap[gb610]? = some (.cells #[.int .i64 a0_0, .int .u32 a0_1, (.slice A0_2 l0_2.length c0_2), (.slice A0_3 l0_3.length c0_3)] 29 (0, 0))) ∧ Aside0 (Below w.heap.size w wc))
 case first =>
  have H := HC4.out
  clear HC4
  replace H := Option.bind_eq_some_iff.mp H
  obtain ⟨t611, A60, H⟩ := H
  replace H : (if t611 = true then ((manometerlaw13_few.f k a0_0 a0_1 l0_2 l0_3).bind fun t612 => (if t612 = true then (manometerlaw13_RecordBack.j0 k l1 a2 (decide ((l1.length : Int) > 6000)) a0_0 a0_1 l0_2 l0_3) else (manometerlaw13_RecordBack.j0 k l1 a2 true a0_0 a0_1 l0_2 l0_3))) else (manometerlaw13_RecordBack.j0 k l1 a2 true a0_0 a0_1 l0_2 l0_3)) = some r := H
  have A6 := Aside0.mk A60
  clear A60
  by_cases c7 : t611 = true
  ·subst c7
   have H1 : ((manometerlaw13_few.f k a0_0 a0_1 l0_2 l0_3).bind fun t612 => (if t612 = true then (manometerlaw13_RecordBack.j0 k l1 a2 (decide ((l1.length : Int) > 6000)) a0_0 a0_1 l0_2 l0_3) else (manometerlaw13_RecordBack.j0 k l1 a2 true a0_0 a0_1 l0_2 l0_3))) = some r := by rw [if_pos rfl] at H; exact H
   clear H
   have H := H1
   clear H1
   replace H := Option.bind_eq_some_iff.mp H
   obtain ⟨t612, A80, H⟩ := H
   replace H : (if t612 = true then (manometerlaw13_RecordBack.j0 k l1 a2 (decide ((l1.length : Int) > 6000)) a0_0 a0_1 l0_2 l0_3) else (manometerlaw13_RecordBack.j0 k l1 a2 true a0_0 a0_1 l0_2 l0_3)) = some r := H
   have A8 := Aside0.mk A80
   clear A80
   by_cases c9 : t612 = true
   ·subst c9
    have H1 : (manometerlaw13_RecordBack.j0 k l1 a2 (decide ((l1.length : Int) > 6000)) a0_0 a0_1 l0_2 l0_3) = some r := by rw [if_pos rfl] at H; exact H
    clear H
    have H := H1
    clear H1
    have H' := Aside0.mk H
    clear H
    go_wp2_with (first | ((with_reducible refine gate_callee (f := 8) rfl ?_); refine goesL_ (some 19) rfl rfl Tryd.func8 (by kernel_rfl) rfl #[] rfl y3_ ?_; (with_reducible refine (manometerlaw13_live.calls k  true _ ?side1 A6.out).mono ?_); (case side1 => exact ⟨Tab_below hT.out y14_⟩); rintro e w10 ⟨rfl, hb⟩; refine ⟨_, rfl, ?_⟩; have n0_ := Aside0.mk (Kd.V_below y57_ hb); have n1_ := Aside0.mk (blk_below (g := gb610) (o := .cells #[.int .i64 a0_0, .int .u32 a0_1, .slice A0_2 l0_2.length c0_2, .slice A0_3 l0_3.length c0_3] 29 (0, 0)) y6_ hb); have n2_ := Aside0.mk (below_step y14_ hb); clear HO1; clear BK610; clear HB; have HO1 := n0_; have BK610 := n1_; have HB := n2_; clear n0_ n1_ n2_; (try clear hb); (try clear hb2); (try clear hk); (try clear hi); have hcz11_0 : w10.cell? ⟨gb610, 0, none⟩ = some (.int .i64 a0_0) := (blk_cell BK610.out 0).trans rfl; have hcz11_1 : w10.cell? ⟨gb610, 1, none⟩ = some (.int .u32 a0_1) := (blk_cell BK610.out 1).trans rfl; have hcz11_2 : w10.cell? ⟨gb610, 2, none⟩ = some (.slice A0_2 l0_2.length c0_2) := (blk_cell BK610.out 2).trans rfl; have hcz11_3 : w10.cell? ⟨gb610, 3, none⟩ = some (.slice A0_3 l0_3.length c0_3) := (blk_cell BK610.out 3).trans rfl; have hfz11_0 := blk_frozen BK610.out 0; have hfz11_1 := blk_frozen BK610.out 1; have hfz11_2 := blk_frozen BK610.out 2; have hfz11_3 := blk_frozen BK610.out 3) | (go_at_call 12; (with_reducible refine (manometerlaw13_few.calls k a0_0 a0_1 _ _ l0_2 _ _ l0_3 true _ ?side1 ?side2 ?side3 ?side4 A8.out).mono ?_); (case side1 => repeat (first | exact (Kd.C_below HR0_2.out HB.out) | (with_reducible refine Kd.C_alloc ?_ _) | (with_reducible refine Kd.C_drewN ?_ _) | (with_reducible refine Kd.C_drew ?_))); (case side2 => exact HC0_2.out); (case side3 => repeat (first | exact (Kd.C_below HR0_3.out HB.out) | (with_reducible refine Kd.C_alloc ?_ _) | (with_reducible refine Kd.C_drewN ?_ _) | (with_reducible refine Kd.C_drew ?_))); (case side4 => exact HC0_3.out); rintro e w12 ⟨rfl, hb⟩; have n0_ := Aside0.mk (Kd.V_below y57_ hb); have n1_ := Aside0.mk (blk_below (g := gb610) (o := .cells #[.int .i64 a0_0, .int .u32 a0_1, .slice A0_2 l0_2.length c0_2, .slice A0_3 l0_3.length c0_3] 29 (0, 0)) y6_ hb); have n2_ := Aside0.mk (below_step y14_ hb); clear HO1; clear BK610; clear HB; have HO1 := n0_; have BK610 := n1_; have HB := n2_; clear n0_ n1_ n2_; (try clear hb); (try clear hb2); (try clear hk); (try clear hi)))
    go_meet
    case rel => exact ⟨_, (decide ((l1.length : Int) > 6000)), y15_, H', ⟨y85_⟩, ⟨y57_⟩, ⟨y6_⟩, ⟨y14_⟩⟩
   ·replace c9 := Bool.eq_false_iff.mpr c9
    subst c9
    have H1 : (manometerlaw13_RecordBack.j0 k l1 a2 true a0_0 a0_1 l0_2 l0_3) = some r := by rw [if_neg (show ¬ (false = true) by decide)] at H; exact H
    clear H
    have H := H1
    clear H1
    have H' := Aside0.mk H
    clear H
    go_wp2_with (first | ((with_reducible refine gate_callee (f := 8) rfl ?_); refine goesL_ (some 19) rfl rfl Tryd.func8 (by kernel_rfl) rfl #[] rfl y3_ ?_; (with_reducible refine (manometerlaw13_live.calls k  true _ ?side1 A6.out).mono ?_); (case side1 => exact ⟨Tab_below hT.out y14_⟩); rintro e w13 ⟨rfl, hb⟩; refine ⟨_, rfl, ?_⟩; have n0_ := Aside0.mk (Kd.V_below y57_ hb); have n1_ := Aside0.mk (blk_below (g := gb610) (o := .cells #[.int .i64 a0_0, .int .u32 a0_1, .slice A0_2 l0_2.length c0_2, .slice A0_3 l0_3.length c0_3] 29 (0, 0)) y6_ hb); have n2_ := Aside0.mk (below_step y14_ hb); clear HO1; clear BK610; clear HB; have HO1 := n0_; have BK610 := n1_; have HB := n2_; clear n0_ n1_ n2_; (try clear hb); (try clear hb2); (try clear hk); (try clear hi); have hcz14_0 : w13.cell? ⟨gb610, 0, none⟩ = some (.int .i64 a0_0) := (blk_cell BK610.out 0).trans rfl; have hcz14_1 : w13.cell? ⟨gb610, 1, none⟩ = some (.int .u32 a0_1) := (blk_cell BK610.out 1).trans rfl; have hcz14_2 : w13.cell? ⟨gb610, 2, none⟩ = some (.slice A0_2 l0_2.length c0_2) := (blk_cell BK610.out 2).trans rfl; have hcz14_3 : w13.cell? ⟨gb610, 3, none⟩ = some (.slice A0_3 l0_3.length c0_3) := (blk_cell BK610.out 3).trans rfl; have hfz14_0 := blk_frozen BK610.out 0; have hfz14_1 := blk_frozen BK610.out 1; have hfz14_2 := blk_frozen BK610.out 2; have hfz14_3 := blk_frozen BK610.out 3) | (go_at_call 12; (with_reducible refine (manometerlaw13_few.calls k a0_0 a0_1 _ _ l0_2 _ _ l0_3 false _ ?side1 ?side2 ?side3 ?side4 A8.out).mono ?_); (case side1 => repeat (first | exact (Kd.C_below HR0_2.out HB.out) | (with_reducible refine Kd.C_alloc ?_ _) | (with_reducible refine Kd.C_drewN ?_ _) | (with_reducible refine Kd.C_drew ?_))); (case side2 => exact HC0_2.out); (case side3 => repeat (first | exact (Kd.C_below HR0_3.out HB.out) | (with_reducible refine Kd.C_alloc ?_ _) | (with_reducible refine Kd.C_drewN ?_ _) | (with_reducible refine Kd.C_drew ?_))); (case side4 => exact HC0_3.out); rintro e w15 ⟨rfl, hb⟩; have n0_ := Aside0.mk (Kd.V_below y57_ hb); have n1_ := Aside0.mk (blk_below (g := gb610) (o := .cells #[.int .i64 a0_0, .int .u32 a0_1, .slice A0_2 l0_2.length c0_2, .slice A0_3 l0_3.length c0_3] 29 (0, 0)) y6_ hb); have n2_ := Aside0.mk (below_step y14_ hb); clear HO1; clear BK610; clear HB; have HO1 := n0_; have BK610 := n1_; have HB := n2_; clear n0_ n1_ n2_; (try clear hb); (try clear hb2); (try clear hk); (try clear hi)))
    go_meet
    case rel => exact ⟨_, (true), y15_, H', ⟨y85_⟩, ⟨y57_⟩, ⟨y6_⟩, ⟨y14_⟩⟩
  ·replace c7 := Bool.eq_false_iff.mpr c7
   subst c7
   have H1 : (manometerlaw13_RecordBack.j0 k l1 a2 true a0_0 a0_1 l0_2 l0_3) = some r := by rw [if_neg (show ¬ (false = true) by decide)] at H; exact H
   clear H
   have H := H1
   clear H1
   have H' := Aside0.mk H
   clear H
   go_wp2_with (first | ((with_reducible refine gate_callee (f := 8) rfl ?_); refine goesL_ (some 19) rfl rfl Tryd.func8 (by kernel_rfl) rfl #[] rfl y3_ ?_; (with_reducible refine (manometerlaw13_live.calls k  false _ ?side1 A6.out).mono ?_); (case side1 => exact ⟨Tab_below hT.out y14_⟩); rintro e w16 ⟨rfl, hb⟩; refine ⟨_, rfl, ?_⟩; have n0_ := Aside0.mk (Kd.V_below y57_ hb); have n1_ := Aside0.mk (blk_below (g := gb610) (o := .cells #[.int .i64 a0_0, .int .u32 a0_1, .slice A0_2 l0_2.length c0_2, .slice A0_3 l0_3.length c0_3] 29 (0, 0)) y6_ hb); have n2_ := Aside0.mk (below_step y14_ hb); clear HO1; clear BK610; clear HB; have HO1 := n0_; have BK610 := n1_; have HB := n2_; clear n0_ n1_ n2_; (try clear hb); (try clear hb2); (try clear hk); (try clear hi)))
   go_meet
   case rel => exact ⟨_, (true), y15_, H', ⟨y85_⟩, ⟨y57_⟩, ⟨y6_⟩, ⟨y14_⟩⟩
 case rest =>
  clear HC4
  try clear c1
  try clear p2
  try clear c7
  try clear c8
  try clear c9
  try clear hcz11_0
  try clear hcz11_1
  try clear hcz11_2
  try clear hcz11_3
  try clear hcz14_0
  try clear hcz14_1
  try clear hcz14_2
  try clear hcz14_3
  try clear hfz11_0
  try clear hfz11_1
  try clear hfz11_2
  try clear hfz11_3
  try clear hfz14_0
  try clear hfz14_1
  try clear hfz14_2
  try clear hfz14_3
  obtain ⟨kq, x30_3, rfl, HA, HJ3, HO_1, BK610, HB⟩ := hcut
  cases kq with
  | zero => exact absurd HA.out (by simp [manometerlaw13_RecordBack.j0])
  | succ kj3 =>
   have H := HA.out
   clear HA
   simp only [manometerlaw13_RecordBack.j0] at H
   by_cases c17 : x30_3 = true
   ·subst c17
    have H1 : ((manometerlaw13_live.f kj3).bind fun t613 => (some t613)) = some r := by rw [if_pos rfl] at H; exact H
    clear H
    have H := H1
    clear H1
    replace H := Option.bind_eq_some_iff.mp H
    obtain ⟨t613, A180, H⟩ := H
    replace H : (some t613) = some r := H
    have A18 := Aside0.mk A180
    clear A180
    obtain rfl := Option.some.inj H
    go_wp2_with (first | ((with_reducible refine gate_callee (f := 8) rfl ?_); refine goesL_ (some 31) rfl rfl Tryd.func8 (by kernel_rfl) rfl #[] rfl y3_ ?_; (with_reducible refine (manometerlaw13_live.calls kj3  t613 _ ?side1 A18.out).mono ?_); (case side1 => exact ⟨Tab_below hT.out y14_⟩); rintro e w19 ⟨rfl, hb⟩; refine ⟨_, rfl, ?_⟩; have n0_ := Aside0.mk (Kd.V_below y20_ hb); have n1_ := Aside0.mk (blk_below (g := gb610) (o := .cells #[.int .i64 a0_0, .int .u32 a0_1, .slice A0_2 l0_2.length c0_2, .slice A0_3 l0_3.length c0_3] 29 (0, 0)) y6_ hb); have n2_ := Aside0.mk (below_step y14_ hb); clear HO_1; clear BK610; clear HB; have HO_1 := n0_; have BK610 := n1_; have HB := n2_; clear n0_ n1_ n2_; (try clear hb); (try clear hb2); (try clear hk); (try clear hi)))
    go_ret
    exact ⟨y8_, y14_⟩
   ·replace c17 := Bool.eq_false_iff.mpr c17
    subst c17
    have H1 : ((record_Take.f kj3 l1).bind fun bt614 => (if bt614.2.2.2.2 = 0 then ((record_Put.f kj3 bt614.1 bt614.2.1 bt614.2.2.1 bt614.2.2.2.1).bind fun bt624 => (if bt624.2 = 0 then ((manometerref01_Equal.f kj3 bt624.1 l1).bind fun t628 => (if t628 = true then (manometerlaw13_RecordBack.j1 kj3 l1 a2 a0_0 a0_1 l0_2 l0_3) else (some false))) else (some false))) else (manometerlaw13_RecordBack.j1 kj3 l1 a2 a0_0 a0_1 l0_2 l0_3))) = some r := by rw [if_neg (show ¬ (false = true) by decide)] at H; exact H
    clear H
    have H := H1
    clear H1
    replace H := Option.bind_eq_some_iff.mp H
    obtain ⟨⟨t614, t615, t616, t619, t622⟩, A200, H⟩ := H
    replace H : (if t622 = 0 then ((record_Put.f kj3 t614 t615 t616 t619).bind fun bt624 => (if bt624.2 = 0 then ((manometerref01_Equal.f kj3 bt624.1 l1).bind fun t628 => (if t628 = true then (manometerlaw13_RecordBack.j1 kj3 l1 a2 a0_0 a0_1 l0_2 l0_3) else (some false))) else (some false))) else (manometerlaw13_RecordBack.j1 kj3 l1 a2 a0_0 a0_1 l0_2 l0_3)) = some r := H
    have A20 := Aside0.mk A200
    clear A200
    have HC21 := Aside0.mk H
    clear H
    go_upto_if 38 with (first | ((with_reducible refine gate_callee (f := 9) rfl ?_); refine goesL_ (some 34) rfl rfl Tryd.func9 (by kernel_rfl) rfl #[.slice A1 l1.length c1] rfl y3_ ?_; (with_reducible refine (record_Take.calls kj3 _ _ l1 t614 t615 t616 t619 t622 _ ?side1 ?side2 ?side3 A20.out).mono ?_); (case side1 => exact ⟨Tab_below hT.out y14_⟩); (case side2 => repeat (first | exact (Kd.V_reads' HO_1.out).2.2 | (with_reducible refine Kd.C_alloc ?_ _) | (with_reducible refine Kd.C_drewN ?_ _) | (with_reducible refine Kd.C_drew ?_))); (case side3 => exact (Kd.V_reads' HO_1.out).2.1); rintro e w22 ⟨v617, v620, rfl, ho0, ho1, hb⟩; refine ⟨_, rfl, ?_⟩; have n0_ := Aside0.mk (Kd.V_mono (Kd.V_told (Kd.V_told (Kd.V_old y20_ hb) (Kd.R_base ho0)) (Kd.R_base ho1)) (fun _ h_ => h_.1)); have n1_ := Aside0.mk (Kd.R_lower (Kd.R_newM (M := fun k_ => (w.heap.size ≤ k_)) ho0 (below_size y14_) (fun k_ h_ => h_)) (below_size y14_)); have n2_ := Aside0.mk (Kd.R_lower (Kd.R_newM (M := fun k_ => (w.heap.size ≤ k_)) ho1 (below_size y14_) (fun k_ h_ => h_)) (below_size y14_)); have n3_ := Aside0.mk (blk_below (g := gb610) (o := .cells #[.int .i64 a0_0, .int .u32 a0_1, .slice A0_2 l0_2.length c0_2, .slice A0_3 l0_3.length c0_3] 29 (0, 0)) y6_ hb); have n4_ := Aside0.mk (below_step y14_ hb); clear HO_1; clear BK610; clear HB; have HO_1 := n0_; have HO618 := n1_; have HO621 := n2_; have BK610 := n3_; have HB := n4_; clear n0_ n1_ n2_ n3_ n4_; (try clear hb); (try clear hb2); (try clear hk); (try clear hi); (try clear ho0); (try clear ho1)) | ((with_reducible refine gate_dst (N := 7) rfl ?_); (try (refine gate_guard (by rfl) ?_; dsimp only)); refine box_event ?hg (N := 7) ?hd (cs := #[.int .i64 0, .int .u32 0, .slice none 0 0, .slice none 0 0]) (t := 29) ?hr ?_; (case hd => rfl); (case hg => rfl); (case hr => first | (go_simp; done) | (go_simp; rfl)); intro gb623 hg w23 hbox hb; have n0_ := Aside0.mk (Kd.V_below (Kd.V_elderB y20_ gb623 (Nat.le_of_eq hg.symm)) hb); have n1_ := Aside0.mk (Kd.R_below (by (with_reducible repeat (first | apply Kd.R_alloc | apply Kd.R_drewN | apply Kd.R_drew)); exact HO618.out) hb); have n2_ := Aside0.mk (Kd.R_below (by (with_reducible repeat (first | apply Kd.R_alloc | apply Kd.R_drewN | apply Kd.R_drew)); exact HO621.out) hb); have n3_ := Aside0.mk (blk_below (g := gb610) (o := .cells #[.int .i64 a0_0, .int .u32 a0_1, .slice A0_2 l0_2.length c0_2, .slice A0_3 l0_3.length c0_3] 29 (0, 0)) y6_ hb); have n4_ := Aside0.mk (below_step y14_ hb); have n5_ := Aside0.mk (hbox); have n6_ := Aside0.mk ((by rw [hg]; exact (below_size y14_) : w.heap.size ≤ gb623)); have n7_ := Aside0.mk ((by rw [hg]; exact (below_size y14_) : w.heap.size ≤ gb623)); have n8_ := Aside0.mk ((y44_ : gb610 ≠ gb623)); have n9_ := Aside0.mk ((y45_ : gb623 ≠ gb610)); clear HO_1; clear HO618; clear HO621; clear BK610; clear HB; have HO_1 := n0_; have HO618 := n1_; have HO621 := n2_; have BK610 := n3_; have HB := n4_; have BK623 := n5_; have GW623 := n6_; have GE623 := n7_; have NB610_623 := n8_; have NB623_610 := n9_; clear n0_ n1_ n2_ n3_ n4_ n5_ n6_ n7_ n8_ n9_; clear hb hbox hg; have hnb24 := NB623_610.out; have hnc24 := NB610_623.out; have hcz25_0 : w23.cell? ⟨gb623, 0, none⟩ = some (.int .i64 0) := (blk_cell BK623.out 0).trans rfl; have hcz25_1 : w23.cell? ⟨gb623, 1, none⟩ = some (.int .u32 0) := (blk_cell BK623.out 1).trans rfl; have hcz25_2 : w23.cell? ⟨gb623, 2, none⟩ = some (.slice none 0 0) := (blk_cell BK623.out 2).trans rfl; have hcz25_3 : w23.cell? ⟨gb623, 3, none⟩ = some (.slice none 0 0) := (blk_cell BK623.out 3).trans rfl; have hfz25_0 := blk_frozen BK623.out 0; have hfz25_1 := blk_frozen BK623.out 1; have hfz25_2 := blk_frozen BK623.out 2; have hfz25_3 := blk_frozen BK623.out 3; obtain ⟨Ao26, co26, eo26⟩ := Kd.R_slice HO618.out; subst eo26; obtain ⟨Ao27, co27, eo27⟩ := Kd.R_slice HO621.out; subst eo27))
    (try simp only [Act.put, List.setIfInBounds_toArray, List.set_cons_zero, List.set_cons_succ])
    go_cut [] (fun wc => ∃ (kq : Nat), Aside0 (manometerlaw13_RecordBack.j1 kq l1 a2 a0_0 a0_1 l0_2 l0_3 = some r) ∧ Aside0 (kq ≤ kj3) ∧ Aside0 (Kd.V (Kd.int .u8) 5 wc w.heap.size (fun k_ => (P1_ k_ ∨ w.heap.size ≤ k_) ∧ some k_ ≠ ((.slice Ao26 t616.length co26) : Value).ownBlock ∧ some k_ ≠ ((.slice Ao27 t619.length co27) : Value).ownBlock ∧ k_ ≠ gb610 ∧ k_ ≠ gb623) (.slice A1 l1.length c1) l1) ∧ Aside0 (Kd.R k52 52 wc w.heap.size (fun k_ => (w.heap.size ≤ k_)) (.slice Ao26 t616.length co26) t616) ∧ Aside0 (Kd.R k45 45 wc w.heap.size (fun k_ => (w.heap.size ≤ k_)) (.slice Ao27 t619.length co27) t619) ∧ Aside0 (wc.heap[gb610]? = some (.cells #[.int .i64 a0_0, .int .u32 a0_1, (.slice A0_2 l0_2.length c0_2), (.slice A0_3 l0_3.length c0_3)] 29 (0, 0))) ∧ Aside0 (wc.heap[gb623]? = some (.cells #[.int .i64 t614, .int .u32 t615, (.slice Ao26 t616.length co26), (.slice Ao27 t619.length co27)] 29 (0, 0))) ∧ Aside0 (Below w.heap.size w wc))
    case first =>
     have H := HC21.out
     clear HC21
     by_cases c28 : t622 = 0
     ·rw [if_pos c28] at H
      have c28b0 : (t622 == 0) = true := beq_iff_eq.mpr c28
      have c28b1 : (t622 != 0) = false := bne_eq_false_iff_eq.mpr c28
      clear c28
      (first | rw [c28b0] | (simp only [i64_w, i32_w]; rw [c28b0]) | skip)
      replace H := Option.bind_eq_some_iff.mp H
      obtain ⟨⟨t624, t627⟩, A290, H⟩ := H
      replace H : (if t627 = 0 then ((manometerref01_Equal.f kj3 t624 l1).bind fun t628 => (if t628 = true then (manometerlaw13_RecordBack.j1 kj3 l1 a2 a0_0 a0_1 l0_2 l0_3) else (some false))) else (some false)) = some r := H
      have A29 := Aside0.mk A290
      clear A290
      by_cases c30 : t627 = 0
      ·rw [if_pos c30] at H
       have c30b0 : (t627 == 0) = true := beq_iff_eq.mpr c30
       have c30b1 : (t627 != 0) = false := bne_eq_false_iff_eq.mpr c30
       clear c30
       replace H := Option.bind_eq_some_iff.mp H
       obtain ⟨t628, A310, H⟩ := H
       replace H : (if t628 = true then (manometerlaw13_RecordBack.j1 kj3 l1 a2 a0_0 a0_1 l0_2 l0_3) else (some false)) = some r := H
       have A31 := Aside0.mk A310
       clear A310
       by_cases c32 : t628 = true
       ·subst c32
        have H1 : (manometerlaw13_RecordBack.j1 kj3 l1 a2 a0_0 a0_1 l0_2 l0_3) = some r := by rw [if_pos rfl] at H; exact H
        clear H
        have H := H1
        clear H1
        have H' := Aside0.mk H
        clear H
        have hnb33 := NB623_610.out
        have hnc33 := NB610_623.out
        have hcz34_0 : w23.cell? ⟨gb623, 0, none⟩ = some (.int .i64 0) := (blk_cell BK623.out 0).trans rfl
        have hcz34_1 : w23.cell? ⟨gb623, 1, none⟩ = some (.int .u32 0) := (blk_cell BK623.out 1).trans rfl
        have hcz34_2 : w23.cell? ⟨gb623, 2, none⟩ = some (.slice none 0 0) := (blk_cell BK623.out 2).trans rfl
        have hcz34_3 : w23.cell? ⟨gb623, 3, none⟩ = some (.slice none 0 0) := (blk_cell BK623.out 3).trans rfl
        have hfz34_0 := blk_frozen BK623.out 0
        have hfz34_1 := blk_frozen BK623.out 1
        have hfz34_2 := blk_frozen BK623.out 2
        have hfz34_3 := blk_frozen BK623.out 3
        go_wp2_with (first | ((with_reducible refine gate_callee (f := 13) rfl ?_); refine goesL_ (some 41) rfl rfl Tryd.func13 (by kernel_rfl) rfl #[.agg #[.int .i64 t614, .int .u32 t615, .slice Ao26 t616.length co26, .slice Ao27 t619.length co27]] rfl y3_ ?_; (with_reducible refine (record_Put.calls kj3 t614 t615 _ _ t616 _ _ t619 t624 t627 _ ?side1 ?side2 ?side3 ?side4 ?side5 A29.out).mono ?_); (case side1 => exact ⟨Tab_below hT.out y4_⟩); (case side2 => refine (Kd.R_reads' (e := 52) (base := w.heap.size) (ok := fun k_ => ((w.heap.size ≤ k_) ∧ True)) (n := t616.length) (c := co26) ?_).2.2; exact y27_); (case side3 => exact (Kd.R_reads' HO618.out).2.1); (case side4 => refine (Kd.R_reads' (e := 45) (base := w.heap.size) (ok := fun k_ => ((w.heap.size ≤ k_) ∧ True)) (n := t619.length) (c := co27) ?_).2.2; exact y26_); (case side5 => exact (Kd.R_reads' HO621.out).2.1); rintro e w35 ⟨v625, rfl, ho0, hb⟩; refine ⟨_, rfl, ?_⟩; have n0_ := Aside0.mk (Kd.V_elder' y46_ (Kd.R_base ho0) hb); have n1_ := Aside0.mk (Kd.R_below y27_ hb); have n2_ := Aside0.mk (Kd.R_below y26_ hb); have n3_ := Aside0.mk (Kd.R_lower (Kd.R_newM (M := fun k_ => (w.heap.size ≤ k_)) ho0 (below_size y4_) (fun k_ h_ => h_)) (below_size y4_)); have n4_ := Aside0.mk (blk_below (g := gb610) (o := .cells #[.int .i64 a0_0, .int .u32 a0_1, .slice A0_2 l0_2.length c0_2, .slice A0_3 l0_3.length c0_3] 29 (0, 0)) y31_ hb); have n5_ := Aside0.mk (blk_below (g := gb623) (o := .cells #[.int .i64 t614, .int .u32 t615, .slice Ao26 t616.length co26, .slice Ao27 t619.length co27] 29 (0, 0)) y21_ hb); have n6_ := Aside0.mk (below_step y4_ hb); clear HO_1; clear HO618; clear HO621; clear BK610; clear BK623; clear HB; have HO_1 := n0_; have HO618 := n1_; have HO621 := n2_; have HO626 := n3_; have BK610 := n4_; have BK623 := n5_; have HB := n6_; clear n0_ n1_ n2_ n3_ n4_ n5_ n6_; (try clear hb); (try clear hb2); (try clear hk); (try clear hi); (try clear ho0); obtain ⟨Ao36, co36, eo36⟩ := Kd.R_slice HO626.out; subst eo36) | (go_at_call 15; (with_reducible refine (manometerref01_Equal.calls kj3 _ _ t624 _ _ l1 true _ ?side1 ?side2 ?side3 ?side4 A31.out).mono ?_); (case side1 => repeat (first | exact (Kd.R_reads' HO626.out).2.2 | (with_reducible refine Kd.C_alloc ?_ _) | (with_reducible refine Kd.C_drewN ?_ _) | (with_reducible refine Kd.C_drew ?_))); (case side2 => exact (Kd.R_reads' HO626.out).2.1); (case side3 => repeat (first | exact (Kd.V_reads' HO_1.out).2.2 | (with_reducible refine Kd.C_alloc ?_ _) | (with_reducible refine Kd.C_drewN ?_ _) | (with_reducible refine Kd.C_drew ?_))); (case side4 => exact (Kd.V_reads' HO_1.out).2.1); rintro e w' ⟨rfl, ⟨nd, rfl⟩⟩))
        go_meet
        case rel => exact ⟨_, H', ⟨by have := HJ3.out; first | omega | exact Nat.le_refl _⟩, ⟨by (with_reducible repeat (first | apply Kd.V_alloc | apply Kd.V_drewN | apply Kd.V_drew)); exact Kd.V_mono HO_1.out (fun _ hk => ⟨hk.1.1.1.1.1, ⟨hk.1.1.1.2, ⟨hk.1.1.2, ⟨hk.1.1.1.1.2, hk.1.2⟩⟩⟩⟩)⟩, ⟨by (with_reducible repeat (first | apply Kd.R_alloc | apply Kd.R_drewN | apply Kd.R_drew)); exact Kd.R_mono HO618.out (fun _ hk => hk.1)⟩, ⟨by (with_reducible repeat (first | apply Kd.R_alloc | apply Kd.R_drewN | apply Kd.R_drew)); exact Kd.R_mono HO621.out (fun _ hk => hk.1)⟩, ⟨y6_⟩, ⟨y9_⟩, ⟨y4_⟩⟩
       ·replace c32 := Bool.eq_false_iff.mpr c32
        subst c32
        have H1 : (some false) = some r := by rw [if_neg (show ¬ (false = true) by decide)] at H; exact H
        clear H
        have H := H1
        clear H1
        obtain rfl := Option.some.inj H
        have hnb37 := NB623_610.out
        have hnc37 := NB610_623.out
        have hcz38_0 : w23.cell? ⟨gb623, 0, none⟩ = some (.int .i64 0) := (blk_cell BK623.out 0).trans rfl
        have hcz38_1 : w23.cell? ⟨gb623, 1, none⟩ = some (.int .u32 0) := (blk_cell BK623.out 1).trans rfl
        have hcz38_2 : w23.cell? ⟨gb623, 2, none⟩ = some (.slice none 0 0) := (blk_cell BK623.out 2).trans rfl
        have hcz38_3 : w23.cell? ⟨gb623, 3, none⟩ = some (.slice none 0 0) := (blk_cell BK623.out 3).trans rfl
        have hfz38_0 := blk_frozen BK623.out 0
        have hfz38_1 := blk_frozen BK623.out 1
        have hfz38_2 := blk_frozen BK623.out 2
        have hfz38_3 := blk_frozen BK623.out 3
        go_wp2_with (first | ((with_reducible refine gate_callee (f := 13) rfl ?_); refine goesL_ (some 41) rfl rfl Tryd.func13 (by kernel_rfl) rfl #[.agg #[.int .i64 t614, .int .u32 t615, .slice Ao26 t616.length co26, .slice Ao27 t619.length co27]] rfl y3_ ?_; (with_reducible refine (record_Put.calls kj3 t614 t615 _ _ t616 _ _ t619 t624 t627 _ ?side1 ?side2 ?side3 ?side4 ?side5 A29.out).mono ?_); (case side1 => exact ⟨Tab_below hT.out y4_⟩); (case side2 => refine (Kd.R_reads' (e := 52) (base := w.heap.size) (ok := fun k_ => ((w.heap.size ≤ k_) ∧ True)) (n := t616.length) (c := co26) ?_).2.2; exact y27_); (case side3 => exact (Kd.R_reads' HO618.out).2.1); (case side4 => refine (Kd.R_reads' (e := 45) (base := w.heap.size) (ok := fun k_ => ((w.heap.size ≤ k_) ∧ True)) (n := t619.length) (c := co27) ?_).2.2; exact y26_); (case side5 => exact (Kd.R_reads' HO621.out).2.1); rintro e w39 ⟨v625, rfl, ho0, hb⟩; refine ⟨_, rfl, ?_⟩; have n0_ := Aside0.mk (Kd.V_elder' y46_ (Kd.R_base ho0) hb); have n1_ := Aside0.mk (Kd.R_below y27_ hb); have n2_ := Aside0.mk (Kd.R_below y26_ hb); have n3_ := Aside0.mk (Kd.R_lower (Kd.R_newM (M := fun k_ => (w.heap.size ≤ k_)) ho0 (below_size y4_) (fun k_ h_ => h_)) (below_size y4_)); have n4_ := Aside0.mk (blk_below (g := gb610) (o := .cells #[.int .i64 a0_0, .int .u32 a0_1, .slice A0_2 l0_2.length c0_2, .slice A0_3 l0_3.length c0_3] 29 (0, 0)) y31_ hb); have n5_ := Aside0.mk (blk_below (g := gb623) (o := .cells #[.int .i64 t614, .int .u32 t615, .slice Ao26 t616.length co26, .slice Ao27 t619.length co27] 29 (0, 0)) y21_ hb); have n6_ := Aside0.mk (below_step y4_ hb); clear HO_1; clear HO618; clear HO621; clear BK610; clear BK623; clear HB; have HO_1 := n0_; have HO618 := n1_; have HO621 := n2_; have HO626 := n3_; have BK610 := n4_; have BK623 := n5_; have HB := n6_; clear n0_ n1_ n2_ n3_ n4_ n5_ n6_; (try clear hb); (try clear hb2); (try clear hk); (try clear hi); (try clear ho0); obtain ⟨Ao40, co40, eo40⟩ := Kd.R_slice HO626.out; subst eo40) | (go_at_call 15; (with_reducible refine (manometerref01_Equal.calls kj3 _ _ t624 _ _ l1 false _ ?side1 ?side2 ?side3 ?side4 A31.out).mono ?_); (case side1 => repeat (first | exact (Kd.R_reads' HO626.out).2.2 | (with_reducible refine Kd.C_alloc ?_ _) | (with_reducible refine Kd.C_drewN ?_ _) | (with_reducible refine Kd.C_drew ?_))); (case side2 => exact (Kd.R_reads' HO626.out).2.1); (case side3 => repeat (first | exact (Kd.V_reads' HO_1.out).2.2 | (with_reducible refine Kd.C_alloc ?_ _) | (with_reducible refine Kd.C_drewN ?_ _) | (with_reducible refine Kd.C_drew ?_))); (case side4 => exact (Kd.V_reads' HO_1.out).2.1); rintro e w' ⟨rfl, ⟨nd, rfl⟩⟩))
        go_ret
        exact ⟨y8_, y4_⟩
      ·rw [if_neg c30] at H
       have c30b0 : (t627 == 0) = false := beq_eq_false_iff_ne.mpr c30
       have c30b1 : (t627 != 0) = true := bne_iff_ne.mpr c30
       obtain rfl := Option.some.inj H
       have hnb41 := NB623_610.out
       have hnc41 := NB610_623.out
       have hcz42_0 : w23.cell? ⟨gb623, 0, none⟩ = some (.int .i64 0) := (blk_cell BK623.out 0).trans rfl
       have hcz42_1 : w23.cell? ⟨gb623, 1, none⟩ = some (.int .u32 0) := (blk_cell BK623.out 1).trans rfl
       have hcz42_2 : w23.cell? ⟨gb623, 2, none⟩ = some (.slice none 0 0) := (blk_cell BK623.out 2).trans rfl
       have hcz42_3 : w23.cell? ⟨gb623, 3, none⟩ = some (.slice none 0 0) := (blk_cell BK623.out 3).trans rfl
       have hfz42_0 := blk_frozen BK623.out 0
       have hfz42_1 := blk_frozen BK623.out 1
       have hfz42_2 := blk_frozen BK623.out 2
       have hfz42_3 := blk_frozen BK623.out 3
       go_wp2_with (first | ((with_reducible refine gate_callee (f := 13) rfl ?_); refine goesL_ (some 41) rfl rfl Tryd.func13 (by kernel_rfl) rfl #[.agg #[.int .i64 t614, .int .u32 t615, .slice Ao26 t616.length co26, .slice Ao27 t619.length co27]] rfl y3_ ?_; (with_reducible refine (record_Put.calls kj3 t614 t615 _ _ t616 _ _ t619 t624 t627 _ ?side1 ?side2 ?side3 ?side4 ?side5 A29.out).mono ?_); (case side1 => exact ⟨Tab_below hT.out y4_⟩); (case side2 => refine (Kd.R_reads' (e := 52) (base := w.heap.size) (ok := fun k_ => ((w.heap.size ≤ k_) ∧ True)) (n := t616.length) (c := co26) ?_).2.2; exact y27_); (case side3 => exact (Kd.R_reads' HO618.out).2.1); (case side4 => refine (Kd.R_reads' (e := 45) (base := w.heap.size) (ok := fun k_ => ((w.heap.size ≤ k_) ∧ True)) (n := t619.length) (c := co27) ?_).2.2; exact y26_); (case side5 => exact (Kd.R_reads' HO621.out).2.1); rintro e w43 ⟨v625, rfl, ho0, hb⟩; refine ⟨_, rfl, ?_⟩; have n0_ := Aside0.mk (Kd.V_elder' y46_ (Kd.R_base ho0) hb); have n1_ := Aside0.mk (Kd.R_below y27_ hb); have n2_ := Aside0.mk (Kd.R_below y26_ hb); have n3_ := Aside0.mk (Kd.R_lower (Kd.R_newM (M := fun k_ => (w.heap.size ≤ k_)) ho0 (below_size y4_) (fun k_ h_ => h_)) (below_size y4_)); have n4_ := Aside0.mk (blk_below (g := gb610) (o := .cells #[.int .i64 a0_0, .int .u32 a0_1, .slice A0_2 l0_2.length c0_2, .slice A0_3 l0_3.length c0_3] 29 (0, 0)) y31_ hb); have n5_ := Aside0.mk (blk_below (g := gb623) (o := .cells #[.int .i64 t614, .int .u32 t615, .slice Ao26 t616.length co26, .slice Ao27 t619.length co27] 29 (0, 0)) y21_ hb); have n6_ := Aside0.mk (below_step y4_ hb); clear HO_1; clear HO618; clear HO621; clear BK610; clear BK623; clear HB; have HO_1 := n0_; have HO618 := n1_; have HO621 := n2_; have HO626 := n3_; have BK610 := n4_; have BK623 := n5_; have HB := n6_; clear n0_ n1_ n2_ n3_ n4_ n5_ n6_; (try clear hb); (try clear hb2); (try clear hk); (try clear hi); (try clear ho0)))
       go_ret
       exact ⟨y8_, y4_⟩
     ·rw [if_neg c28] at H
      have c28b0 : (t622 == 0) = false := beq_eq_false_iff_ne.mpr c28
      have c28b1 : (t622 != 0) = true := bne_iff_ne.mpr c28
      (first | rw [c28b0] | (simp only [i64_w, i32_w]; rw [c28b0]) | skip)
      have H' := Aside0.mk H
      clear H
      go_wp2
      go_meet
      case rel => exact ⟨_, H', ⟨by have := HJ3.out; first | omega | exact Nat.le_refl _⟩, ⟨by (with_reducible repeat (first | apply Kd.V_alloc | apply Kd.V_drewN | apply Kd.V_drew)); exact Kd.V_mono (Kd.V_far (p := ⟨gb623, 3, none⟩) (Kd.V_far (p := ⟨gb623, 2, none⟩) (Kd.V_far (p := ⟨gb623, 1, none⟩) (Kd.V_far (p := ⟨gb623, 0, none⟩) (Kd.V_mono HO_1.out (fun k_ hk => (⟨hk, hk.2⟩ : _ ∧ k_ ≠ gb623))) (fun _ hk => hk.2) (.int .i64 t614)) (fun _ hk => hk.2) (.int .u32 t615)) (fun _ hk => hk.2) (.slice Ao26 t616.length co26)) (fun _ hk => hk.2) (.slice Ao27 t619.length co27)) (fun _ hk => ⟨hk.1.1.1.1.1, ⟨hk.1.1.1.2, ⟨hk.1.1.2, ⟨hk.1.1.1.1.2, hk.1.2⟩⟩⟩⟩)⟩, ⟨by (with_reducible repeat (first | apply Kd.R_alloc | apply Kd.R_drewN | apply Kd.R_drew)); exact Kd.R_mono (Kd.R_far (p := ⟨gb623, 3, none⟩) (Kd.R_far (p := ⟨gb623, 2, none⟩) (Kd.R_far (p := ⟨gb623, 1, none⟩) (Kd.R_far (p := ⟨gb623, 0, none⟩) (Kd.R_types HO618.out BK623.out (by decide)) (fun _ hk => hk.2) (.int .i64 t614)) (fun _ hk => hk.2) (.int .u32 t615)) (fun _ hk => hk.2) (.slice Ao26 t616.length co26)) (fun _ hk => hk.2) (.slice Ao27 t619.length co27)) (fun _ hk => hk.1.1)⟩, ⟨by (with_reducible repeat (first | apply Kd.R_alloc | apply Kd.R_drewN | apply Kd.R_drew)); exact Kd.R_mono (Kd.R_far (p := ⟨gb623, 3, none⟩) (Kd.R_far (p := ⟨gb623, 2, none⟩) (Kd.R_far (p := ⟨gb623, 1, none⟩) (Kd.R_far (p := ⟨gb623, 0, none⟩) (Kd.R_types HO621.out BK623.out (by decide)) (fun _ hk => hk.2) (.int .i64 t614)) (fun _ hk => hk.2) (.int .u32 t615)) (fun _ hk => hk.2) (.slice Ao26 t616.length co26)) (fun _ hk => hk.2) (.slice Ao27 t619.length co27)) (fun _ hk => hk.1.1)⟩, ⟨y31_⟩, ⟨y21_⟩, ⟨y4_⟩⟩
    case rest =>
     clear HC21
     try clear c1
     try clear c2
     try clear p2
     try clear c3
     try clear c4
     try clear c7
     try clear c8
     try clear c9
     try clear c13
     try clear c17
     try clear c24
     try clear c28
     try clear c28b0
     try clear c28b1
     try clear c30
     try clear c30b0
     try clear c30b1
     try clear c32
     try clear c33
     try clear c37
     try clear c41
     try clear hcz11_0
     try clear hcz11_1
     try clear hcz11_2
     try clear hcz11_3
     try clear hcz14_0
     try clear hcz14_1
     try clear hcz14_2
     try clear hcz14_3
     try clear hcz25_0
     try clear hcz25_1
     try clear hcz25_2
     try clear hcz25_3
     try clear hcz34_0
     try clear hcz34_1
     try clear hcz34_2
     try clear hcz34_3
     try clear hcz38_0
     try clear hcz38_1
     try clear hcz38_2
     try clear hcz38_3
     try clear hcz42_0
     try clear hcz42_1
     try clear hcz42_2
     try clear hcz42_3
     try clear hfz11_0
     try clear hfz11_1
     try clear hfz11_2
     try clear hfz11_3
     try clear hfz14_0
     try clear hfz14_1
     try clear hfz14_2
     try clear hfz14_3
     try clear hfz25_0
     try clear hfz25_1
     try clear hfz25_2
     try clear hfz25_3
     try clear hfz34_0
     try clear hfz34_1
     try clear hfz34_2
     try clear hfz34_3
     try clear hfz38_0
     try clear hfz38_1
     try clear hfz38_2
     try clear hfz38_3
     try clear hfz42_0
     try clear hfz42_1
     try clear hfz42_2
     try clear hfz42_3
     try clear p2
     obtain ⟨kq, HA, HJ20, HO_1, HO_624002, HO_624003, BK610, BK623, HB⟩ := hcut
     cases kq with
     | zero => exact absurd HA.out (by simp [manometerlaw13_RecordBack.j1])
     | succ kj20 =>
      have H := HA.out
      clear HA
      simp only [manometerlaw13_RecordBack.j1] at H
      replace H := Option.bind_eq_some_iff.mp H
      obtain ⟨⟨t629, t632⟩, A440, H⟩ := H
      replace H : ((record_Check.f kj20 a0_0 a0_1 l0_2 l0_3).bind fun t633 => (if t632 = t633 then (manometerlaw13_RecordBack.j2 kj20 l1 a2 t629 t632 (t632 != 0) a0_0 a0_1 l0_2 l0_3) else (manometerlaw13_RecordBack.j2 kj20 l1 a2 t629 t632 true a0_0 a0_1 l0_2 l0_3))) = some r := H
      have A44 := Aside0.mk A440
      clear A440
      have HC45 := Aside0.mk H
      clear H
      have hnb46 := NB610_623.out
      have hnc46 := NB623_610.out
      have hcz47_0 : wc.cell? ⟨gb610, 0, none⟩ = some (.int .i64 a0_0) := (blk_cell BK610.out 0).trans rfl
      have hcz47_1 : wc.cell? ⟨gb610, 1, none⟩ = some (.int .u32 a0_1) := (blk_cell BK610.out 1).trans rfl
      have hcz47_2 : wc.cell? ⟨gb610, 2, none⟩ = some (.slice A0_2 l0_2.length c0_2) := (blk_cell BK610.out 2).trans rfl
      have hcz47_3 : wc.cell? ⟨gb610, 3, none⟩ = some (.slice A0_3 l0_3.length c0_3) := (blk_cell BK610.out 3).trans rfl
      have hfz47_0 := blk_frozen BK610.out 0
      have hfz47_1 := blk_frozen BK610.out 1
      have hfz47_2 := blk_frozen BK610.out 2
      have hfz47_3 := blk_frozen BK610.out 3
      go_upto_region 9 with (first | ((with_reducible refine gate_callee (f := 13) rfl ?_); refine goesL_ (some 54) rfl rfl Tryd.func13 (by kernel_rfl) rfl #[.agg #[.int .i64 a0_0, .int .u32 a0_1, .slice A0_2 l0_2.length c0_2, .slice A0_3 l0_3.length c0_3]] rfl y3_ ?_; (with_reducible refine (record_Put.calls kj20 a0_0 a0_1 _ _ l0_2 _ _ l0_3 t629 t632 _ ?side1 ?side2 ?side3 ?side4 ?side5 A44.out).mono ?_); (case side1 => exact ⟨Tab_below hT.out y4_⟩); (case side2 => repeat (first | exact (Kd.C_below HR0_2.out HB.out) | (with_reducible refine Kd.C_alloc ?_ _) | (with_reducible refine Kd.C_drewN ?_ _) | (with_reducible refine Kd.C_drew ?_))); (case side3 => exact HC0_2.out); (case side4 => repeat (first | exact (Kd.C_below HR0_3.out HB.out) | (with_reducible refine Kd.C_alloc ?_ _) | (with_reducible refine Kd.C_drewN ?_ _) | (with_reducible refine Kd.C_drew ?_))); (case side5 => exact HC0_3.out); rintro e w48 ⟨v630, rfl, ho0, hb⟩; refine ⟨_, rfl, ?_⟩; have n0_ := Aside0.mk (Kd.V_elder' y20_ (Kd.R_base ho0) hb); have n1_ := Aside0.mk (Kd.R_below y12_ hb); have n2_ := Aside0.mk (Kd.R_below y11_ hb); have n3_ := Aside0.mk (Kd.R_lower (Kd.R_newM (M := fun k_ => (w.heap.size ≤ k_)) ho0 (below_size y4_) (fun k_ h_ => h_)) (below_size y4_)); have n4_ := Aside0.mk (blk_below (g := gb610) (o := .cells #[.int .i64 a0_0, .int .u32 a0_1, .slice A0_2 l0_2.length c0_2, .slice A0_3 l0_3.length c0_3] 29 (0, 0)) y6_ hb); have n5_ := Aside0.mk (blk_below (g := gb623) (o := .cells #[.int .i64 t614, .int .u32 t615, .slice Ao26 t616.length co26, .slice Ao27 t619.length co27] 29 (0, 0)) y9_ hb); have n6_ := Aside0.mk (below_step y4_ hb); clear HO_1; clear HO_624002; clear HO_624003; clear BK610; clear BK623; clear HB; have HO_1 := n0_; have HO_624002 := n1_; have HO_624003 := n2_; have HO631 := n3_; have BK610 := n4_; have BK623 := n5_; have HB := n6_; clear n0_ n1_ n2_ n3_ n4_ n5_ n6_; (try clear hb); (try clear hb2); (try clear hk); (try clear hi); (try clear ho0)))
      (try simp only [Act.put, List.setIfInBounds_toArray, List.set_cons_zero, List.set_cons_succ])
      go_cut [64] (fun v64 wc => ∃ (kq : Nat) (x64_44 : Bool), v64 = .bool x64_44 ∧ Aside0 (manometerlaw13_RecordBack.j2 kq l1 a2 t629 t632 x64_44 a0_0 a0_1 l0_2 l0_3 = some r) ∧ Aside0 (kq ≤ kj20) ∧ Aside0 (Kd.V (Kd.int .u8) 5 wc w.heap.size (fun k_ => (P1_ k_ ∨ w.heap.size ≤ k_) ∧ some k_ ≠ (v630 : Value).ownBlock ∧ some k_ ≠ ((.slice Ao26 t616.length co26) : Value).ownBlock ∧ some k_ ≠ ((.slice Ao27 t619.length co27) : Value).ownBlock ∧ k_ ≠ gb610 ∧ k_ ≠ gb623) (.slice A1 l1.length c1) l1) ∧ Aside0 (Kd.R (Kd.int .u8) 5 wc w.heap.size (fun k_ => (w.heap.size ≤ k_)) v630 t629) ∧ Aside0 (Kd.R k52 52 wc w.heap.size (fun k_ => (w.heap.size ≤ k_)) (.slice Ao26 t616.length co26) t616) ∧ Aside0 (Kd.R k45 45 wc w.heap.size (fun k_ => (w.heap.size ≤ k_)) (.slice Ao27 t619.length co27) t619) ∧ Aside0 (wc.heap[gb610]? = some (.cells #[.int .i64 a0_0, .int .u32 a0_1, (.slice A0_2 l0_2.length c0_2), (.slice A0_3 l0_3.length c0_3)] 29 (0, 0))) ∧ Aside0 (wc.heap[gb623]? = some (.cells #[.int .i64 t614, .int .u32 t615, (.slice Ao26 t616.length co26), (.slice Ao27 t619.length co27)] 29 (0, 0))) ∧ Aside0 (Below w.heap.size w wc))
      case first =>
       have H := HC45.out
       clear HC45
       replace H := Option.bind_eq_some_iff.mp H
       obtain ⟨t633, A490, H⟩ := H
       replace H : (if t632 = t633 then (manometerlaw13_RecordBack.j2 kj20 l1 a2 t629 t632 (t632 != 0) a0_0 a0_1 l0_2 l0_3) else (manometerlaw13_RecordBack.j2 kj20 l1 a2 t629 t632 true a0_0 a0_1 l0_2 l0_3)) = some r := H
       have A49 := Aside0.mk A490
       clear A490
       by_cases c50 : t632 = t633
       ·rw [if_pos c50] at H
        have c50b0 : (t632 == t633) = true := beq_iff_eq.mpr c50
        have c50b1 : (t632 != t633) = false := bne_eq_false_iff_eq.mpr c50
        clear c50
        (first | rw [c50b0] | (simp only [i64_w, i32_w]; rw [c50b0]) | skip)
        have H' := Aside0.mk H
        clear H
        have hnb51 := NB610_623.out
        have hnc51 := NB623_610.out
        have hcz52_0 : w48.cell? ⟨gb610, 0, none⟩ = some (.int .i64 a0_0) := (blk_cell BK610.out 0).trans rfl
        have hcz52_1 : w48.cell? ⟨gb610, 1, none⟩ = some (.int .u32 a0_1) := (blk_cell BK610.out 1).trans rfl
        have hcz52_2 : w48.cell? ⟨gb610, 2, none⟩ = some (.slice A0_2 l0_2.length c0_2) := (blk_cell BK610.out 2).trans rfl
        have hcz52_3 : w48.cell? ⟨gb610, 3, none⟩ = some (.slice A0_3 l0_3.length c0_3) := (blk_cell BK610.out 3).trans rfl
        have hfz52_0 := blk_frozen BK610.out 0
        have hfz52_1 := blk_frozen BK610.out 1
        have hfz52_2 := blk_frozen BK610.out 2
        have hfz52_3 := blk_frozen BK610.out 3
        go_wp2_with (first | ((with_reducible refine gate_callee (f := 16) rfl ?_); refine goesL_ (some 59) rfl rfl Tryd.func16 (by kernel_rfl) rfl #[.agg #[.int .i64 a0_0, .int .u32 a0_1, .slice A0_2 l0_2.length c0_2, .slice A0_3 l0_3.length c0_3]] rfl y3_ ?_; (with_reducible refine (record_Check.calls kj20 a0_0 a0_1 _ _ l0_2 _ _ l0_3 t633 _ ?side1 ?side2 ?side3 ?side4 ?side5 A49.out).mono ?_); (case side1 => exact ⟨Tab_below hT.out y4_⟩); (case side2 => repeat (first | exact (Kd.C_below HR0_2.out HB.out) | (with_reducible refine Kd.C_alloc ?_ _) | (with_reducible refine Kd.C_drewN ?_ _) | (with_reducible refine Kd.C_drew ?_))); (case side3 => exact HC0_2.out); (case side4 => repeat (first | exact (Kd.C_below HR0_3.out HB.out) | (with_reducible refine Kd.C_alloc ?_ _) | (with_reducible refine Kd.C_drewN ?_ _) | (with_reducible refine Kd.C_drew ?_))); (case side5 => exact HC0_3.out); rintro e w53 ⟨rfl, hb⟩; refine ⟨_, rfl, ?_⟩; have n0_ := Aside0.mk (Kd.V_below y20_ hb); have n1_ := Aside0.mk (Kd.R_below y12_ hb); have n2_ := Aside0.mk (Kd.R_below y11_ hb); have n3_ := Aside0.mk (Kd.R_below (by (with_reducible repeat (first | apply Kd.R_alloc | apply Kd.R_drewN | apply Kd.R_drew)); exact HO631.out) hb); have n4_ := Aside0.mk (blk_below (g := gb610) (o := .cells #[.int .i64 a0_0, .int .u32 a0_1, .slice A0_2 l0_2.length c0_2, .slice A0_3 l0_3.length c0_3] 29 (0, 0)) y6_ hb); have n5_ := Aside0.mk (blk_below (g := gb623) (o := .cells #[.int .i64 t614, .int .u32 t615, .slice Ao26 t616.length co26, .slice Ao27 t619.length co27] 29 (0, 0)) y9_ hb); have n6_ := Aside0.mk (below_step y4_ hb); clear HO_1; clear HO_624002; clear HO_624003; clear HO631; clear BK610; clear BK623; clear HB; have HO_1 := n0_; have HO_624002 := n1_; have HO_624003 := n2_; have HO631 := n3_; have BK610 := n4_; have BK623 := n5_; have HB := n6_; clear n0_ n1_ n2_ n3_ n4_ n5_ n6_; (try clear hb); (try clear hb2); (try clear hk); (try clear hi)))
        go_meet
        case rel => exact ⟨_, ((t632 != 0)), y15_, H', ⟨by have := HJ3.out; have := HJ20.out; first | omega | exact Nat.le_refl _⟩, ⟨y97_⟩, ⟨by (with_reducible repeat (first | apply Kd.R_alloc | apply Kd.R_drewN | apply Kd.R_drew)); exact Kd.R_mono HO631.out (fun _ hk => hk.1)⟩, ⟨y12_⟩, ⟨y11_⟩, ⟨y6_⟩, ⟨y9_⟩, ⟨y4_⟩⟩
       ·rw [if_neg c50] at H
        have c50b0 : (t632 == t633) = false := beq_eq_false_iff_ne.mpr c50
        have c50b1 : (t632 != t633) = true := bne_iff_ne.mpr c50
        (first | rw [c50b0] | (simp only [i64_w, i32_w]; rw [c50b0]) | skip)
        have H' := Aside0.mk H
        clear H
        have hnb54 := NB610_623.out
        have hnc54 := NB623_610.out
        have hcz55_0 : w48.cell? ⟨gb610, 0, none⟩ = some (.int .i64 a0_0) := (blk_cell BK610.out 0).trans rfl
        have hcz55_1 : w48.cell? ⟨gb610, 1, none⟩ = some (.int .u32 a0_1) := (blk_cell BK610.out 1).trans rfl
        have hcz55_2 : w48.cell? ⟨gb610, 2, none⟩ = some (.slice A0_2 l0_2.length c0_2) := (blk_cell BK610.out 2).trans rfl
        have hcz55_3 : w48.cell? ⟨gb610, 3, none⟩ = some (.slice A0_3 l0_3.length c0_3) := (blk_cell BK610.out 3).trans rfl
        have hfz55_0 := blk_frozen BK610.out 0
        have hfz55_1 := blk_frozen BK610.out 1
        have hfz55_2 := blk_frozen BK610.out 2
        have hfz55_3 := blk_frozen BK610.out 3
        go_wp2_with (first | ((with_reducible refine gate_callee (f := 16) rfl ?_); refine goesL_ (some 59) rfl rfl Tryd.func16 (by kernel_rfl) rfl #[.agg #[.int .i64 a0_0, .int .u32 a0_1, .slice A0_2 l0_2.length c0_2, .slice A0_3 l0_3.length c0_3]] rfl y3_ ?_; (with_reducible refine (record_Check.calls kj20 a0_0 a0_1 _ _ l0_2 _ _ l0_3 t633 _ ?side1 ?side2 ?side3 ?side4 ?side5 A49.out).mono ?_); (case side1 => exact ⟨Tab_below hT.out y4_⟩); (case side2 => repeat (first | exact (Kd.C_below HR0_2.out HB.out) | (with_reducible refine Kd.C_alloc ?_ _) | (with_reducible refine Kd.C_drewN ?_ _) | (with_reducible refine Kd.C_drew ?_))); (case side3 => exact HC0_2.out); (case side4 => repeat (first | exact (Kd.C_below HR0_3.out HB.out) | (with_reducible refine Kd.C_alloc ?_ _) | (with_reducible refine Kd.C_drewN ?_ _) | (with_reducible refine Kd.C_drew ?_))); (case side5 => exact HC0_3.out); rintro e w56 ⟨rfl, hb⟩; refine ⟨_, rfl, ?_⟩; have n0_ := Aside0.mk (Kd.V_below y20_ hb); have n1_ := Aside0.mk (Kd.R_below y12_ hb); have n2_ := Aside0.mk (Kd.R_below y11_ hb); have n3_ := Aside0.mk (Kd.R_below (by (with_reducible repeat (first | apply Kd.R_alloc | apply Kd.R_drewN | apply Kd.R_drew)); exact HO631.out) hb); have n4_ := Aside0.mk (blk_below (g := gb610) (o := .cells #[.int .i64 a0_0, .int .u32 a0_1, .slice A0_2 l0_2.length c0_2, .slice A0_3 l0_3.length c0_3] 29 (0, 0)) y6_ hb); have n5_ := Aside0.mk (blk_below (g := gb623) (o := .cells #[.int .i64 t614, .int .u32 t615, .slice Ao26 t616.length co26, .slice Ao27 t619.length co27] 29 (0, 0)) y9_ hb); have n6_ := Aside0.mk (below_step y4_ hb); clear HO_1; clear HO_624002; clear HO_624003; clear HO631; clear BK610; clear BK623; clear HB; have HO_1 := n0_; have HO_624002 := n1_; have HO_624003 := n2_; have HO631 := n3_; have BK610 := n4_; have BK623 := n5_; have HB := n6_; clear n0_ n1_ n2_ n3_ n4_ n5_ n6_; (try clear hb); (try clear hb2); (try clear hk); (try clear hi)))
        go_meet
        case rel => exact ⟨_, (true), y15_, H', ⟨by have := HJ3.out; have := HJ20.out; first | omega | exact Nat.le_refl _⟩, ⟨y97_⟩, ⟨by (with_reducible repeat (first | apply Kd.R_alloc | apply Kd.R_drewN | apply Kd.R_drew)); exact Kd.R_mono HO631.out (fun _ hk => hk.1)⟩, ⟨y12_⟩, ⟨y11_⟩, ⟨y6_⟩, ⟨y9_⟩, ⟨y4_⟩⟩
      case rest =>
       clear HC45
       try clear c1
       try clear c2
       try clear p2
       try clear c3
       try clear c4
       try clear c5
       try clear c7
       try clear c8
       try clear c9
       try clear c13
       try clear c16
       try clear c17
       try clear c24
       try clear c28
       try clear c28b0
       try clear c28b1
       try clear c30
       try clear c30b0
       try clear c30b1
       try clear c32
       try clear c33
       try clear c37
       try clear c41
       try clear c46
       try clear c50
       try clear c50b0
       try clear c50b1
       try clear c51
       try clear c54
       try clear hcz11_0
       try clear hcz11_1
       try clear hcz11_2
       try clear hcz11_3
       try clear hcz14_0
       try clear hcz14_1
       try clear hcz14_2
       try clear hcz14_3
       try clear hcz25_0
       try clear hcz25_1
       try clear hcz25_2
       try clear hcz25_3
       try clear hcz34_0
       try clear hcz34_1
       try clear hcz34_2
       try clear hcz34_3
       try clear hcz38_0
       try clear hcz38_1
       try clear hcz38_2
       try clear hcz38_3
       try clear hcz42_0
       try clear hcz42_1
       try clear hcz42_2
       try clear hcz42_3
       try clear hcz47_0
       try clear hcz47_1
       try clear hcz47_2
       try clear hcz47_3
       try clear hcz52_0
       try clear hcz52_1
       try clear hcz52_2
       try clear hcz52_3
       try clear hcz55_0
       try clear hcz55_1
       try clear hcz55_2
       try clear hcz55_3
       try clear hfz11_0
       try clear hfz11_1
       try clear hfz11_2
       try clear hfz11_3
       try clear hfz14_0
       try clear hfz14_1
       try clear hfz14_2
       try clear hfz14_3
       try clear hfz25_0
       try clear hfz25_1
       try clear hfz25_2
       try clear hfz25_3
       try clear hfz34_0
       try clear hfz34_1
       try clear hfz34_2
       try clear hfz34_3
       try clear hfz38_0
       try clear hfz38_1
       try clear hfz38_2
       try clear hfz38_3
       try clear hfz42_0
       try clear hfz42_1
       try clear hfz42_2
       try clear hfz42_3
       try clear hfz47_0
       try clear hfz47_1
       try clear hfz47_2
       try clear hfz47_3
       try clear hfz52_0
       try clear hfz52_1
       try clear hfz52_2
       try clear hfz52_3
       try clear hfz55_0
       try clear hfz55_1
       try clear hfz55_2
       try clear hfz55_3
       try clear p2
       obtain ⟨kq, x64_44, rfl, HA, HJ44, HO_1, HO_11, HO_624002, HO_624003, BK610, BK623, HB⟩ := hcut
       cases kq with
       | zero => exact absurd HA.out (by simp [manometerlaw13_RecordBack.j2])
       | succ kj44 =>
        have H := HA.out
        clear HA
        simp only [manometerlaw13_RecordBack.j2] at H
        by_cases c57 : x64_44 = true
        ·subst c57
         have H1 : ((record_Check.f kj44 a0_0 a0_1 l0_2 l0_3).bind fun t634 => (if t632 = t634 then (some ((t629.length : Int) == 0)) else (some false))) = some r := by rw [if_pos rfl] at H; exact H
         clear H
         have H := H1
         clear H1
         replace H := Option.bind_eq_some_iff.mp H
         obtain ⟨t634, A580, H⟩ := H
         replace H : (if t632 = t634 then (some ((t629.length : Int) == 0)) else (some false)) = some r := H
         have A58 := Aside0.mk A580
         clear A580
         by_cases c59 : t632 = t634
         ·rw [if_pos c59] at H
          have c59b0 : (t632 == t634) = true := beq_iff_eq.mpr c59
          have c59b1 : (t632 != t634) = false := bne_eq_false_iff_eq.mpr c59
          clear c59
          obtain rfl := Option.some.inj H
          have hnb60 := NB610_623.out
          have hnc60 := NB623_610.out
          have hcz61_0 : wc.cell? ⟨gb610, 0, none⟩ = some (.int .i64 a0_0) := (blk_cell BK610.out 0).trans rfl
          have hcz61_1 : wc.cell? ⟨gb610, 1, none⟩ = some (.int .u32 a0_1) := (blk_cell BK610.out 1).trans rfl
          have hcz61_2 : wc.cell? ⟨gb610, 2, none⟩ = some (.slice A0_2 l0_2.length c0_2) := (blk_cell BK610.out 2).trans rfl
          have hcz61_3 : wc.cell? ⟨gb610, 3, none⟩ = some (.slice A0_3 l0_3.length c0_3) := (blk_cell BK610.out 3).trans rfl
          have hfz61_0 := blk_frozen BK610.out 0
          have hfz61_1 := blk_frozen BK610.out 1
          have hfz61_2 := blk_frozen BK610.out 2
          have hfz61_3 := blk_frozen BK610.out 3
          go_wp2_with (first | ((with_reducible refine gate_callee (f := 16) rfl ?_); refine goesL_ (some 67) rfl rfl Tryd.func16 (by kernel_rfl) rfl #[.agg #[.int .i64 a0_0, .int .u32 a0_1, .slice A0_2 l0_2.length c0_2, .slice A0_3 l0_3.length c0_3]] rfl y3_ ?_; (with_reducible refine (record_Check.calls kj44 a0_0 a0_1 _ _ l0_2 _ _ l0_3 t634 _ ?side1 ?side2 ?side3 ?side4 ?side5 A58.out).mono ?_); (case side1 => exact ⟨Tab_below hT.out y4_⟩); (case side2 => repeat (first | exact (Kd.C_below HR0_2.out HB.out) | (with_reducible refine Kd.C_alloc ?_ _) | (with_reducible refine Kd.C_drewN ?_ _) | (with_reducible refine Kd.C_drew ?_))); (case side3 => exact HC0_2.out); (case side4 => repeat (first | exact (Kd.C_below HR0_3.out HB.out) | (with_reducible refine Kd.C_alloc ?_ _) | (with_reducible refine Kd.C_drewN ?_ _) | (with_reducible refine Kd.C_drew ?_))); (case side5 => exact HC0_3.out); rintro e w62 ⟨rfl, hb⟩; refine ⟨_, rfl, ?_⟩; have n0_ := Aside0.mk (Kd.V_below y20_ hb); have n1_ := Aside0.mk (Kd.R_below y61_ hb); have n2_ := Aside0.mk (Kd.R_below y12_ hb); have n3_ := Aside0.mk (Kd.R_below y11_ hb); have n4_ := Aside0.mk (blk_below (g := gb610) (o := .cells #[.int .i64 a0_0, .int .u32 a0_1, .slice A0_2 l0_2.length c0_2, .slice A0_3 l0_3.length c0_3] 29 (0, 0)) y6_ hb); have n5_ := Aside0.mk (blk_below (g := gb623) (o := .cells #[.int .i64 t614, .int .u32 t615, .slice Ao26 t616.length co26, .slice Ao27 t619.length co27] 29 (0, 0)) y9_ hb); have n6_ := Aside0.mk (below_step y4_ hb); clear HO_1; clear HO_11; clear HO_624002; clear HO_624003; clear BK610; clear BK623; clear HB; have HO_1 := n0_; have HO_11 := n1_; have HO_624002 := n2_; have HO_624003 := n3_; have BK610 := n4_; have BK623 := n5_; have HB := n6_; clear n0_ n1_ n2_ n3_ n4_ n5_ n6_; (try clear hb); (try clear hb2); (try clear hk); (try clear hi); obtain ⟨Ao63, co63, eo63⟩ := Kd.R_slice HO_11.out; subst eo63))
          go_ret
          exact ⟨y8_, y4_⟩
         ·rw [if_neg c59] at H
          have c59b0 : (t632 == t634) = false := beq_eq_false_iff_ne.mpr c59
          have c59b1 : (t632 != t634) = true := bne_iff_ne.mpr c59
          obtain rfl := Option.some.inj H
          have hnb64 := NB610_623.out
          have hnc64 := NB623_610.out
          have hcz65_0 : wc.cell? ⟨gb610, 0, none⟩ = some (.int .i64 a0_0) := (blk_cell BK610.out 0).trans rfl
          have hcz65_1 : wc.cell? ⟨gb610, 1, none⟩ = some (.int .u32 a0_1) := (blk_cell BK610.out 1).trans rfl
          have hcz65_2 : wc.cell? ⟨gb610, 2, none⟩ = some (.slice A0_2 l0_2.length c0_2) := (blk_cell BK610.out 2).trans rfl
          have hcz65_3 : wc.cell? ⟨gb610, 3, none⟩ = some (.slice A0_3 l0_3.length c0_3) := (blk_cell BK610.out 3).trans rfl
          have hfz65_0 := blk_frozen BK610.out 0
          have hfz65_1 := blk_frozen BK610.out 1
          have hfz65_2 := blk_frozen BK610.out 2
          have hfz65_3 := blk_frozen BK610.out 3
          go_wp2_with (first | ((with_reducible refine gate_callee (f := 16) rfl ?_); refine goesL_ (some 67) rfl rfl Tryd.func16 (by kernel_rfl) rfl #[.agg #[.int .i64 a0_0, .int .u32 a0_1, .slice A0_2 l0_2.length c0_2, .slice A0_3 l0_3.length c0_3]] rfl y3_ ?_; (with_reducible refine (record_Check.calls kj44 a0_0 a0_1 _ _ l0_2 _ _ l0_3 t634 _ ?side1 ?side2 ?side3 ?side4 ?side5 A58.out).mono ?_); (case side1 => exact ⟨Tab_below hT.out y4_⟩); (case side2 => repeat (first | exact (Kd.C_below HR0_2.out HB.out) | (with_reducible refine Kd.C_alloc ?_ _) | (with_reducible refine Kd.C_drewN ?_ _) | (with_reducible refine Kd.C_drew ?_))); (case side3 => exact HC0_2.out); (case side4 => repeat (first | exact (Kd.C_below HR0_3.out HB.out) | (with_reducible refine Kd.C_alloc ?_ _) | (with_reducible refine Kd.C_drewN ?_ _) | (with_reducible refine Kd.C_drew ?_))); (case side5 => exact HC0_3.out); rintro e w66 ⟨rfl, hb⟩; refine ⟨_, rfl, ?_⟩; have n0_ := Aside0.mk (Kd.V_below y20_ hb); have n1_ := Aside0.mk (Kd.R_below y61_ hb); have n2_ := Aside0.mk (Kd.R_below y12_ hb); have n3_ := Aside0.mk (Kd.R_below y11_ hb); have n4_ := Aside0.mk (blk_below (g := gb610) (o := .cells #[.int .i64 a0_0, .int .u32 a0_1, .slice A0_2 l0_2.length c0_2, .slice A0_3 l0_3.length c0_3] 29 (0, 0)) y6_ hb); have n5_ := Aside0.mk (blk_below (g := gb623) (o := .cells #[.int .i64 t614, .int .u32 t615, .slice Ao26 t616.length co26, .slice Ao27 t619.length co27] 29 (0, 0)) y9_ hb); have n6_ := Aside0.mk (below_step y4_ hb); clear HO_1; clear HO_11; clear HO_624002; clear HO_624003; clear BK610; clear BK623; clear HB; have HO_1 := n0_; have HO_11 := n1_; have HO_624002 := n2_; have HO_624003 := n3_; have BK610 := n4_; have BK623 := n5_; have HB := n6_; clear n0_ n1_ n2_ n3_ n4_ n5_ n6_; (try clear hb); (try clear hb2); (try clear hk); (try clear hi)))
          go_ret
          exact ⟨y8_, y4_⟩
        ·replace c57 := Bool.eq_false_iff.mpr c57
         subst c57
         have H1 : ((record_Take.f kj44 t629).bind fun bt635 => (if bt635.2.2.2.2 = 0 then ((record_Same.f kj44 a0_0 a0_1 l0_2 l0_3 bt635.1 bt635.2.1 bt635.2.2.1 bt635.2.2.2.1).bind fun t645 => (manometerlaw13_RecordBack.j3 kj44 l1 a2 t629 (!t645))) else (manometerlaw13_RecordBack.j3 kj44 l1 a2 t629 true))) = some r := by rw [if_neg (show ¬ (false = true) by decide)] at H; exact H
         clear H
         have H := H1
         clear H1
         replace H := Option.bind_eq_some_iff.mp H
         obtain ⟨⟨t635, t636, t637, t640, t643⟩, A670, H⟩ := H
         replace H : (if t643 = 0 then ((record_Same.f kj44 a0_0 a0_1 l0_2 l0_3 t635 t636 t637 t640).bind fun t645 => (manometerlaw13_RecordBack.j3 kj44 l1 a2 t629 (!t645))) else (manometerlaw13_RecordBack.j3 kj44 l1 a2 t629 true)) = some r := H
         have A67 := Aside0.mk A670
         clear A670
         have HC68 := Aside0.mk H
         clear H
         obtain ⟨Ao69, co69, eo69⟩ := Kd.R_slice HO_11.out
         subst eo69
         go_upto_region 12 with (first | ((with_reducible refine gate_callee (f := 9) rfl ?_); refine goesL_ (some 76) rfl rfl Tryd.func9 (by kernel_rfl) rfl #[.slice Ao69 t629.length co69] rfl y3_ ?_; (with_reducible refine (record_Take.calls kj44 _ _ t629 t635 t636 t637 t640 t643 _ ?side1 ?side2 ?side3 A67.out).mono ?_); (case side1 => exact ⟨Tab_below hT.out y4_⟩); (case side2 => repeat (first | exact (Kd.R_reads' HO_11.out).2.2 | (with_reducible refine Kd.C_alloc ?_ _) | (with_reducible refine Kd.C_drewN ?_ _) | (with_reducible refine Kd.C_drew ?_))); (case side3 => exact (Kd.R_reads' HO_11.out).2.1); rintro e w70 ⟨v638, v641, rfl, ho0, ho1, hb⟩; refine ⟨_, rfl, ?_⟩; have n0_ := Aside0.mk (Kd.V_mono (Kd.V_told (Kd.V_told (Kd.V_old y20_ hb) (Kd.R_base ho0)) (Kd.R_base ho1)) (fun _ h_ => h_.1)); have n1_ := Aside0.mk (Kd.R_below y61_ hb); have n2_ := Aside0.mk (Kd.R_elder' y12_ (Kd.R_base ho0) hb); have n3_ := Aside0.mk (Kd.R_elder' y11_ (Kd.R_base ho1) hb); have n4_ := Aside0.mk (Kd.R_lower (Kd.R_new' (Kd.R_newM (M := fun k_ => (w.heap.size ≤ k_)) ho0 (below_size y4_) (fun k_ h_ => h_)) (Kd.R_lt y12_)) (below_size y4_)); have n5_ := Aside0.mk (Kd.R_lower (Kd.R_new' (Kd.R_newM (M := fun k_ => (w.heap.size ≤ k_)) ho1 (below_size y4_) (fun k_ h_ => h_)) (Kd.R_lt y11_)) (below_size y4_)); have n6_ := Aside0.mk (blk_below (g := gb610) (o := .cells #[.int .i64 a0_0, .int .u32 a0_1, .slice A0_2 l0_2.length c0_2, .slice A0_3 l0_3.length c0_3] 29 (0, 0)) y6_ hb); have n7_ := Aside0.mk (blk_below (g := gb623) (o := .cells #[.int .i64 t614, .int .u32 t615, .slice Ao26 t616.length co26, .slice Ao27 t619.length co27] 29 (0, 0)) y9_ hb); have n8_ := Aside0.mk (below_step y4_ hb); clear HO_1; clear HO_11; clear HO_624002; clear HO_624003; clear BK610; clear BK623; clear HB; have HO_1 := n0_; have HO_11 := n1_; have HO_624002 := n2_; have HO_624003 := n3_; have HO639 := n4_; have HO642 := n5_; have BK610 := n6_; have BK623 := n7_; have HB := n8_; clear n0_ n1_ n2_ n3_ n4_ n5_ n6_ n7_ n8_; (try clear hb); (try clear hb2); (try clear hk); (try clear hi); (try clear ho0); (try clear ho1)) | ((with_reducible refine gate_dst (N := 13) rfl ?_); (try (refine gate_guard (by rfl) ?_; dsimp only)); refine box_event ?hg (N := 13) ?hd (cs := #[.int .i64 0, .int .u32 0, .slice none 0 0, .slice none 0 0]) (t := 29) ?hr ?_; (case hd => rfl); (case hg => rfl); (case hr => first | (go_simp; done) | (go_simp; rfl)); intro gb644 hg w71 hbox hb; have n0_ := Aside0.mk (Kd.V_below (Kd.V_elderB y20_ gb644 (Nat.le_of_eq hg.symm)) hb); have n1_ := Aside0.mk (Kd.R_below y61_ hb); have n2_ := Aside0.mk (Kd.R_below y12_ hb); have n3_ := Aside0.mk (Kd.R_below y11_ hb); have n4_ := Aside0.mk (Kd.R_below (by (with_reducible repeat (first | apply Kd.R_alloc | apply Kd.R_drewN | apply Kd.R_drew)); exact HO639.out) hb); have n5_ := Aside0.mk (Kd.R_below (by (with_reducible repeat (first | apply Kd.R_alloc | apply Kd.R_drewN | apply Kd.R_drew)); exact HO642.out) hb); have n6_ := Aside0.mk (blk_below (g := gb610) (o := .cells #[.int .i64 a0_0, .int .u32 a0_1, .slice A0_2 l0_2.length c0_2, .slice A0_3 l0_3.length c0_3] 29 (0, 0)) y6_ hb); have n7_ := Aside0.mk (blk_below (g := gb623) (o := .cells #[.int .i64 t614, .int .u32 t615, .slice Ao26 t616.length co26, .slice Ao27 t619.length co27] 29 (0, 0)) y9_ hb); have n8_ := Aside0.mk (below_step y4_ hb); have n9_ := Aside0.mk (hbox); have n10_ := Aside0.mk ((by rw [hg]; exact (below_size y4_) : w.heap.size ≤ gb644)); have n11_ := Aside0.mk ((by rw [hg]; exact (below_size y4_) : w.heap.size ≤ gb644)); have n12_ := Aside0.mk ((y44_ : gb610 ≠ gb644)); have n13_ := Aside0.mk ((y45_ : gb644 ≠ gb610)); have n14_ := Aside0.mk ((y48_ : gb623 ≠ gb644)); have n15_ := Aside0.mk ((y49_ : gb644 ≠ gb623)); clear HO_1; clear HO_11; clear HO_624002; clear HO_624003; clear HO639; clear HO642; clear BK610; clear BK623; clear HB; have HO_1 := n0_; have HO_11 := n1_; have HO_624002 := n2_; have HO_624003 := n3_; have HO639 := n4_; have HO642 := n5_; have BK610 := n6_; have BK623 := n7_; have HB := n8_; have BK644 := n9_; have GW644 := n10_; have GE644 := n11_; have NB610_644 := n12_; have NB644_610 := n13_; have NB623_644 := n14_; have NB644_623 := n15_; clear n0_ n1_ n2_ n3_ n4_ n5_ n6_ n7_ n8_ n9_ n10_ n11_ n12_ n13_ n14_ n15_; clear hb hbox hg; have hnb72 := NB644_610.out; have hnc72 := NB610_644.out; have hnb73 := NB644_623.out; have hnc73 := NB623_644.out; have hcz74_0 : w71.cell? ⟨gb644, 0, none⟩ = some (.int .i64 0) := (blk_cell BK644.out 0).trans rfl; have hcz74_1 : w71.cell? ⟨gb644, 1, none⟩ = some (.int .u32 0) := (blk_cell BK644.out 1).trans rfl; have hcz74_2 : w71.cell? ⟨gb644, 2, none⟩ = some (.slice none 0 0) := (blk_cell BK644.out 2).trans rfl; have hcz74_3 : w71.cell? ⟨gb644, 3, none⟩ = some (.slice none 0 0) := (blk_cell BK644.out 3).trans rfl; have hfz74_0 := blk_frozen BK644.out 0; have hfz74_1 := blk_frozen BK644.out 1; have hfz74_2 := blk_frozen BK644.out 2; have hfz74_3 := blk_frozen BK644.out 3; obtain ⟨Ao75, co75, eo75⟩ := Kd.R_slice HO639.out; subst eo75; obtain ⟨Ao76, co76, eo76⟩ := Kd.R_slice HO642.out; subst eo76))
         (try simp only [Act.put, List.setIfInBounds_toArray, List.set_cons_zero, List.set_cons_succ])
         go_cut [86] (fun v86 wc => ∃ (kq : Nat) (x86_67 : Bool), v86 = .bool x86_67 ∧ Aside0 (manometerlaw13_RecordBack.j3 kq l1 a2 t629 x86_67 = some r) ∧ Aside0 (kq ≤ kj44) ∧ Aside0 (Kd.V (Kd.int .u8) 5 wc w.heap.size (fun k_ => (P1_ k_ ∨ w.heap.size ≤ k_) ∧ some k_ ≠ ((.slice Ao69 t629.length co69) : Value).ownBlock ∧ some k_ ≠ ((.slice Ao26 t616.length co26) : Value).ownBlock ∧ some k_ ≠ ((.slice Ao27 t619.length co27) : Value).ownBlock ∧ some k_ ≠ ((.slice Ao75 t637.length co75) : Value).ownBlock ∧ some k_ ≠ ((.slice Ao76 t640.length co76) : Value).ownBlock ∧ k_ ≠ gb610 ∧ k_ ≠ gb623 ∧ k_ ≠ gb644) (.slice A1 l1.length c1) l1) ∧ Aside0 (Kd.R (Kd.int .u8) 5 wc w.heap.size (fun k_ => (w.heap.size ≤ k_)) (.slice Ao69 t629.length co69) t629) ∧ Aside0 (Kd.R k52 52 wc w.heap.size (fun k_ => (w.heap.size ≤ k_) ∧ some k_ ≠ ((.slice Ao75 t637.length co75) : Value).ownBlock) (.slice Ao26 t616.length co26) t616) ∧ Aside0 (Kd.R k45 45 wc w.heap.size (fun k_ => (w.heap.size ≤ k_) ∧ some k_ ≠ ((.slice Ao76 t640.length co76) : Value).ownBlock) (.slice Ao27 t619.length co27) t619) ∧ Aside0 (Kd.R k52 52 wc w.heap.size (fun k_ => (w.heap.size ≤ k_) ∧ some k_ ≠ ((.slice Ao26 t616.length co26) : Value).ownBlock) (.slice Ao75 t637.length co75) t637) ∧ Aside0 (Kd.R k45 45 wc w.heap.size (fun k_ => (w.heap.size ≤ k_) ∧ some k_ ≠ ((.slice Ao27 t619.length co27) : Value).ownBlock) (.slice Ao76 t640.length co76) t640) ∧ Aside0 (wc.heap[gb610]? = some (.cells #[.int .i64 a0_0, .int .u32 a0_1, (.slice A0_2 l0_2.length c0_2), (.slice A0_3 l0_3.length c0_3)] 29 (0, 0))) ∧ Aside0 (wc.heap[gb623]? = some (.cells #[.int .i64 t614, .int .u32 t615, (.slice Ao26 t616.length co26), (.slice Ao27 t619.length co27)] 29 (0, 0))) ∧ Aside0 (wc.heap[gb644]? = some (.cells #[.int .i64 t635, .int .u32 t636, (.slice Ao75 t637.length co75), (.slice Ao76 t640.length co76)] 29 (0, 0))) ∧ Aside0 (Below w.heap.size w wc))
         case first =>
          have H := HC68.out
          clear HC68
          by_cases c77 : t643 = 0
          ·rw [if_pos c77] at H
           have c77b0 : (t643 == 0) = true := beq_iff_eq.mpr c77
           have c77b1 : (t643 != 0) = false := bne_eq_false_iff_eq.mpr c77
           clear c77
           (first | rw [c77b0] | (simp only [i64_w, i32_w]; rw [c77b0]) | skip)
           replace H := Option.bind_eq_some_iff.mp H
           obtain ⟨t645, A780, H⟩ := H
           replace H : (manometerlaw13_RecordBack.j3 kj44 l1 a2 t629 (!t645)) = some r := H
           have A78 := Aside0.mk A780
           clear A780
           have H' := Aside0.mk H
           clear H
           have hnb79 := NB610_623.out
           have hnc79 := NB623_610.out
           have hnb80 := NB610_644.out
           have hnc80 := NB644_610.out
           have hcz81_0 : w71.cell? ⟨gb610, 0, none⟩ = some (.int .i64 a0_0) := (blk_cell BK610.out 0).trans rfl
           have hcz81_1 : w71.cell? ⟨gb610, 1, none⟩ = some (.int .u32 a0_1) := (blk_cell BK610.out 1).trans rfl
           have hcz81_2 : w71.cell? ⟨gb610, 2, none⟩ = some (.slice A0_2 l0_2.length c0_2) := (blk_cell BK610.out 2).trans rfl
           have hcz81_3 : w71.cell? ⟨gb610, 3, none⟩ = some (.slice A0_3 l0_3.length c0_3) := (blk_cell BK610.out 3).trans rfl
           have hfz81_0 := blk_frozen BK610.out 0
           have hfz81_1 := blk_frozen BK610.out 1
           have hfz81_2 := blk_frozen BK610.out 2
           have hfz81_3 := blk_frozen BK610.out 3
           have hnb82 := NB644_623.out
           have hnc82 := NB623_644.out
           have hcz83_0 : w71.cell? ⟨gb644, 0, none⟩ = some (.int .i64 0) := (blk_cell BK644.out 0).trans rfl
           have hcz83_1 : w71.cell? ⟨gb644, 1, none⟩ = some (.int .u32 0) := (blk_cell BK644.out 1).trans rfl
           have hcz83_2 : w71.cell? ⟨gb644, 2, none⟩ = some (.slice none 0 0) := (blk_cell BK644.out 2).trans rfl
           have hcz83_3 : w71.cell? ⟨gb644, 3, none⟩ = some (.slice none 0 0) := (blk_cell BK644.out 3).trans rfl
           have hfz83_0 := blk_frozen BK644.out 0
           have hfz83_1 := blk_frozen BK644.out 1
           have hfz83_2 := blk_frozen BK644.out 2
           have hfz83_3 := blk_frozen BK644.out 3
           go_wp2_with (first | (go_at_call 19; (with_reducible refine (record_Same.calls kj44 a0_0 a0_1 _ _ l0_2 _ _ l0_3 t635 t636 _ _ t637 _ _ t640 t645 _ ?side1 ?side2 ?side3 ?side4 ?side5 ?side6 ?side7 ?side8 A78.out).mono ?_); (case side1 => exact Kd.C_below HR0_2.out y2_); (case side2 => exact HC0_2.out); (case side3 => exact Kd.C_below HR0_3.out y2_); (case side4 => exact HC0_3.out); (case side5 => refine (Kd.R_reads' (e := 52) (base := w.heap.size) (ok := fun k_ => (((w.heap.size ≤ k_) ∧ True) ∧ some k_ ≠ (.slice Ao26 t616.length co26 : Value).ownBlock)) (n := t637.length) (c := co75) ?_).2.2; exact y69_); (case side6 => exact (Kd.R_reads' HO639.out).2.1); (case side7 => refine (Kd.R_reads' (e := 45) (base := w.heap.size) (ok := fun k_ => (((w.heap.size ≤ k_) ∧ True) ∧ some k_ ≠ (.slice Ao27 t619.length co27 : Value).ownBlock)) (n := t640.length) (c := co76) ?_).2.2; exact y68_); (case side8 => exact (Kd.R_reads' HO642.out).2.1); rintro e w84 ⟨rfl, hb⟩; have n0_ := Aside0.mk (Kd.V_below (by (with_reducible repeat (first | apply Kd.V_alloc | apply Kd.V_drewN | apply Kd.V_drew)); exact (Kd.V_mono (Kd.V_far (p := ⟨gb644, 3, none⟩) (Kd.V_far (p := ⟨gb644, 2, none⟩) (Kd.V_far (p := ⟨gb644, 1, none⟩) (Kd.V_far (p := ⟨gb644, 0, none⟩) (Kd.V_mono HO_1.out (fun k_ hk => (⟨hk, hk.2⟩ : _ ∧ k_ ≠ gb644))) (fun _ hk => hk.2) (.int .i64 t635)) (fun _ hk => hk.2) (.int .u32 t636)) (fun _ hk => hk.2) (.slice Ao75 t637.length co75)) (fun _ hk => hk.2) (.slice Ao76 t640.length co76)) (fun _ h_ => h_.1))) hb); have n1_ := Aside0.mk (Kd.R_below (by (with_reducible repeat (first | apply Kd.R_alloc | apply Kd.R_drewN | apply Kd.R_drew)); exact (Kd.R_mono (Kd.R_far (p := ⟨gb644, 3, none⟩) (Kd.R_far (p := ⟨gb644, 2, none⟩) (Kd.R_far (p := ⟨gb644, 1, none⟩) (Kd.R_far (p := ⟨gb644, 0, none⟩) (Kd.R_types HO_11.out BK644.out (by decide)) (fun _ hk => hk.2) (.int .i64 t635)) (fun _ hk => hk.2) (.int .u32 t636)) (fun _ hk => hk.2) (.slice Ao75 t637.length co75)) (fun _ hk => hk.2) (.slice Ao76 t640.length co76)) (fun _ h_ => h_.1))) hb); have n2_ := Aside0.mk (Kd.R_below (by (with_reducible repeat (first | apply Kd.R_alloc | apply Kd.R_drewN | apply Kd.R_drew)); exact (Kd.R_mono (Kd.R_far (p := ⟨gb644, 3, none⟩) (Kd.R_far (p := ⟨gb644, 2, none⟩) (Kd.R_far (p := ⟨gb644, 1, none⟩) (Kd.R_far (p := ⟨gb644, 0, none⟩) (Kd.R_types HO_624002.out BK644.out (by decide)) (fun _ hk => hk.2) (.int .i64 t635)) (fun _ hk => hk.2) (.int .u32 t636)) (fun _ hk => hk.2) (.slice Ao75 t637.length co75)) (fun _ hk => hk.2) (.slice Ao76 t640.length co76)) (fun _ h_ => h_.1))) hb); have n3_ := Aside0.mk (Kd.R_below (by (with_reducible repeat (first | apply Kd.R_alloc | apply Kd.R_drewN | apply Kd.R_drew)); exact (Kd.R_mono (Kd.R_far (p := ⟨gb644, 3, none⟩) (Kd.R_far (p := ⟨gb644, 2, none⟩) (Kd.R_far (p := ⟨gb644, 1, none⟩) (Kd.R_far (p := ⟨gb644, 0, none⟩) (Kd.R_types HO_624003.out BK644.out (by decide)) (fun _ hk => hk.2) (.int .i64 t635)) (fun _ hk => hk.2) (.int .u32 t636)) (fun _ hk => hk.2) (.slice Ao75 t637.length co75)) (fun _ hk => hk.2) (.slice Ao76 t640.length co76)) (fun _ h_ => h_.1))) hb); have n4_ := Aside0.mk (Kd.R_below y69_ hb); have n5_ := Aside0.mk (Kd.R_below y68_ hb); have n6_ := Aside0.mk (blk_below (g := gb610) (o := .cells #[.int .i64 a0_0, .int .u32 a0_1, .slice A0_2 l0_2.length c0_2, .slice A0_3 l0_3.length c0_3] 29 (0, 0)) y60_ hb); have n7_ := Aside0.mk (blk_below (g := gb623) (o := .cells #[.int .i64 t614, .int .u32 t615, .slice Ao26 t616.length co26, .slice Ao27 t619.length co27] 29 (0, 0)) y59_ hb); have n8_ := Aside0.mk (blk_below (g := gb644) (o := .cells #[.int .i64 t635, .int .u32 t636, .slice Ao75 t637.length co75, .slice Ao76 t640.length co76] 29 (0, 0)) y50_ hb); have n9_ := Aside0.mk (below_step y2_ hb); clear HO_1; clear HO_11; clear HO_624002; clear HO_624003; clear HO639; clear HO642; clear BK610; clear BK623; clear BK644; clear HB; have HO_1 := n0_; have HO_11 := n1_; have HO_624002 := n2_; have HO_624003 := n3_; have HO639 := n4_; have HO642 := n5_; have BK610 := n6_; have BK623 := n7_; have BK644 := n8_; have HB := n9_; clear n0_ n1_ n2_ n3_ n4_ n5_ n6_ n7_ n8_ n9_; (try clear hb); (try clear hb2); (try clear hk); (try clear hi)))
           go_meet
           case rel => exact ⟨_, (!t645), y15_, H', ⟨by have := HJ3.out; have := HJ20.out; have := HJ44.out; first | omega | exact Nat.le_refl _⟩, ⟨by (with_reducible repeat (first | apply Kd.V_alloc | apply Kd.V_drewN | apply Kd.V_drew)); exact Kd.V_mono HO_1.out (fun _ hk => ⟨hk.1.1.1.1, ⟨hk.1.1.1.2.1, ⟨hk.1.1.1.2.2.1, ⟨hk.1.1.1.2.2.2.1, ⟨hk.1.1.2, ⟨hk.1.2, ⟨hk.1.1.1.2.2.2.2.1, ⟨hk.1.1.1.2.2.2.2.2, hk.2⟩⟩⟩⟩⟩⟩⟩⟩)⟩, ⟨y61_⟩, ⟨y12_⟩, ⟨y11_⟩, ⟨by (with_reducible repeat (first | apply Kd.R_alloc | apply Kd.R_drewN | apply Kd.R_drew)); exact Kd.R_mono HO639.out (fun _ hk => ⟨hk.1.1, hk.2⟩)⟩, ⟨by (with_reducible repeat (first | apply Kd.R_alloc | apply Kd.R_drewN | apply Kd.R_drew)); exact Kd.R_mono HO642.out (fun _ hk => ⟨hk.1.1, hk.2⟩)⟩, ⟨y6_⟩, ⟨y9_⟩, ⟨y13_⟩, ⟨y2_⟩⟩
          ·rw [if_neg c77] at H
           have c77b0 : (t643 == 0) = false := beq_eq_false_iff_ne.mpr c77
           have c77b1 : (t643 != 0) = true := bne_iff_ne.mpr c77
           (first | rw [c77b0] | (simp only [i64_w, i32_w]; rw [c77b0]) | skip)
           have H' := Aside0.mk H
           clear H
           go_wp2
           go_meet
           case rel => exact ⟨_, (true), y15_, H', ⟨by have := HJ3.out; have := HJ20.out; have := HJ44.out; first | omega | exact Nat.le_refl _⟩, ⟨by (with_reducible repeat (first | apply Kd.V_alloc | apply Kd.V_drewN | apply Kd.V_drew)); exact Kd.V_mono (Kd.V_far (p := ⟨gb644, 3, none⟩) (Kd.V_far (p := ⟨gb644, 2, none⟩) (Kd.V_far (p := ⟨gb644, 1, none⟩) (Kd.V_far (p := ⟨gb644, 0, none⟩) (Kd.V_mono HO_1.out (fun k_ hk => (⟨hk, hk.2⟩ : _ ∧ k_ ≠ gb644))) (fun _ hk => hk.2) (.int .i64 t635)) (fun _ hk => hk.2) (.int .u32 t636)) (fun _ hk => hk.2) (.slice Ao75 t637.length co75)) (fun _ hk => hk.2) (.slice Ao76 t640.length co76)) (fun _ hk => ⟨hk.1.1.1.1.1, ⟨hk.1.1.1.1.2.1, ⟨hk.1.1.1.1.2.2.1, ⟨hk.1.1.1.1.2.2.2.1, ⟨hk.1.1.1.2, ⟨hk.1.1.2, ⟨hk.1.1.1.1.2.2.2.2.1, ⟨hk.1.1.1.1.2.2.2.2.2, hk.1.2⟩⟩⟩⟩⟩⟩⟩⟩)⟩, ⟨by (with_reducible repeat (first | apply Kd.R_alloc | apply Kd.R_drewN | apply Kd.R_drew)); exact Kd.R_mono (Kd.R_far (p := ⟨gb644, 3, none⟩) (Kd.R_far (p := ⟨gb644, 2, none⟩) (Kd.R_far (p := ⟨gb644, 1, none⟩) (Kd.R_far (p := ⟨gb644, 0, none⟩) (Kd.R_types HO_11.out BK644.out (by decide)) (fun _ hk => hk.2) (.int .i64 t635)) (fun _ hk => hk.2) (.int .u32 t636)) (fun _ hk => hk.2) (.slice Ao75 t637.length co75)) (fun _ hk => hk.2) (.slice Ao76 t640.length co76)) (fun _ hk => hk.1)⟩, ⟨by (with_reducible repeat (first | apply Kd.R_alloc | apply Kd.R_drewN | apply Kd.R_drew)); exact Kd.R_mono (Kd.R_far (p := ⟨gb644, 3, none⟩) (Kd.R_far (p := ⟨gb644, 2, none⟩) (Kd.R_far (p := ⟨gb644, 1, none⟩) (Kd.R_far (p := ⟨gb644, 0, none⟩) (Kd.R_types HO_624002.out BK644.out (by decide)) (fun _ hk => hk.2) (.int .i64 t635)) (fun _ hk => hk.2) (.int .u32 t636)) (fun _ hk => hk.2) (.slice Ao75 t637.length co75)) (fun _ hk => hk.2) (.slice Ao76 t640.length co76)) (fun _ hk => ⟨hk.1.1, hk.1.2⟩)⟩, ⟨by (with_reducible repeat (first | apply Kd.R_alloc | apply Kd.R_drewN | apply Kd.R_drew)); exact Kd.R_mono (Kd.R_far (p := ⟨gb644, 3, none⟩) (Kd.R_far (p := ⟨gb644, 2, none⟩) (Kd.R_far (p := ⟨gb644, 1, none⟩) (Kd.R_far (p := ⟨gb644, 0, none⟩) (Kd.R_types HO_624003.out BK644.out (by decide)) (fun _ hk => hk.2) (.int .i64 t635)) (fun _ hk => hk.2) (.int .u32 t636)) (fun _ hk => hk.2) (.slice Ao75 t637.length co75)) (fun _ hk => hk.2) (.slice Ao76 t640.length co76)) (fun _ hk => ⟨hk.1.1, hk.1.2⟩)⟩, ⟨by (with_reducible repeat (first | apply Kd.R_alloc | apply Kd.R_drewN | apply Kd.R_drew)); exact Kd.R_mono (Kd.R_far (p := ⟨gb644, 3, none⟩) (Kd.R_far (p := ⟨gb644, 2, none⟩) (Kd.R_far (p := ⟨gb644, 1, none⟩) (Kd.R_far (p := ⟨gb644, 0, none⟩) (Kd.R_types HO639.out BK644.out (by decide)) (fun _ hk => hk.2) (.int .i64 t635)) (fun _ hk => hk.2) (.int .u32 t636)) (fun _ hk => hk.2) (.slice Ao75 t637.length co75)) (fun _ hk => hk.2) (.slice Ao76 t640.length co76)) (fun _ hk => ⟨hk.1.1.1, hk.1.2⟩)⟩, ⟨by (with_reducible repeat (first | apply Kd.R_alloc | apply Kd.R_drewN | apply Kd.R_drew)); exact Kd.R_mono (Kd.R_far (p := ⟨gb644, 3, none⟩) (Kd.R_far (p := ⟨gb644, 2, none⟩) (Kd.R_far (p := ⟨gb644, 1, none⟩) (Kd.R_far (p := ⟨gb644, 0, none⟩) (Kd.R_types HO642.out BK644.out (by decide)) (fun _ hk => hk.2) (.int .i64 t635)) (fun _ hk => hk.2) (.int .u32 t636)) (fun _ hk => hk.2) (.slice Ao75 t637.length co75)) (fun _ hk => hk.2) (.slice Ao76 t640.length co76)) (fun _ hk => ⟨hk.1.1.1, hk.1.2⟩)⟩, ⟨y60_⟩, ⟨y59_⟩, ⟨y50_⟩, ⟨y2_⟩⟩
         case rest =>
          clear HC68
          try clear c1
          try clear c2
          try clear p2
          try clear c3
          try clear c4
          try clear c5
          try clear c6
          try clear c7
          try clear c8
          try clear c9
          try clear c13
          try clear c16
          try clear c17
          try clear c24
          try clear c28
          try clear c28b0
          try clear c28b1
          try clear c30
          try clear c30b0
          try clear c30b1
          try clear c32
          try clear c33
          try clear c37
          try clear c41
          try clear c46
          try clear c50
          try clear c50b0
          try clear c50b1
          try clear c51
          try clear c54
          try clear c57
          try clear c59
          try clear c59b0
          try clear c59b1
          try clear c60
          try clear c64
          try clear c72
          try clear c73
          try clear c77
          try clear c77b0
          try clear c77b1
          try clear c79
          try clear c80
          try clear c82
          try clear hcz11_0
          try clear hcz11_1
          try clear hcz11_2
          try clear hcz11_3
          try clear hcz14_0
          try clear hcz14_1
          try clear hcz14_2
          try clear hcz14_3
          try clear hcz25_0
          try clear hcz25_1
          try clear hcz25_2
          try clear hcz25_3
          try clear hcz34_0
          try clear hcz34_1
          try clear hcz34_2
          try clear hcz34_3
          try clear hcz38_0
          try clear hcz38_1
          try clear hcz38_2
          try clear hcz38_3
          try clear hcz42_0
          try clear hcz42_1
          try clear hcz42_2
          try clear hcz42_3
          try clear hcz47_0
          try clear hcz47_1
          try clear hcz47_2
          try clear hcz47_3
          try clear hcz52_0
          try clear hcz52_1
          try clear hcz52_2
          try clear hcz52_3
          try clear hcz55_0
          try clear hcz55_1
          try clear hcz55_2
          try clear hcz55_3
          try clear hcz61_0
          try clear hcz61_1
          try clear hcz61_2
          try clear hcz61_3
          try clear hcz65_0
          try clear hcz65_1
          try clear hcz65_2
          try clear hcz65_3
          try clear hcz74_0
          try clear hcz74_1
          try clear hcz74_2
          try clear hcz74_3
          try clear hcz81_0
          try clear hcz81_1
          try clear hcz81_2
          try clear hcz81_3
          try clear hcz83_0
          try clear hcz83_1
          try clear hcz83_2
          try clear hcz83_3
          try clear hfz11_0
          try clear hfz11_1
          try clear hfz11_2
          try clear hfz11_3
          try clear hfz14_0
          try clear hfz14_1
          try clear hfz14_2
          try clear hfz14_3
          try clear hfz25_0
          try clear hfz25_1
          try clear hfz25_2
          try clear hfz25_3
          try clear hfz34_0
          try clear hfz34_1
          try clear hfz34_2
          try clear hfz34_3
          try clear hfz38_0
          try clear hfz38_1
          try clear hfz38_2
          try clear hfz38_3
          try clear hfz42_0
          try clear hfz42_1
          try clear hfz42_2
          try clear hfz42_3
          try clear hfz47_0
          try clear hfz47_1
          try clear hfz47_2
          try clear hfz47_3
          try clear hfz52_0
          try clear hfz52_1
          try clear hfz52_2
          try clear hfz52_3
          try clear hfz55_0
          try clear hfz55_1
          try clear hfz55_2
          try clear hfz55_3
          try clear hfz61_0
          try clear hfz61_1
          try clear hfz61_2
          try clear hfz61_3
          try clear hfz65_0
          try clear hfz65_1
          try clear hfz65_2
          try clear hfz65_3
          try clear hfz74_0
          try clear hfz74_1
          try clear hfz74_2
          try clear hfz74_3
          try clear hfz81_0
          try clear hfz81_1
          try clear hfz81_2
          try clear hfz81_3
          try clear hfz83_0
          try clear hfz83_1
          try clear hfz83_2
          try clear hfz83_3
          try clear p2
          obtain ⟨kq, x86_67, rfl, HA, HJ67, HO_1, HO_11, HO_624002, HO_624003, HO_645002, HO_645003, BK610, BK623, BK644, HB⟩ := hcut
          cases kq with
          | zero => exact absurd HA.out (by simp [manometerlaw13_RecordBack.j3])
          | succ kj67 =>
           have H := HA.out
           clear HA
           simp only [manometerlaw13_RecordBack.j3] at H
           by_cases c85 : x86_67 = true
           ·subst c85
            have H1 : (some false) = some r := by rw [if_pos rfl] at H; exact H
            clear H
            have H := H1
            clear H1
            obtain rfl := Option.some.inj H
            go_wp2
            go_ret
            exact ⟨y8_, y2_⟩
           ·replace c85 := Bool.eq_false_iff.mpr c85
            subst c85
            have H1 : (if (l1.length : Int) > 0 then ((manometerref01_Join.f kj67 (([t629, l1] : List (List Int)))).bind fun t649 => ((record_Take.f kj67 t649).bind fun bt652 => (if bt652.2.2.2.2 = 8 then (if a2 < 0 then (some true) else (if a2 ≥ (t629.length : Int) then (some true) else (if 0 ≤ a2 then (if a2 ≤ (t629.length : Int) then ((record_Take.f kj67 (t629.take (a2 : Int).toNat)).bind fun bt667 => (some (bt667.2.2.2.2 == 6))) else (none)) else (none)))) else (some false)))) else (if a2 < 0 then (some true) else (if a2 ≥ (t629.length : Int) then (some true) else (if 0 ≤ a2 then (if a2 ≤ (t629.length : Int) then ((record_Take.f kj67 (t629.take (a2 : Int).toNat)).bind fun bt682 => (some (bt682.2.2.2.2 == 6))) else (none)) else (none))))) = some r := by rw [if_neg (show ¬ (false = true) by decide)] at H; exact H
            clear H
            have H := H1
            clear H1
            by_cases c86 : (l1.length : Int) > 0
            ·rw [if_pos c86] at H
             have c86b0 : decide (0 < (l1.length : Int)) = true := decide_eq_true c86
             have c86b1 : decide (0 < l1.length) = true := decide_eq_true (by omega)
             clear c86
             obtain ⟨y646, hy646⟩ : ∃ y_ : List (List Int), y_ = (([t629, l1] : List (List Int))) := ⟨_, rfl⟩
             replace H : ((manometerref01_Join.f kj67 y646).bind fun t649 => ((record_Take.f kj67 t649).bind fun bt652 => (if bt652.2.2.2.2 = 8 then (if a2 < 0 then (some true) else (if a2 ≥ (t629.length : Int) then (some true) else (if 0 ≤ a2 then (if a2 ≤ (t629.length : Int) then ((record_Take.f kj67 (t629.take (a2 : Int).toNat)).bind fun bt667 => (some (bt667.2.2.2.2 == 6))) else (none)) else (none)))) else (some false)))) = some r := by first | (rw [hy646]; with_reducible exact H) | (have H2_ := (Option.bind_some _ _).symm.trans H; rw [hy646]; with_reducible exact H2_) | (have H2_ := (Option.bind_some _ _).symm.trans H; with_reducible exact H2_) | with_reducible exact H | (rw [hy646]; exact H) | exact H
             have Ny646 := Aside0.mk hy646
             clear hy646
             replace H := Option.bind_eq_some_iff.mp H
             obtain ⟨t649, A870, H⟩ := H
             replace H : ((record_Take.f kj67 t649).bind fun bt652 => (if bt652.2.2.2.2 = 8 then (if a2 < 0 then (some true) else (if a2 ≥ (t629.length : Int) then (some true) else (if 0 ≤ a2 then (if a2 ≤ (t629.length : Int) then ((record_Take.f kj67 (t629.take (a2 : Int).toNat)).bind fun bt667 => (some (bt667.2.2.2.2 == 6))) else (none)) else (none)))) else (some false))) = some r := H
             have A87 := Aside0.mk A870
             clear A870
             replace H := Option.bind_eq_some_iff.mp H
             obtain ⟨⟨t652, t653, t654, t657, t660⟩, A880, H⟩ := H
             replace H : (if t660 = 8 then (if a2 < 0 then (some true) else (if a2 ≥ (t629.length : Int) then (some true) else (if 0 ≤ a2 then (if a2 ≤ (t629.length : Int) then ((record_Take.f kj67 (t629.take (a2 : Int).toNat)).bind fun bt667 => (some (bt667.2.2.2.2 == 6))) else (none)) else (none)))) else (some false)) = some r := H
             have A88 := Aside0.mk A880
             clear A880
             by_cases c89 : t660 = 8
             ·rw [if_pos c89] at H
              have c89b0 : (t660 == 8) = true := beq_iff_eq.mpr c89
              have c89b1 : (t660 != 8) = false := bne_eq_false_iff_eq.mpr c89
              clear c89
              by_cases c90 : a2 < 0
              ·rw [if_pos c90] at H
               have c90b0 : decide (a2 < 0) = true := decide_eq_true c90
               clear c90
               obtain rfl := Option.some.inj H
               go_wp2_with (first | ((with_reducible refine gate_dst (N := 93) rfl ?_); (try (refine gate_guard (by rfl) ?_; dsimp only)); refine Kd.N_lit (Kd.slice 5 (Kd.int .u8)) _ 22 ?hg (N' := 93) ?hd (xs := ([t629, l1] : List (List Int))) (inner := [.slice Ao69 t629.length co69, .slice A1 l1.length c1]) (ok := (fun k_ => (P1_ k_ ∨ w.heap.size ≤ k_) ∧ some k_ ≠ (.slice Ao26 t616.length co26 : Value).ownBlock ∧ some k_ ≠ (.slice Ao27 t619.length co27 : Value).ownBlock ∧ some k_ ≠ (.slice Ao75 t637.length co75 : Value).ownBlock ∧ some k_ ≠ (.slice Ao76 t640.length co76 : Value).ownBlock ∧ k_ ≠ gb610 ∧ k_ ≠ gb623 ∧ k_ ≠ gb644)) (okp := (fun k_ => (P1_ k_ ∨ w.heap.size ≤ k_) ∧ some k_ ≠ (.slice Ao26 t616.length co26 : Value).ownBlock ∧ some k_ ≠ (.slice Ao27 t619.length co27 : Value).ownBlock ∧ some k_ ≠ (.slice Ao75 t637.length co75 : Value).ownBlock ∧ some k_ ≠ (.slice Ao76 t640.length co76 : Value).ownBlock ∧ k_ ≠ gb610 ∧ k_ ≠ gb623 ∧ k_ ≠ gb644)) ?hr ?hp (fun _ hk => hk) ((show ∀ k_, wc.heap.size ≤ k_ → (fun k_ => (P1_ k_ ∨ w.heap.size ≤ k_) ∧ some k_ ≠ (.slice Ao26 t616.length co26 : Value).ownBlock ∧ some k_ ≠ (.slice Ao27 t619.length co27 : Value).ownBlock ∧ some k_ ≠ (.slice Ao75 t637.length co75 : Value).ownBlock ∧ some k_ ≠ (.slice Ao76 t640.length co76 : Value).ownBlock ∧ k_ ≠ gb610 ∧ k_ ≠ gb623 ∧ k_ ≠ gb644) k_ from fun k_ hk => ⟨(.inr (Nat.le_trans (below_size y2_) hk)), Kd.fresh' (Kd.R_lt y12_) k_ hk, Kd.fresh' (Kd.R_lt y11_) k_ hk, Kd.fresh' (Kd.R_lt y19_) k_ hk, Kd.fresh' (Kd.R_lt y18_) k_ hk, Kd.freshB (g := gb610) (o := .cells #[.int .i64 a0_0, .int .u32 a0_1, .slice A0_2 l0_2.length c0_2, .slice A0_3 l0_3.length c0_3] 29 (0, 0)) y6_ k_ hk, Kd.freshB (g := gb623) (o := .cells #[.int .i64 t614, .int .u32 t615, .slice Ao26 t616.length co26, .slice Ao27 t619.length co27] 29 (0, 0)) y9_ k_ hk, Kd.freshB (g := gb644) (o := .cells #[.int .i64 t635, .int .u32 t636, .slice Ao75 t637.length co75, .slice Ao76 t640.length co76] 29 (0, 0)) y13_ k_ hk⟩) _ (Nat.le_refl _)) (Below.refl _ _) (Nat.le_refl _) (by simp) ?_; (case hd => rfl); (case hg => rfl); (case hr => first | (go_simp; done) | (go_simp; rfl)); (case hp => exact (Reps.one (show Kd.FK (Kd.slice 5 (Kd.int .u8)) _ _ t629 [.slice Ao69 t629.length co69] from (Kd.FK_slice_mk (Kd.R_reads' (Kd.R_mono (ok' := (fun k_ => (P1_ k_ ∨ w.heap.size ≤ k_) ∧ some k_ ≠ (.slice Ao26 t616.length co26 : Value).ownBlock ∧ some k_ ≠ (.slice Ao27 t619.length co27 : Value).ownBlock ∧ some k_ ≠ (.slice Ao75 t637.length co75 : Value).ownBlock ∧ some k_ ≠ (.slice Ao76 t640.length co76 : Value).ownBlock ∧ k_ ≠ gb610 ∧ k_ ≠ gb623 ∧ k_ ≠ gb644)) (Kd.R_types (Kd.R_types (Kd.R_types (Kd.R_apart' (Kd.R_apart' (Kd.R_apart' (Kd.R_apart' (HO_11.out) (Kd.R_typed HO_624002.out) (by decide)) (Kd.R_typed HO_624003.out) (by decide)) (Kd.R_typed HO_645002.out) (by decide)) (Kd.R_typed HO_645003.out) (by decide)) BK610.out (by decide)) BK623.out (by decide)) BK644.out (by decide)) (fun k_ hk => ⟨(.inr (hk.1.1.1.1.1.1.1)), ⟨hk.1.1.1.1.1.1.2, ⟨hk.1.1.1.1.1.2, ⟨hk.1.1.1.1.2, ⟨hk.1.1.1.2, ⟨hk.1.1.2, ⟨hk.1.2, hk.2⟩⟩⟩⟩⟩⟩⟩))).2.1 (Kd.R_F (Kd.R_mono (ok' := (fun k_ => (P1_ k_ ∨ w.heap.size ≤ k_) ∧ some k_ ≠ (.slice Ao26 t616.length co26 : Value).ownBlock ∧ some k_ ≠ (.slice Ao27 t619.length co27 : Value).ownBlock ∧ some k_ ≠ (.slice Ao75 t637.length co75 : Value).ownBlock ∧ some k_ ≠ (.slice Ao76 t640.length co76 : Value).ownBlock ∧ k_ ≠ gb610 ∧ k_ ≠ gb623 ∧ k_ ≠ gb644)) (Kd.R_types (Kd.R_types (Kd.R_types (Kd.R_apart' (Kd.R_apart' (Kd.R_apart' (Kd.R_apart' (HO_11.out) (Kd.R_typed HO_624002.out) (by decide)) (Kd.R_typed HO_624003.out) (by decide)) (Kd.R_typed HO_645002.out) (by decide)) (Kd.R_typed HO_645003.out) (by decide)) BK610.out (by decide)) BK623.out (by decide)) BK644.out (by decide)) (fun k_ hk => ⟨(.inr (hk.1.1.1.1.1.1.1)), ⟨hk.1.1.1.1.1.1.2, ⟨hk.1.1.1.1.1.2, ⟨hk.1.1.1.1.2, ⟨hk.1.1.1.2, ⟨hk.1.1.2, ⟨hk.1.2, hk.2⟩⟩⟩⟩⟩⟩⟩))))) (Reps.one (show Kd.FK (Kd.slice 5 (Kd.int .u8)) _ _ l1 [.slice A1 l1.length c1] from (Kd.FK_slice_mk (Kd.V_reads' (Kd.V_mono (ok' := (fun k_ => (P1_ k_ ∨ w.heap.size ≤ k_) ∧ some k_ ≠ (.slice Ao26 t616.length co26 : Value).ownBlock ∧ some k_ ≠ (.slice Ao27 t619.length co27 : Value).ownBlock ∧ some k_ ≠ (.slice Ao75 t637.length co75 : Value).ownBlock ∧ some k_ ≠ (.slice Ao76 t640.length co76 : Value).ownBlock ∧ k_ ≠ gb610 ∧ k_ ≠ gb623 ∧ k_ ≠ gb644)) (HO_1.out) (fun k_ hk => ⟨hk.1, ⟨hk.2.2.1, ⟨hk.2.2.2.1, ⟨hk.2.2.2.2.1, ⟨hk.2.2.2.2.2.1, ⟨hk.2.2.2.2.2.2.1, ⟨hk.2.2.2.2.2.2.2.1, hk.2.2.2.2.2.2.2.2⟩⟩⟩⟩⟩⟩⟩))).2.1 (Kd.V_F (Kd.V_mono (ok' := (fun k_ => (P1_ k_ ∨ w.heap.size ≤ k_) ∧ some k_ ≠ (.slice Ao26 t616.length co26 : Value).ownBlock ∧ some k_ ≠ (.slice Ao27 t619.length co27 : Value).ownBlock ∧ some k_ ≠ (.slice Ao75 t637.length co75 : Value).ownBlock ∧ some k_ ≠ (.slice Ao76 t640.length co76 : Value).ownBlock ∧ k_ ≠ gb610 ∧ k_ ≠ gb623 ∧ k_ ≠ gb644)) (HO_1.out) (fun k_ hk => ⟨hk.1, ⟨hk.2.2.1, ⟨hk.2.2.2.1, ⟨hk.2.2.2.2.1, ⟨hk.2.2.2.2.2.1, ⟨hk.2.2.2.2.2.2.1, ⟨hk.2.2.2.2.2.2.2.1, hk.2.2.2.2.2.2.2.2⟩⟩⟩⟩⟩⟩⟩))))) (Reps.none _ _)))); intro v647 w91 ho92 hb hg_ hnew_; clear hg_ hnew_; (first | rw [← Ny646.out] at ho92 | (simp only [Int.reduceToNat] at ho92; rw [← Ny646.out] at ho92)); have n0_ := Aside0.mk (Kd.V_elder' y20_ (Kd.N_base ho92) hb); have n1_ := Aside0.mk (Kd.R_below y12_ hb); have n2_ := Aside0.mk (Kd.R_below y11_ hb); have n3_ := Aside0.mk (Kd.R_below y19_ hb); have n4_ := Aside0.mk (Kd.R_below y18_ hb); have n5_ := Aside0.mk (Kd.N_lower ho92 (below_size y2_)); have n6_ := Aside0.mk (blk_below (g := gb610) (o := .cells #[.int .i64 a0_0, .int .u32 a0_1, .slice A0_2 l0_2.length c0_2, .slice A0_3 l0_3.length c0_3] 29 (0, 0)) y6_ hb); have n7_ := Aside0.mk (blk_below (g := gb623) (o := .cells #[.int .i64 t614, .int .u32 t615, .slice Ao26 t616.length co26, .slice Ao27 t619.length co27] 29 (0, 0)) y9_ hb); have n8_ := Aside0.mk (blk_below (g := gb644) (o := .cells #[.int .i64 t635, .int .u32 t636, .slice Ao75 t637.length co75, .slice Ao76 t640.length co76] 29 (0, 0)) y13_ hb); have n9_ := Aside0.mk (below_step y2_ hb); clear HO_1; clear HO_624002; clear HO_624003; clear HO_645002; clear HO_645003; clear BK610; clear BK623; clear BK644; clear HB; clear HO_11; have HO_1 := n0_; have HO_624002 := n1_; have HO_624003 := n2_; have HO_645002 := n3_; have HO_645003 := n4_; have HO648 := n5_; have BK610 := n6_; have BK623 := n7_; have BK644 := n8_; have HB := n9_; clear n0_ n1_ n2_ n3_ n4_ n5_ n6_ n7_ n8_ n9_; clear hb ho92; obtain ⟨Ao93, co93, eo93⟩ := Kd.N_slice HO648.out; subst eo93) | ((with_reducible refine gate_callee (f := 20) rfl ?_); refine goesL_ (some 94) rfl rfl Tryd.func20 (by kernel_rfl) rfl #[.slice Ao93 y646.length co93] rfl y3_ ?_; (with_reducible refine (manometerref01_Join.calls kj67 _ _ y646 t649 _ ?side1 ?side2 A87.out).mono ?_); (case side1 => repeat (first | exact (Kd.N_reads' HO648.out).2.2 | (with_reducible refine Kd.C_alloc ?_ _) | (with_reducible refine Kd.C_drewN ?_ _) | (with_reducible refine Kd.C_drew ?_))); (case side2 => exact (Kd.N_reads' HO648.out).2.1); rintro e w94 ⟨v650, rfl, ho0, hb⟩; refine ⟨_, rfl, ?_⟩; have n0_ := Aside0.mk (Kd.V_elder' y20_ (Kd.R_base ho0) hb); have n1_ := Aside0.mk (Kd.R_below y12_ hb); have n2_ := Aside0.mk (Kd.R_below y11_ hb); have n3_ := Aside0.mk (Kd.R_below y19_ hb); have n4_ := Aside0.mk (Kd.R_below y18_ hb); have n5_ := Aside0.mk (Kd.N_elder' y40_ (Kd.R_base ho0) hb); have n6_ := Aside0.mk (Kd.R_lower (Kd.R_newM (M := fun k_ => (w.heap.size ≤ k_)) ho0 (below_size y2_) (fun k_ h_ => h_)) (below_size y2_)); have n7_ := Aside0.mk (blk_below (g := gb610) (o := .cells #[.int .i64 a0_0, .int .u32 a0_1, .slice A0_2 l0_2.length c0_2, .slice A0_3 l0_3.length c0_3] 29 (0, 0)) y6_ hb); have n8_ := Aside0.mk (blk_below (g := gb623) (o := .cells #[.int .i64 t614, .int .u32 t615, .slice Ao26 t616.length co26, .slice Ao27 t619.length co27] 29 (0, 0)) y9_ hb); have n9_ := Aside0.mk (blk_below (g := gb644) (o := .cells #[.int .i64 t635, .int .u32 t636, .slice Ao75 t637.length co75, .slice Ao76 t640.length co76] 29 (0, 0)) y13_ hb); have n10_ := Aside0.mk (below_step y2_ hb); clear HO_1; clear HO_624002; clear HO_624003; clear HO_645002; clear HO_645003; clear HO648; clear BK610; clear BK623; clear BK644; clear HB; have HO_1 := n0_; have HO_624002 := n1_; have HO_624003 := n2_; have HO_645002 := n3_; have HO_645003 := n4_; have HO648 := n5_; have HO651 := n6_; have BK610 := n7_; have BK623 := n8_; have BK644 := n9_; have HB := n10_; clear n0_ n1_ n2_ n3_ n4_ n5_ n6_ n7_ n8_ n9_ n10_; (try clear hb); (try clear hb2); (try clear hk); (try clear hi); (try clear ho0); obtain ⟨Ao95, co95, eo95⟩ := Kd.R_slice HO651.out; subst eo95) | ((with_reducible refine gate_callee (f := 9) rfl ?_); refine goesL_ (some 95) rfl rfl Tryd.func9 (by kernel_rfl) rfl #[.slice Ao95 t649.length co95] rfl y3_ ?_; (with_reducible refine (record_Take.calls kj67 _ _ t649 t652 t653 t654 t657 t660 _ ?side1 ?side2 ?side3 A88.out).mono ?_); (case side1 => exact ⟨Tab_below hT.out y2_⟩); (case side2 => repeat (first | exact (Kd.R_reads' HO651.out).2.2 | (with_reducible refine Kd.C_alloc ?_ _) | (with_reducible refine Kd.C_drewN ?_ _) | (with_reducible refine Kd.C_drew ?_))); (case side3 => exact (Kd.R_reads' HO651.out).2.1); rintro e w96 ⟨v655, v658, rfl, ho0, ho1, hb⟩; refine ⟨_, rfl, ?_⟩; have n0_ := Aside0.mk (Kd.V_mono (Kd.V_told (Kd.V_told (Kd.V_old y20_ hb) (Kd.R_base ho0)) (Kd.R_base ho1)) (fun _ h_ => h_.1)); have n1_ := Aside0.mk (Kd.R_elder' y12_ (Kd.R_base ho0) hb); have n2_ := Aside0.mk (Kd.R_elder' y11_ (Kd.R_base ho1) hb); have n3_ := Aside0.mk (Kd.R_elder' y19_ (Kd.R_base ho0) hb); have n4_ := Aside0.mk (Kd.R_elder' y18_ (Kd.R_base ho1) hb); have n5_ := Aside0.mk (Kd.N_mono (Kd.N_told (Kd.N_told (Kd.N_old y40_ hb) (Kd.R_base ho0)) (Kd.R_base ho1)) (fun _ h_ => h_.1)); have n6_ := Aside0.mk (Kd.R_below y52_ hb); have n7_ := Aside0.mk (Kd.R_lower (Kd.R_new' (Kd.R_new' (Kd.R_newM (M := fun k_ => (w.heap.size ≤ k_)) ho0 (below_size y2_) (fun k_ h_ => h_)) (Kd.R_lt y12_)) (Kd.R_lt y19_)) (below_size y2_)); have n8_ := Aside0.mk (Kd.R_lower (Kd.R_new' (Kd.R_new' (Kd.R_newM (M := fun k_ => (w.heap.size ≤ k_)) ho1 (below_size y2_) (fun k_ h_ => h_)) (Kd.R_lt y11_)) (Kd.R_lt y18_)) (below_size y2_)); have n9_ := Aside0.mk (blk_below (g := gb610) (o := .cells #[.int .i64 a0_0, .int .u32 a0_1, .slice A0_2 l0_2.length c0_2, .slice A0_3 l0_3.length c0_3] 29 (0, 0)) y6_ hb); have n10_ := Aside0.mk (blk_below (g := gb623) (o := .cells #[.int .i64 t614, .int .u32 t615, .slice Ao26 t616.length co26, .slice Ao27 t619.length co27] 29 (0, 0)) y9_ hb); have n11_ := Aside0.mk (blk_below (g := gb644) (o := .cells #[.int .i64 t635, .int .u32 t636, .slice Ao75 t637.length co75, .slice Ao76 t640.length co76] 29 (0, 0)) y13_ hb); have n12_ := Aside0.mk (below_step y2_ hb); clear HO_1; clear HO_624002; clear HO_624003; clear HO_645002; clear HO_645003; clear HO648; clear HO651; clear BK610; clear BK623; clear BK644; clear HB; have HO_1 := n0_; have HO_624002 := n1_; have HO_624003 := n2_; have HO_645002 := n3_; have HO_645003 := n4_; have HO648 := n5_; have HO651 := n6_; have HO656 := n7_; have HO659 := n8_; have BK610 := n9_; have BK623 := n10_; have BK644 := n11_; have HB := n12_; clear n0_ n1_ n2_ n3_ n4_ n5_ n6_ n7_ n8_ n9_ n10_ n11_ n12_; (try clear hb); (try clear hb2); (try clear hk); (try clear hi); (try clear ho0); (try clear ho1)) | ((with_reducible refine gate_dst (N := 15) rfl ?_); (try (refine gate_guard (by rfl) ?_; dsimp only)); refine box_event ?hg (N := 15) ?hd (cs := #[.int .i64 0, .int .u32 0, .slice none 0 0, .slice none 0 0]) (t := 29) ?hr ?_; (case hd => rfl); (case hg => rfl); (case hr => first | (go_simp; done) | (go_simp; rfl)); intro gb661 hg w97 hbox hb; have n0_ := Aside0.mk (Kd.V_below (Kd.V_elderB y20_ gb661 (Nat.le_of_eq hg.symm)) hb); have n1_ := Aside0.mk (Kd.R_below y12_ hb); have n2_ := Aside0.mk (Kd.R_below y11_ hb); have n3_ := Aside0.mk (Kd.R_below y19_ hb); have n4_ := Aside0.mk (Kd.R_below y18_ hb); have n5_ := Aside0.mk (Kd.N_below (Kd.N_elderB y40_ gb661 (Nat.le_of_eq hg.symm)) hb); have n6_ := Aside0.mk (Kd.R_below y52_ hb); have n7_ := Aside0.mk (Kd.R_below y63_ hb); have n8_ := Aside0.mk (Kd.R_below y62_ hb); have n9_ := Aside0.mk (blk_below (g := gb610) (o := .cells #[.int .i64 a0_0, .int .u32 a0_1, .slice A0_2 l0_2.length c0_2, .slice A0_3 l0_3.length c0_3] 29 (0, 0)) y6_ hb); have n10_ := Aside0.mk (blk_below (g := gb623) (o := .cells #[.int .i64 t614, .int .u32 t615, .slice Ao26 t616.length co26, .slice Ao27 t619.length co27] 29 (0, 0)) y9_ hb); have n11_ := Aside0.mk (blk_below (g := gb644) (o := .cells #[.int .i64 t635, .int .u32 t636, .slice Ao75 t637.length co75, .slice Ao76 t640.length co76] 29 (0, 0)) y13_ hb); have n12_ := Aside0.mk (below_step y2_ hb); have n13_ := Aside0.mk (hbox); have n14_ := Aside0.mk ((y96_ : w.heap.size ≤ gb661)); have n15_ := Aside0.mk ((y96_ : w.heap.size ≤ gb661)); have n16_ := Aside0.mk ((y44_ : gb610 ≠ gb661)); have n17_ := Aside0.mk ((y45_ : gb661 ≠ gb610)); have n18_ := Aside0.mk ((y48_ : gb623 ≠ gb661)); have n19_ := Aside0.mk ((y49_ : gb661 ≠ gb623)); have n20_ := Aside0.mk ((y55_ : gb644 ≠ gb661)); have n21_ := Aside0.mk ((y56_ : gb661 ≠ gb644)); clear HO_1; clear HO_624002; clear HO_624003; clear HO_645002; clear HO_645003; clear HO648; clear HO651; clear HO656; clear HO659; clear BK610; clear BK623; clear BK644; clear HB; have HO_1 := n0_; have HO_624002 := n1_; have HO_624003 := n2_; have HO_645002 := n3_; have HO_645003 := n4_; have HO648 := n5_; have HO651 := n6_; have HO656 := n7_; have HO659 := n8_; have BK610 := n9_; have BK623 := n10_; have BK644 := n11_; have HB := n12_; have BK661 := n13_; have GW661 := n14_; have GE661 := n15_; have NB610_661 := n16_; have NB661_610 := n17_; have NB623_661 := n18_; have NB661_623 := n19_; have NB644_661 := n20_; have NB661_644 := n21_; clear n0_ n1_ n2_ n3_ n4_ n5_ n6_ n7_ n8_ n9_ n10_ n11_ n12_ n13_ n14_ n15_ n16_ n17_ n18_ n19_ n20_ n21_; clear hb hbox hg; have hnb98 := NB661_610.out; have hnc98 := NB610_661.out; have hnb99 := NB661_623.out; have hnc99 := NB623_661.out; have hnb100 := NB661_644.out; have hnc100 := NB644_661.out; have hcz101_0 : w97.cell? ⟨gb661, 0, none⟩ = some (.int .i64 0) := (blk_cell BK661.out 0).trans rfl; have hcz101_1 : w97.cell? ⟨gb661, 1, none⟩ = some (.int .u32 0) := (blk_cell BK661.out 1).trans rfl; have hcz101_2 : w97.cell? ⟨gb661, 2, none⟩ = some (.slice none 0 0) := (blk_cell BK661.out 2).trans rfl; have hcz101_3 : w97.cell? ⟨gb661, 3, none⟩ = some (.slice none 0 0) := (blk_cell BK661.out 3).trans rfl; have hfz101_0 := blk_frozen BK661.out 0; have hfz101_1 := blk_frozen BK661.out 1; have hfz101_2 := blk_frozen BK661.out 2; have hfz101_3 := blk_frozen BK661.out 3; obtain ⟨Ao102, co102, eo102⟩ := Kd.R_slice HO656.out; subst eo102; obtain ⟨Ao103, co103, eo103⟩ := Kd.R_slice HO659.out; subst eo103))
               go_ret
               exact ⟨y8_, y17_⟩
              ·rw [if_neg c90] at H
               have c90b0 : decide (a2 < 0) = false := decide_eq_false c90
               clear c90
               by_cases c104 : a2 ≥ (t629.length : Int)
               ·rw [if_pos c104] at H
                have c104b0 : decide ((t629.length : Int) ≤ a2) = true := decide_eq_true c104
                clear c104
                obtain rfl := Option.some.inj H
                go_wp2_with (first | ((with_reducible refine gate_dst (N := 93) rfl ?_); (try (refine gate_guard (by rfl) ?_; dsimp only)); refine Kd.N_lit (Kd.slice 5 (Kd.int .u8)) _ 22 ?hg (N' := 93) ?hd (xs := ([t629, l1] : List (List Int))) (inner := [.slice Ao69 t629.length co69, .slice A1 l1.length c1]) (ok := (fun k_ => (P1_ k_ ∨ w.heap.size ≤ k_) ∧ some k_ ≠ (.slice Ao26 t616.length co26 : Value).ownBlock ∧ some k_ ≠ (.slice Ao27 t619.length co27 : Value).ownBlock ∧ some k_ ≠ (.slice Ao75 t637.length co75 : Value).ownBlock ∧ some k_ ≠ (.slice Ao76 t640.length co76 : Value).ownBlock ∧ k_ ≠ gb610 ∧ k_ ≠ gb623 ∧ k_ ≠ gb644)) (okp := (fun k_ => (P1_ k_ ∨ w.heap.size ≤ k_) ∧ some k_ ≠ (.slice Ao26 t616.length co26 : Value).ownBlock ∧ some k_ ≠ (.slice Ao27 t619.length co27 : Value).ownBlock ∧ some k_ ≠ (.slice Ao75 t637.length co75 : Value).ownBlock ∧ some k_ ≠ (.slice Ao76 t640.length co76 : Value).ownBlock ∧ k_ ≠ gb610 ∧ k_ ≠ gb623 ∧ k_ ≠ gb644)) ?hr ?hp (fun _ hk => hk) ((show ∀ k_, wc.heap.size ≤ k_ → (fun k_ => (P1_ k_ ∨ w.heap.size ≤ k_) ∧ some k_ ≠ (.slice Ao26 t616.length co26 : Value).ownBlock ∧ some k_ ≠ (.slice Ao27 t619.length co27 : Value).ownBlock ∧ some k_ ≠ (.slice Ao75 t637.length co75 : Value).ownBlock ∧ some k_ ≠ (.slice Ao76 t640.length co76 : Value).ownBlock ∧ k_ ≠ gb610 ∧ k_ ≠ gb623 ∧ k_ ≠ gb644) k_ from fun k_ hk => ⟨(.inr (Nat.le_trans (below_size y2_) hk)), Kd.fresh' (Kd.R_lt y12_) k_ hk, Kd.fresh' (Kd.R_lt y11_) k_ hk, Kd.fresh' (Kd.R_lt y19_) k_ hk, Kd.fresh' (Kd.R_lt y18_) k_ hk, Kd.freshB (g := gb610) (o := .cells #[.int .i64 a0_0, .int .u32 a0_1, .slice A0_2 l0_2.length c0_2, .slice A0_3 l0_3.length c0_3] 29 (0, 0)) y6_ k_ hk, Kd.freshB (g := gb623) (o := .cells #[.int .i64 t614, .int .u32 t615, .slice Ao26 t616.length co26, .slice Ao27 t619.length co27] 29 (0, 0)) y9_ k_ hk, Kd.freshB (g := gb644) (o := .cells #[.int .i64 t635, .int .u32 t636, .slice Ao75 t637.length co75, .slice Ao76 t640.length co76] 29 (0, 0)) y13_ k_ hk⟩) _ (Nat.le_refl _)) (Below.refl _ _) (Nat.le_refl _) (by simp) ?_; (case hd => rfl); (case hg => rfl); (case hr => first | (go_simp; done) | (go_simp; rfl)); (case hp => exact (Reps.one (show Kd.FK (Kd.slice 5 (Kd.int .u8)) _ _ t629 [.slice Ao69 t629.length co69] from (Kd.FK_slice_mk (Kd.R_reads' (Kd.R_mono (ok' := (fun k_ => (P1_ k_ ∨ w.heap.size ≤ k_) ∧ some k_ ≠ (.slice Ao26 t616.length co26 : Value).ownBlock ∧ some k_ ≠ (.slice Ao27 t619.length co27 : Value).ownBlock ∧ some k_ ≠ (.slice Ao75 t637.length co75 : Value).ownBlock ∧ some k_ ≠ (.slice Ao76 t640.length co76 : Value).ownBlock ∧ k_ ≠ gb610 ∧ k_ ≠ gb623 ∧ k_ ≠ gb644)) (Kd.R_types (Kd.R_types (Kd.R_types (Kd.R_apart' (Kd.R_apart' (Kd.R_apart' (Kd.R_apart' (HO_11.out) (Kd.R_typed HO_624002.out) (by decide)) (Kd.R_typed HO_624003.out) (by decide)) (Kd.R_typed HO_645002.out) (by decide)) (Kd.R_typed HO_645003.out) (by decide)) BK610.out (by decide)) BK623.out (by decide)) BK644.out (by decide)) (fun k_ hk => ⟨(.inr (hk.1.1.1.1.1.1.1)), ⟨hk.1.1.1.1.1.1.2, ⟨hk.1.1.1.1.1.2, ⟨hk.1.1.1.1.2, ⟨hk.1.1.1.2, ⟨hk.1.1.2, ⟨hk.1.2, hk.2⟩⟩⟩⟩⟩⟩⟩))).2.1 (Kd.R_F (Kd.R_mono (ok' := (fun k_ => (P1_ k_ ∨ w.heap.size ≤ k_) ∧ some k_ ≠ (.slice Ao26 t616.length co26 : Value).ownBlock ∧ some k_ ≠ (.slice Ao27 t619.length co27 : Value).ownBlock ∧ some k_ ≠ (.slice Ao75 t637.length co75 : Value).ownBlock ∧ some k_ ≠ (.slice Ao76 t640.length co76 : Value).ownBlock ∧ k_ ≠ gb610 ∧ k_ ≠ gb623 ∧ k_ ≠ gb644)) (Kd.R_types (Kd.R_types (Kd.R_types (Kd.R_apart' (Kd.R_apart' (Kd.R_apart' (Kd.R_apart' (HO_11.out) (Kd.R_typed HO_624002.out) (by decide)) (Kd.R_typed HO_624003.out) (by decide)) (Kd.R_typed HO_645002.out) (by decide)) (Kd.R_typed HO_645003.out) (by decide)) BK610.out (by decide)) BK623.out (by decide)) BK644.out (by decide)) (fun k_ hk => ⟨(.inr (hk.1.1.1.1.1.1.1)), ⟨hk.1.1.1.1.1.1.2, ⟨hk.1.1.1.1.1.2, ⟨hk.1.1.1.1.2, ⟨hk.1.1.1.2, ⟨hk.1.1.2, ⟨hk.1.2, hk.2⟩⟩⟩⟩⟩⟩⟩))))) (Reps.one (show Kd.FK (Kd.slice 5 (Kd.int .u8)) _ _ l1 [.slice A1 l1.length c1] from (Kd.FK_slice_mk (Kd.V_reads' (Kd.V_mono (ok' := (fun k_ => (P1_ k_ ∨ w.heap.size ≤ k_) ∧ some k_ ≠ (.slice Ao26 t616.length co26 : Value).ownBlock ∧ some k_ ≠ (.slice Ao27 t619.length co27 : Value).ownBlock ∧ some k_ ≠ (.slice Ao75 t637.length co75 : Value).ownBlock ∧ some k_ ≠ (.slice Ao76 t640.length co76 : Value).ownBlock ∧ k_ ≠ gb610 ∧ k_ ≠ gb623 ∧ k_ ≠ gb644)) (HO_1.out) (fun k_ hk => ⟨hk.1, ⟨hk.2.2.1, ⟨hk.2.2.2.1, ⟨hk.2.2.2.2.1, ⟨hk.2.2.2.2.2.1, ⟨hk.2.2.2.2.2.2.1, ⟨hk.2.2.2.2.2.2.2.1, hk.2.2.2.2.2.2.2.2⟩⟩⟩⟩⟩⟩⟩))).2.1 (Kd.V_F (Kd.V_mono (ok' := (fun k_ => (P1_ k_ ∨ w.heap.size ≤ k_) ∧ some k_ ≠ (.slice Ao26 t616.length co26 : Value).ownBlock ∧ some k_ ≠ (.slice Ao27 t619.length co27 : Value).ownBlock ∧ some k_ ≠ (.slice Ao75 t637.length co75 : Value).ownBlock ∧ some k_ ≠ (.slice Ao76 t640.length co76 : Value).ownBlock ∧ k_ ≠ gb610 ∧ k_ ≠ gb623 ∧ k_ ≠ gb644)) (HO_1.out) (fun k_ hk => ⟨hk.1, ⟨hk.2.2.1, ⟨hk.2.2.2.1, ⟨hk.2.2.2.2.1, ⟨hk.2.2.2.2.2.1, ⟨hk.2.2.2.2.2.2.1, ⟨hk.2.2.2.2.2.2.2.1, hk.2.2.2.2.2.2.2.2⟩⟩⟩⟩⟩⟩⟩))))) (Reps.none _ _)))); intro v647 w105 ho106 hb hg_ hnew_; clear hg_ hnew_; (first | rw [← Ny646.out] at ho106 | (simp only [Int.reduceToNat] at ho106; rw [← Ny646.out] at ho106)); have n0_ := Aside0.mk (Kd.V_elder' y20_ (Kd.N_base ho106) hb); have n1_ := Aside0.mk (Kd.R_below y12_ hb); have n2_ := Aside0.mk (Kd.R_below y11_ hb); have n3_ := Aside0.mk (Kd.R_below y19_ hb); have n4_ := Aside0.mk (Kd.R_below y18_ hb); have n5_ := Aside0.mk (Kd.N_lower ho106 (below_size y2_)); have n6_ := Aside0.mk (blk_below (g := gb610) (o := .cells #[.int .i64 a0_0, .int .u32 a0_1, .slice A0_2 l0_2.length c0_2, .slice A0_3 l0_3.length c0_3] 29 (0, 0)) y6_ hb); have n7_ := Aside0.mk (blk_below (g := gb623) (o := .cells #[.int .i64 t614, .int .u32 t615, .slice Ao26 t616.length co26, .slice Ao27 t619.length co27] 29 (0, 0)) y9_ hb); have n8_ := Aside0.mk (blk_below (g := gb644) (o := .cells #[.int .i64 t635, .int .u32 t636, .slice Ao75 t637.length co75, .slice Ao76 t640.length co76] 29 (0, 0)) y13_ hb); have n9_ := Aside0.mk (below_step y2_ hb); clear HO_1; clear HO_624002; clear HO_624003; clear HO_645002; clear HO_645003; clear BK610; clear BK623; clear BK644; clear HB; clear HO_11; have HO_1 := n0_; have HO_624002 := n1_; have HO_624003 := n2_; have HO_645002 := n3_; have HO_645003 := n4_; have HO648 := n5_; have BK610 := n6_; have BK623 := n7_; have BK644 := n8_; have HB := n9_; clear n0_ n1_ n2_ n3_ n4_ n5_ n6_ n7_ n8_ n9_; clear hb ho106; obtain ⟨Ao107, co107, eo107⟩ := Kd.N_slice HO648.out; subst eo107) | ((with_reducible refine gate_callee (f := 20) rfl ?_); refine goesL_ (some 94) rfl rfl Tryd.func20 (by kernel_rfl) rfl #[.slice Ao107 y646.length co107] rfl y3_ ?_; (with_reducible refine (manometerref01_Join.calls kj67 _ _ y646 t649 _ ?side1 ?side2 A87.out).mono ?_); (case side1 => repeat (first | exact (Kd.N_reads' HO648.out).2.2 | (with_reducible refine Kd.C_alloc ?_ _) | (with_reducible refine Kd.C_drewN ?_ _) | (with_reducible refine Kd.C_drew ?_))); (case side2 => exact (Kd.N_reads' HO648.out).2.1); rintro e w108 ⟨v650, rfl, ho0, hb⟩; refine ⟨_, rfl, ?_⟩; have n0_ := Aside0.mk (Kd.V_elder' y20_ (Kd.R_base ho0) hb); have n1_ := Aside0.mk (Kd.R_below y12_ hb); have n2_ := Aside0.mk (Kd.R_below y11_ hb); have n3_ := Aside0.mk (Kd.R_below y19_ hb); have n4_ := Aside0.mk (Kd.R_below y18_ hb); have n5_ := Aside0.mk (Kd.N_elder' y40_ (Kd.R_base ho0) hb); have n6_ := Aside0.mk (Kd.R_lower (Kd.R_newM (M := fun k_ => (w.heap.size ≤ k_)) ho0 (below_size y2_) (fun k_ h_ => h_)) (below_size y2_)); have n7_ := Aside0.mk (blk_below (g := gb610) (o := .cells #[.int .i64 a0_0, .int .u32 a0_1, .slice A0_2 l0_2.length c0_2, .slice A0_3 l0_3.length c0_3] 29 (0, 0)) y6_ hb); have n8_ := Aside0.mk (blk_below (g := gb623) (o := .cells #[.int .i64 t614, .int .u32 t615, .slice Ao26 t616.length co26, .slice Ao27 t619.length co27] 29 (0, 0)) y9_ hb); have n9_ := Aside0.mk (blk_below (g := gb644) (o := .cells #[.int .i64 t635, .int .u32 t636, .slice Ao75 t637.length co75, .slice Ao76 t640.length co76] 29 (0, 0)) y13_ hb); have n10_ := Aside0.mk (below_step y2_ hb); clear HO_1; clear HO_624002; clear HO_624003; clear HO_645002; clear HO_645003; clear HO648; clear BK610; clear BK623; clear BK644; clear HB; have HO_1 := n0_; have HO_624002 := n1_; have HO_624003 := n2_; have HO_645002 := n3_; have HO_645003 := n4_; have HO648 := n5_; have HO651 := n6_; have BK610 := n7_; have BK623 := n8_; have BK644 := n9_; have HB := n10_; clear n0_ n1_ n2_ n3_ n4_ n5_ n6_ n7_ n8_ n9_ n10_; (try clear hb); (try clear hb2); (try clear hk); (try clear hi); (try clear ho0); obtain ⟨Ao109, co109, eo109⟩ := Kd.R_slice HO651.out; subst eo109) | ((with_reducible refine gate_callee (f := 9) rfl ?_); refine goesL_ (some 95) rfl rfl Tryd.func9 (by kernel_rfl) rfl #[.slice Ao109 t649.length co109] rfl y3_ ?_; (with_reducible refine (record_Take.calls kj67 _ _ t649 t652 t653 t654 t657 t660 _ ?side1 ?side2 ?side3 A88.out).mono ?_); (case side1 => exact ⟨Tab_below hT.out y2_⟩); (case side2 => repeat (first | exact (Kd.R_reads' HO651.out).2.2 | (with_reducible refine Kd.C_alloc ?_ _) | (with_reducible refine Kd.C_drewN ?_ _) | (with_reducible refine Kd.C_drew ?_))); (case side3 => exact (Kd.R_reads' HO651.out).2.1); rintro e w110 ⟨v655, v658, rfl, ho0, ho1, hb⟩; refine ⟨_, rfl, ?_⟩; have n0_ := Aside0.mk (Kd.V_mono (Kd.V_told (Kd.V_told (Kd.V_old y20_ hb) (Kd.R_base ho0)) (Kd.R_base ho1)) (fun _ h_ => h_.1)); have n1_ := Aside0.mk (Kd.R_elder' y12_ (Kd.R_base ho0) hb); have n2_ := Aside0.mk (Kd.R_elder' y11_ (Kd.R_base ho1) hb); have n3_ := Aside0.mk (Kd.R_elder' y19_ (Kd.R_base ho0) hb); have n4_ := Aside0.mk (Kd.R_elder' y18_ (Kd.R_base ho1) hb); have n5_ := Aside0.mk (Kd.N_mono (Kd.N_told (Kd.N_told (Kd.N_old y40_ hb) (Kd.R_base ho0)) (Kd.R_base ho1)) (fun _ h_ => h_.1)); have n6_ := Aside0.mk (Kd.R_below y52_ hb); have n7_ := Aside0.mk (Kd.R_lower (Kd.R_new' (Kd.R_new' (Kd.R_newM (M := fun k_ => (w.heap.size ≤ k_)) ho0 (below_size y2_) (fun k_ h_ => h_)) (Kd.R_lt y12_)) (Kd.R_lt y19_)) (below_size y2_)); have n8_ := Aside0.mk (Kd.R_lower (Kd.R_new' (Kd.R_new' (Kd.R_newM (M := fun k_ => (w.heap.size ≤ k_)) ho1 (below_size y2_) (fun k_ h_ => h_)) (Kd.R_lt y11_)) (Kd.R_lt y18_)) (below_size y2_)); have n9_ := Aside0.mk (blk_below (g := gb610) (o := .cells #[.int .i64 a0_0, .int .u32 a0_1, .slice A0_2 l0_2.length c0_2, .slice A0_3 l0_3.length c0_3] 29 (0, 0)) y6_ hb); have n10_ := Aside0.mk (blk_below (g := gb623) (o := .cells #[.int .i64 t614, .int .u32 t615, .slice Ao26 t616.length co26, .slice Ao27 t619.length co27] 29 (0, 0)) y9_ hb); have n11_ := Aside0.mk (blk_below (g := gb644) (o := .cells #[.int .i64 t635, .int .u32 t636, .slice Ao75 t637.length co75, .slice Ao76 t640.length co76] 29 (0, 0)) y13_ hb); have n12_ := Aside0.mk (below_step y2_ hb); clear HO_1; clear HO_624002; clear HO_624003; clear HO_645002; clear HO_645003; clear HO648; clear HO651; clear BK610; clear BK623; clear BK644; clear HB; have HO_1 := n0_; have HO_624002 := n1_; have HO_624003 := n2_; have HO_645002 := n3_; have HO_645003 := n4_; have HO648 := n5_; have HO651 := n6_; have HO656 := n7_; have HO659 := n8_; have BK610 := n9_; have BK623 := n10_; have BK644 := n11_; have HB := n12_; clear n0_ n1_ n2_ n3_ n4_ n5_ n6_ n7_ n8_ n9_ n10_ n11_ n12_; (try clear hb); (try clear hb2); (try clear hk); (try clear hi); (try clear ho0); (try clear ho1)) | ((with_reducible refine gate_dst (N := 15) rfl ?_); (try (refine gate_guard (by rfl) ?_; dsimp only)); refine box_event ?hg (N := 15) ?hd (cs := #[.int .i64 0, .int .u32 0, .slice none 0 0, .slice none 0 0]) (t := 29) ?hr ?_; (case hd => rfl); (case hg => rfl); (case hr => first | (go_simp; done) | (go_simp; rfl)); intro gb661 hg w111 hbox hb; have n0_ := Aside0.mk (Kd.V_below (Kd.V_elderB y20_ gb661 (Nat.le_of_eq hg.symm)) hb); have n1_ := Aside0.mk (Kd.R_below y12_ hb); have n2_ := Aside0.mk (Kd.R_below y11_ hb); have n3_ := Aside0.mk (Kd.R_below y19_ hb); have n4_ := Aside0.mk (Kd.R_below y18_ hb); have n5_ := Aside0.mk (Kd.N_below (Kd.N_elderB y40_ gb661 (Nat.le_of_eq hg.symm)) hb); have n6_ := Aside0.mk (Kd.R_below y52_ hb); have n7_ := Aside0.mk (Kd.R_below y63_ hb); have n8_ := Aside0.mk (Kd.R_below y62_ hb); have n9_ := Aside0.mk (blk_below (g := gb610) (o := .cells #[.int .i64 a0_0, .int .u32 a0_1, .slice A0_2 l0_2.length c0_2, .slice A0_3 l0_3.length c0_3] 29 (0, 0)) y6_ hb); have n10_ := Aside0.mk (blk_below (g := gb623) (o := .cells #[.int .i64 t614, .int .u32 t615, .slice Ao26 t616.length co26, .slice Ao27 t619.length co27] 29 (0, 0)) y9_ hb); have n11_ := Aside0.mk (blk_below (g := gb644) (o := .cells #[.int .i64 t635, .int .u32 t636, .slice Ao75 t637.length co75, .slice Ao76 t640.length co76] 29 (0, 0)) y13_ hb); have n12_ := Aside0.mk (below_step y2_ hb); have n13_ := Aside0.mk (hbox); have n14_ := Aside0.mk ((y96_ : w.heap.size ≤ gb661)); have n15_ := Aside0.mk ((y96_ : w.heap.size ≤ gb661)); have n16_ := Aside0.mk ((y44_ : gb610 ≠ gb661)); have n17_ := Aside0.mk ((y45_ : gb661 ≠ gb610)); have n18_ := Aside0.mk ((y48_ : gb623 ≠ gb661)); have n19_ := Aside0.mk ((y49_ : gb661 ≠ gb623)); have n20_ := Aside0.mk ((y55_ : gb644 ≠ gb661)); have n21_ := Aside0.mk ((y56_ : gb661 ≠ gb644)); clear HO_1; clear HO_624002; clear HO_624003; clear HO_645002; clear HO_645003; clear HO648; clear HO651; clear HO656; clear HO659; clear BK610; clear BK623; clear BK644; clear HB; have HO_1 := n0_; have HO_624002 := n1_; have HO_624003 := n2_; have HO_645002 := n3_; have HO_645003 := n4_; have HO648 := n5_; have HO651 := n6_; have HO656 := n7_; have HO659 := n8_; have BK610 := n9_; have BK623 := n10_; have BK644 := n11_; have HB := n12_; have BK661 := n13_; have GW661 := n14_; have GE661 := n15_; have NB610_661 := n16_; have NB661_610 := n17_; have NB623_661 := n18_; have NB661_623 := n19_; have NB644_661 := n20_; have NB661_644 := n21_; clear n0_ n1_ n2_ n3_ n4_ n5_ n6_ n7_ n8_ n9_ n10_ n11_ n12_ n13_ n14_ n15_ n16_ n17_ n18_ n19_ n20_ n21_; clear hb hbox hg; have hnb112 := NB661_610.out; have hnc112 := NB610_661.out; have hnb113 := NB661_623.out; have hnc113 := NB623_661.out; have hnb114 := NB661_644.out; have hnc114 := NB644_661.out; have hcz115_0 : w111.cell? ⟨gb661, 0, none⟩ = some (.int .i64 0) := (blk_cell BK661.out 0).trans rfl; have hcz115_1 : w111.cell? ⟨gb661, 1, none⟩ = some (.int .u32 0) := (blk_cell BK661.out 1).trans rfl; have hcz115_2 : w111.cell? ⟨gb661, 2, none⟩ = some (.slice none 0 0) := (blk_cell BK661.out 2).trans rfl; have hcz115_3 : w111.cell? ⟨gb661, 3, none⟩ = some (.slice none 0 0) := (blk_cell BK661.out 3).trans rfl; have hfz115_0 := blk_frozen BK661.out 0; have hfz115_1 := blk_frozen BK661.out 1; have hfz115_2 := blk_frozen BK661.out 2; have hfz115_3 := blk_frozen BK661.out 3; obtain ⟨Ao116, co116, eo116⟩ := Kd.R_slice HO656.out; subst eo116; obtain ⟨Ao117, co117, eo117⟩ := Kd.R_slice HO659.out; subst eo117))
                go_ret
                exact ⟨y8_, y17_⟩
               ·rw [if_neg c104] at H
                have c104b0 : decide ((t629.length : Int) ≤ a2) = false := decide_eq_false c104
                clear c104
                by_cases c118 : 0 ≤ a2
                ·rw [if_pos c118] at H
                 have c118b0 := eq_true c118
                 have c118b1 : decide (0 ≤ a2) = true := decide_eq_true c118
                 clear c118
                 by_cases c119 : a2 ≤ (t629.length : Int)
                 ·rw [if_pos c119] at H
                  have c119b0 := eq_true c119
                  have c119b1 : decide (a2 ≤ (t629.length : Int)) = true := decide_eq_true c119
                  clear c119
                  obtain ⟨y662, hy662⟩ : ∃ y_ : List Int, y_ = (t629.take (a2 : Int).toNat) := ⟨_, rfl⟩
                  replace H : ((record_Take.f kj67 y662).bind fun bt667 => (some (bt667.2.2.2.2 == 6))) = some r := by first | (rw [hy662]; with_reducible exact H) | (have H2_ := (Option.bind_some _ _).symm.trans H; rw [hy662]; with_reducible exact H2_) | (have H2_ := (Option.bind_some _ _).symm.trans H; with_reducible exact H2_) | with_reducible exact H | (rw [hy662]; exact H) | exact H
                  have Ny662 := Aside0.mk hy662
                  clear hy662
                  replace H := Option.bind_eq_some_iff.mp H
                  obtain ⟨⟨t667, t668, t669, t672, t675⟩, A1200, H⟩ := H
                  replace H : (some (t675 == 6)) = some r := H
                  have A120 := Aside0.mk A1200
                  clear A1200
                  obtain rfl := Option.some.inj H
                  have HOPW := HO_11
                  have HBC := Aside0.mk (Below.refl wc.heap.size wc)
                  go_wp2_with (first | ((with_reducible refine gate_dst (N := 93) rfl ?_); (try (refine gate_guard (by rfl) ?_; dsimp only)); refine Kd.N_lit (Kd.slice 5 (Kd.int .u8)) _ 22 ?hg (N' := 93) ?hd (xs := ([t629, l1] : List (List Int))) (inner := [.slice Ao69 t629.length co69, .slice A1 l1.length c1]) (ok := (fun k_ => (P1_ k_ ∨ w.heap.size ≤ k_) ∧ some k_ ≠ (.slice Ao26 t616.length co26 : Value).ownBlock ∧ some k_ ≠ (.slice Ao27 t619.length co27 : Value).ownBlock ∧ some k_ ≠ (.slice Ao75 t637.length co75 : Value).ownBlock ∧ some k_ ≠ (.slice Ao76 t640.length co76 : Value).ownBlock ∧ k_ ≠ gb610 ∧ k_ ≠ gb623 ∧ k_ ≠ gb644)) (okp := (fun k_ => (P1_ k_ ∨ w.heap.size ≤ k_) ∧ some k_ ≠ (.slice Ao26 t616.length co26 : Value).ownBlock ∧ some k_ ≠ (.slice Ao27 t619.length co27 : Value).ownBlock ∧ some k_ ≠ (.slice Ao75 t637.length co75 : Value).ownBlock ∧ some k_ ≠ (.slice Ao76 t640.length co76 : Value).ownBlock ∧ k_ ≠ gb610 ∧ k_ ≠ gb623 ∧ k_ ≠ gb644)) ?hr ?hp (fun _ hk => hk) ((show ∀ k_, wc.heap.size ≤ k_ → (fun k_ => (P1_ k_ ∨ w.heap.size ≤ k_) ∧ some k_ ≠ (.slice Ao26 t616.length co26 : Value).ownBlock ∧ some k_ ≠ (.slice Ao27 t619.length co27 : Value).ownBlock ∧ some k_ ≠ (.slice Ao75 t637.length co75 : Value).ownBlock ∧ some k_ ≠ (.slice Ao76 t640.length co76 : Value).ownBlock ∧ k_ ≠ gb610 ∧ k_ ≠ gb623 ∧ k_ ≠ gb644) k_ from fun k_ hk => ⟨(.inr (Nat.le_trans (below_size y2_) hk)), Kd.fresh' (Kd.R_lt y12_) k_ hk, Kd.fresh' (Kd.R_lt y11_) k_ hk, Kd.fresh' (Kd.R_lt y19_) k_ hk, Kd.fresh' (Kd.R_lt y18_) k_ hk, Kd.freshB (g := gb610) (o := .cells #[.int .i64 a0_0, .int .u32 a0_1, .slice A0_2 l0_2.length c0_2, .slice A0_3 l0_3.length c0_3] 29 (0, 0)) y6_ k_ hk, Kd.freshB (g := gb623) (o := .cells #[.int .i64 t614, .int .u32 t615, .slice Ao26 t616.length co26, .slice Ao27 t619.length co27] 29 (0, 0)) y9_ k_ hk, Kd.freshB (g := gb644) (o := .cells #[.int .i64 t635, .int .u32 t636, .slice Ao75 t637.length co75, .slice Ao76 t640.length co76] 29 (0, 0)) y13_ k_ hk⟩) _ (Nat.le_refl _)) (Below.refl _ _) (Nat.le_refl _) (by simp) ?_; (case hd => rfl); (case hg => rfl); (case hr => first | (go_simp; done) | (go_simp; rfl)); (case hp => exact (Reps.one (show Kd.FK (Kd.slice 5 (Kd.int .u8)) _ _ t629 [.slice Ao69 t629.length co69] from (Kd.FK_slice_mk (Kd.R_reads' (Kd.R_mono (ok' := (fun k_ => (P1_ k_ ∨ w.heap.size ≤ k_) ∧ some k_ ≠ (.slice Ao26 t616.length co26 : Value).ownBlock ∧ some k_ ≠ (.slice Ao27 t619.length co27 : Value).ownBlock ∧ some k_ ≠ (.slice Ao75 t637.length co75 : Value).ownBlock ∧ some k_ ≠ (.slice Ao76 t640.length co76 : Value).ownBlock ∧ k_ ≠ gb610 ∧ k_ ≠ gb623 ∧ k_ ≠ gb644)) (Kd.R_types (Kd.R_types (Kd.R_types (Kd.R_apart' (Kd.R_apart' (Kd.R_apart' (Kd.R_apart' (HO_11.out) (Kd.R_typed HO_624002.out) (by decide)) (Kd.R_typed HO_624003.out) (by decide)) (Kd.R_typed HO_645002.out) (by decide)) (Kd.R_typed HO_645003.out) (by decide)) BK610.out (by decide)) BK623.out (by decide)) BK644.out (by decide)) (fun k_ hk => ⟨(.inr (hk.1.1.1.1.1.1.1)), ⟨hk.1.1.1.1.1.1.2, ⟨hk.1.1.1.1.1.2, ⟨hk.1.1.1.1.2, ⟨hk.1.1.1.2, ⟨hk.1.1.2, ⟨hk.1.2, hk.2⟩⟩⟩⟩⟩⟩⟩))).2.1 (Kd.R_F (Kd.R_mono (ok' := (fun k_ => (P1_ k_ ∨ w.heap.size ≤ k_) ∧ some k_ ≠ (.slice Ao26 t616.length co26 : Value).ownBlock ∧ some k_ ≠ (.slice Ao27 t619.length co27 : Value).ownBlock ∧ some k_ ≠ (.slice Ao75 t637.length co75 : Value).ownBlock ∧ some k_ ≠ (.slice Ao76 t640.length co76 : Value).ownBlock ∧ k_ ≠ gb610 ∧ k_ ≠ gb623 ∧ k_ ≠ gb644)) (Kd.R_types (Kd.R_types (Kd.R_types (Kd.R_apart' (Kd.R_apart' (Kd.R_apart' (Kd.R_apart' (HO_11.out) (Kd.R_typed HO_624002.out) (by decide)) (Kd.R_typed HO_624003.out) (by decide)) (Kd.R_typed HO_645002.out) (by decide)) (Kd.R_typed HO_645003.out) (by decide)) BK610.out (by decide)) BK623.out (by decide)) BK644.out (by decide)) (fun k_ hk => ⟨(.inr (hk.1.1.1.1.1.1.1)), ⟨hk.1.1.1.1.1.1.2, ⟨hk.1.1.1.1.1.2, ⟨hk.1.1.1.1.2, ⟨hk.1.1.1.2, ⟨hk.1.1.2, ⟨hk.1.2, hk.2⟩⟩⟩⟩⟩⟩⟩))))) (Reps.one (show Kd.FK (Kd.slice 5 (Kd.int .u8)) _ _ l1 [.slice A1 l1.length c1] from (Kd.FK_slice_mk (Kd.V_reads' (Kd.V_mono (ok' := (fun k_ => (P1_ k_ ∨ w.heap.size ≤ k_) ∧ some k_ ≠ (.slice Ao26 t616.length co26 : Value).ownBlock ∧ some k_ ≠ (.slice Ao27 t619.length co27 : Value).ownBlock ∧ some k_ ≠ (.slice Ao75 t637.length co75 : Value).ownBlock ∧ some k_ ≠ (.slice Ao76 t640.length co76 : Value).ownBlock ∧ k_ ≠ gb610 ∧ k_ ≠ gb623 ∧ k_ ≠ gb644)) (HO_1.out) (fun k_ hk => ⟨hk.1, ⟨hk.2.2.1, ⟨hk.2.2.2.1, ⟨hk.2.2.2.2.1, ⟨hk.2.2.2.2.2.1, ⟨hk.2.2.2.2.2.2.1, ⟨hk.2.2.2.2.2.2.2.1, hk.2.2.2.2.2.2.2.2⟩⟩⟩⟩⟩⟩⟩))).2.1 (Kd.V_F (Kd.V_mono (ok' := (fun k_ => (P1_ k_ ∨ w.heap.size ≤ k_) ∧ some k_ ≠ (.slice Ao26 t616.length co26 : Value).ownBlock ∧ some k_ ≠ (.slice Ao27 t619.length co27 : Value).ownBlock ∧ some k_ ≠ (.slice Ao75 t637.length co75 : Value).ownBlock ∧ some k_ ≠ (.slice Ao76 t640.length co76 : Value).ownBlock ∧ k_ ≠ gb610 ∧ k_ ≠ gb623 ∧ k_ ≠ gb644)) (HO_1.out) (fun k_ hk => ⟨hk.1, ⟨hk.2.2.1, ⟨hk.2.2.2.1, ⟨hk.2.2.2.2.1, ⟨hk.2.2.2.2.2.1, ⟨hk.2.2.2.2.2.2.1, ⟨hk.2.2.2.2.2.2.2.1, hk.2.2.2.2.2.2.2.2⟩⟩⟩⟩⟩⟩⟩))))) (Reps.none _ _)))); intro v647 w121 ho122 hb hg_ hnew_; clear hg_ hnew_; (first | rw [← Ny646.out] at ho122 | (simp only [Int.reduceToNat] at ho122; rw [← Ny646.out] at ho122)); have n0_ := Aside0.mk (Kd.V_elder' y20_ (Kd.N_base ho122) hb); have n1_ := Aside0.mk (Kd.R_below y12_ hb); have n2_ := Aside0.mk (Kd.R_below y11_ hb); have n3_ := Aside0.mk (Kd.R_below y19_ hb); have n4_ := Aside0.mk (Kd.R_below y18_ hb); have n5_ := Aside0.mk (Kd.N_lower ho122 (below_size y2_)); have n6_ := Aside0.mk (blk_below (g := gb610) (o := .cells #[.int .i64 a0_0, .int .u32 a0_1, .slice A0_2 l0_2.length c0_2, .slice A0_3 l0_3.length c0_3] 29 (0, 0)) y6_ hb); have n7_ := Aside0.mk (blk_below (g := gb623) (o := .cells #[.int .i64 t614, .int .u32 t615, .slice Ao26 t616.length co26, .slice Ao27 t619.length co27] 29 (0, 0)) y9_ hb); have n8_ := Aside0.mk (blk_below (g := gb644) (o := .cells #[.int .i64 t635, .int .u32 t636, .slice Ao75 t637.length co75, .slice Ao76 t640.length co76] 29 (0, 0)) y13_ hb); have n9_ := Aside0.mk (below_step y2_ hb); have nC_ := Aside0.mk (below_step y66_ hb); clear HO_1; clear HO_624002; clear HO_624003; clear HO_645002; clear HO_645003; clear BK610; clear BK623; clear BK644; clear HB; clear HO_11; have HO_1 := n0_; have HO_624002 := n1_; have HO_624003 := n2_; have HO_645002 := n3_; have HO_645003 := n4_; have HO648 := n5_; have BK610 := n6_; have BK623 := n7_; have BK644 := n8_; have HB := n9_; clear HBC; have HBC := nC_; clear nC_; clear n0_ n1_ n2_ n3_ n4_ n5_ n6_ n7_ n8_ n9_; clear hb ho122; obtain ⟨Ao123, co123, eo123⟩ := Kd.N_slice HO648.out; subst eo123) | ((with_reducible refine gate_callee (f := 20) rfl ?_); refine goesL_ (some 94) rfl rfl Tryd.func20 (by kernel_rfl) rfl #[.slice Ao123 y646.length co123] rfl y3_ ?_; (with_reducible refine (manometerref01_Join.calls kj67 _ _ y646 t649 _ ?side1 ?side2 A87.out).mono ?_); (case side1 => repeat (first | exact (Kd.N_reads' HO648.out).2.2 | (with_reducible refine Kd.C_alloc ?_ _) | (with_reducible refine Kd.C_drewN ?_ _) | (with_reducible refine Kd.C_drew ?_))); (case side2 => exact (Kd.N_reads' HO648.out).2.1); rintro e w124 ⟨v650, rfl, ho0, hb⟩; refine ⟨_, rfl, ?_⟩; have n0_ := Aside0.mk (Kd.V_elder' y20_ (Kd.R_base ho0) hb); have n1_ := Aside0.mk (Kd.R_below y12_ hb); have n2_ := Aside0.mk (Kd.R_below y11_ hb); have n3_ := Aside0.mk (Kd.R_below y19_ hb); have n4_ := Aside0.mk (Kd.R_below y18_ hb); have n5_ := Aside0.mk (Kd.N_elder' y40_ (Kd.R_base ho0) hb); have n6_ := Aside0.mk (Kd.R_lower (Kd.R_newM (M := fun k_ => (w.heap.size ≤ k_)) ho0 (below_size y2_) (fun k_ h_ => h_)) (below_size y2_)); have n7_ := Aside0.mk (blk_below (g := gb610) (o := .cells #[.int .i64 a0_0, .int .u32 a0_1, .slice A0_2 l0_2.length c0_2, .slice A0_3 l0_3.length c0_3] 29 (0, 0)) y6_ hb); have n8_ := Aside0.mk (blk_below (g := gb623) (o := .cells #[.int .i64 t614, .int .u32 t615, .slice Ao26 t616.length co26, .slice Ao27 t619.length co27] 29 (0, 0)) y9_ hb); have n9_ := Aside0.mk (blk_below (g := gb644) (o := .cells #[.int .i64 t635, .int .u32 t636, .slice Ao75 t637.length co75, .slice Ao76 t640.length co76] 29 (0, 0)) y13_ hb); have n10_ := Aside0.mk (below_step y2_ hb); have nC_ := Aside0.mk (below_step y66_ hb); clear HO_1; clear HO_624002; clear HO_624003; clear HO_645002; clear HO_645003; clear HO648; clear BK610; clear BK623; clear BK644; clear HB; have HO_1 := n0_; have HO_624002 := n1_; have HO_624003 := n2_; have HO_645002 := n3_; have HO_645003 := n4_; have HO648 := n5_; have HO651 := n6_; have BK610 := n7_; have BK623 := n8_; have BK644 := n9_; have HB := n10_; clear HBC; have HBC := nC_; clear nC_; clear n0_ n1_ n2_ n3_ n4_ n5_ n6_ n7_ n8_ n9_ n10_; (try clear hb); (try clear hb2); (try clear hk); (try clear hi); (try clear ho0); obtain ⟨Ao125, co125, eo125⟩ := Kd.R_slice HO651.out; subst eo125) | ((with_reducible refine gate_callee (f := 9) rfl ?_); refine goesL_ (some 95) rfl rfl Tryd.func9 (by kernel_rfl) rfl #[.slice Ao125 t649.length co125] rfl y3_ ?_; (with_reducible refine (record_Take.calls kj67 _ _ t649 t652 t653 t654 t657 t660 _ ?side1 ?side2 ?side3 A88.out).mono ?_); (case side1 => exact ⟨Tab_below hT.out y2_⟩); (case side2 => repeat (first | exact (Kd.R_reads' HO651.out).2.2 | (with_reducible refine Kd.C_alloc ?_ _) | (with_reducible refine Kd.C_drewN ?_ _) | (with_reducible refine Kd.C_drew ?_))); (case side3 => exact (Kd.R_reads' HO651.out).2.1); rintro e w126 ⟨v655, v658, rfl, ho0, ho1, hb⟩; refine ⟨_, rfl, ?_⟩; have n0_ := Aside0.mk (Kd.V_mono (Kd.V_told (Kd.V_told (Kd.V_old y20_ hb) (Kd.R_base ho0)) (Kd.R_base ho1)) (fun _ h_ => h_.1)); have n1_ := Aside0.mk (Kd.R_elder' y12_ (Kd.R_base ho0) hb); have n2_ := Aside0.mk (Kd.R_elder' y11_ (Kd.R_base ho1) hb); have n3_ := Aside0.mk (Kd.R_elder' y19_ (Kd.R_base ho0) hb); have n4_ := Aside0.mk (Kd.R_elder' y18_ (Kd.R_base ho1) hb); have n5_ := Aside0.mk (Kd.N_mono (Kd.N_told (Kd.N_told (Kd.N_old y40_ hb) (Kd.R_base ho0)) (Kd.R_base ho1)) (fun _ h_ => h_.1)); have n6_ := Aside0.mk (Kd.R_below y52_ hb); have n7_ := Aside0.mk (Kd.R_lower (Kd.R_new' (Kd.R_new' (Kd.R_newM (M := fun k_ => (w.heap.size ≤ k_)) ho0 (below_size y2_) (fun k_ h_ => h_)) (Kd.R_lt y12_)) (Kd.R_lt y19_)) (below_size y2_)); have n8_ := Aside0.mk (Kd.R_lower (Kd.R_new' (Kd.R_new' (Kd.R_newM (M := fun k_ => (w.heap.size ≤ k_)) ho1 (below_size y2_) (fun k_ h_ => h_)) (Kd.R_lt y11_)) (Kd.R_lt y18_)) (below_size y2_)); have n9_ := Aside0.mk (blk_below (g := gb610) (o := .cells #[.int .i64 a0_0, .int .u32 a0_1, .slice A0_2 l0_2.length c0_2, .slice A0_3 l0_3.length c0_3] 29 (0, 0)) y6_ hb); have n10_ := Aside0.mk (blk_below (g := gb623) (o := .cells #[.int .i64 t614, .int .u32 t615, .slice Ao26 t616.length co26, .slice Ao27 t619.length co27] 29 (0, 0)) y9_ hb); have n11_ := Aside0.mk (blk_below (g := gb644) (o := .cells #[.int .i64 t635, .int .u32 t636, .slice Ao75 t637.length co75, .slice Ao76 t640.length co76] 29 (0, 0)) y13_ hb); have n12_ := Aside0.mk (below_step y2_ hb); have nC_ := Aside0.mk (below_step y66_ hb); clear HO_1; clear HO_624002; clear HO_624003; clear HO_645002; clear HO_645003; clear HO648; clear HO651; clear BK610; clear BK623; clear BK644; clear HB; have HO_1 := n0_; have HO_624002 := n1_; have HO_624003 := n2_; have HO_645002 := n3_; have HO_645003 := n4_; have HO648 := n5_; have HO651 := n6_; have HO656 := n7_; have HO659 := n8_; have BK610 := n9_; have BK623 := n10_; have BK644 := n11_; have HB := n12_; clear HBC; have HBC := nC_; clear nC_; clear n0_ n1_ n2_ n3_ n4_ n5_ n6_ n7_ n8_ n9_ n10_ n11_ n12_; (try clear hb); (try clear hb2); (try clear hk); (try clear hi); (try clear ho0); (try clear ho1)) | ((with_reducible refine gate_dst (N := 15) rfl ?_); (try (refine gate_guard (by rfl) ?_; dsimp only)); refine box_event ?hg (N := 15) ?hd (cs := #[.int .i64 0, .int .u32 0, .slice none 0 0, .slice none 0 0]) (t := 29) ?hr ?_; (case hd => rfl); (case hg => rfl); (case hr => first | (go_simp; done) | (go_simp; rfl)); intro gb661 hg w127 hbox hb; have n0_ := Aside0.mk (Kd.V_below (Kd.V_elderB y20_ gb661 (Nat.le_of_eq hg.symm)) hb); have n1_ := Aside0.mk (Kd.R_below y12_ hb); have n2_ := Aside0.mk (Kd.R_below y11_ hb); have n3_ := Aside0.mk (Kd.R_below y19_ hb); have n4_ := Aside0.mk (Kd.R_below y18_ hb); have n5_ := Aside0.mk (Kd.N_below (Kd.N_elderB y40_ gb661 (Nat.le_of_eq hg.symm)) hb); have n6_ := Aside0.mk (Kd.R_below y52_ hb); have n7_ := Aside0.mk (Kd.R_below y63_ hb); have n8_ := Aside0.mk (Kd.R_below y62_ hb); have n9_ := Aside0.mk (blk_below (g := gb610) (o := .cells #[.int .i64 a0_0, .int .u32 a0_1, .slice A0_2 l0_2.length c0_2, .slice A0_3 l0_3.length c0_3] 29 (0, 0)) y6_ hb); have n10_ := Aside0.mk (blk_below (g := gb623) (o := .cells #[.int .i64 t614, .int .u32 t615, .slice Ao26 t616.length co26, .slice Ao27 t619.length co27] 29 (0, 0)) y9_ hb); have n11_ := Aside0.mk (blk_below (g := gb644) (o := .cells #[.int .i64 t635, .int .u32 t636, .slice Ao75 t637.length co75, .slice Ao76 t640.length co76] 29 (0, 0)) y13_ hb); have n12_ := Aside0.mk (below_step y2_ hb); have nC_ := Aside0.mk (below_step y66_ hb); have nG_ := Aside0.mk ((by rw [hg]; exact (below_size y66_)) : wc.heap.size ≤ gb661); have n13_ := Aside0.mk (hbox); have n14_ := Aside0.mk ((y96_ : w.heap.size ≤ gb661)); have n15_ := Aside0.mk ((y96_ : w.heap.size ≤ gb661)); have n16_ := Aside0.mk ((y44_ : gb610 ≠ gb661)); have n17_ := Aside0.mk ((y45_ : gb661 ≠ gb610)); have n18_ := Aside0.mk ((y48_ : gb623 ≠ gb661)); have n19_ := Aside0.mk ((y49_ : gb661 ≠ gb623)); have n20_ := Aside0.mk ((y55_ : gb644 ≠ gb661)); have n21_ := Aside0.mk ((y56_ : gb661 ≠ gb644)); clear HO_1; clear HO_624002; clear HO_624003; clear HO_645002; clear HO_645003; clear HO648; clear HO651; clear HO656; clear HO659; clear BK610; clear BK623; clear BK644; clear HB; have HO_1 := n0_; have HO_624002 := n1_; have HO_624003 := n2_; have HO_645002 := n3_; have HO_645003 := n4_; have HO648 := n5_; have HO651 := n6_; have HO656 := n7_; have HO659 := n8_; have BK610 := n9_; have BK623 := n10_; have BK644 := n11_; have HB := n12_; clear HBC; have HBC := nC_; clear nC_; have GEC661 := nG_; clear nG_; have BK661 := n13_; have GW661 := n14_; have GE661 := n15_; have NB610_661 := n16_; have NB661_610 := n17_; have NB623_661 := n18_; have NB661_623 := n19_; have NB644_661 := n20_; have NB661_644 := n21_; clear n0_ n1_ n2_ n3_ n4_ n5_ n6_ n7_ n8_ n9_ n10_ n11_ n12_ n13_ n14_ n15_ n16_ n17_ n18_ n19_ n20_ n21_; clear hb hbox hg; have hnb128 := NB661_610.out; have hnc128 := NB610_661.out; have hnb129 := NB661_623.out; have hnc129 := NB623_661.out; have hnb130 := NB661_644.out; have hnc130 := NB644_661.out; have hcz131_0 : w127.cell? ⟨gb661, 0, none⟩ = some (.int .i64 0) := (blk_cell BK661.out 0).trans rfl; have hcz131_1 : w127.cell? ⟨gb661, 1, none⟩ = some (.int .u32 0) := (blk_cell BK661.out 1).trans rfl; have hcz131_2 : w127.cell? ⟨gb661, 2, none⟩ = some (.slice none 0 0) := (blk_cell BK661.out 2).trans rfl; have hcz131_3 : w127.cell? ⟨gb661, 3, none⟩ = some (.slice none 0 0) := (blk_cell BK661.out 3).trans rfl; have hfz131_0 := blk_frozen BK661.out 0; have hfz131_1 := blk_frozen BK661.out 1; have hfz131_2 := blk_frozen BK661.out 2; have hfz131_3 := blk_frozen BK661.out 3; obtain ⟨Ao132, co132, eo132⟩ := Kd.R_slice HO656.out; subst eo132; obtain ⟨Ao133, co133, eo133⟩ := Kd.R_slice HO659.out; subst eo133) | ((with_reducible refine gate_store (t := 29) (p := 15) rfl ?_); refine store_event (t := 29) (p := 15) (v := ?vo_w134) (w1 := ((((w127.setCell ⟨gb661, 0, none⟩ (.int .i64 t652)).setCell ⟨gb661, 1, none⟩ (.int .u32 t653)).setCell ⟨gb661, 2, none⟩ (.slice Ao132 t654.length co132)).setCell ⟨gb661, 3, none⟩ (.slice Ao133 t657.length co133))) ?hg ?ho ?hn ?hr ?_; (case ho => rfl); (case hg => rfl); (case hn => rfl); (case hr => first | (go_simp; done) | (go_simp; rfl)); intro w134 hw; have n0_ : Aside0 (Kd.V (Kd.int .u8) 5 w134 w.heap.size (fun k_ => (P1_ k_ ∨ w.heap.size ≤ k_) ∧ some k_ ≠ (.slice Ao26 t616.length co26 : Value).ownBlock ∧ some k_ ≠ (.slice Ao27 t619.length co27 : Value).ownBlock ∧ some k_ ≠ (.slice Ao75 t637.length co75 : Value).ownBlock ∧ some k_ ≠ (.slice Ao76 t640.length co76 : Value).ownBlock ∧ some k_ ≠ (.slice Ao123 y646.length co123 : Value).ownBlock ∧ some k_ ≠ (.slice Ao125 t649.length co125 : Value).ownBlock ∧ some k_ ≠ (.slice Ao132 t654.length co132 : Value).ownBlock ∧ some k_ ≠ (.slice Ao133 t657.length co133 : Value).ownBlock ∧ k_ ≠ gb610 ∧ k_ ≠ gb623 ∧ k_ ≠ gb644 ∧ k_ ≠ gb661) (.slice A1 l1.length c1) l1) := ⟨(by rw [hw]; exact (by (with_reducible repeat (first | apply Kd.V_alloc | apply Kd.V_drewN | apply Kd.V_drew)); exact Kd.V_mono (Kd.V_far (p := ⟨gb661, 3, none⟩) (Kd.V_far (p := ⟨gb661, 2, none⟩) (Kd.V_far (p := ⟨gb661, 1, none⟩) (Kd.V_far (p := ⟨gb661, 0, none⟩) (Kd.V_mono HO_1.out (fun k_ hk => (⟨hk, hk.2⟩ : _ ∧ k_ ≠ gb661))) (fun _ hk => hk.2) (.int .i64 t652)) (fun _ hk => hk.2) (.int .u32 t653)) (fun _ hk => hk.2) (.slice Ao132 t654.length co132)) (fun _ hk => hk.2) (.slice Ao133 t657.length co133)) (fun _ hk => ⟨hk.1.1.1.1.1.1.1, ⟨hk.1.1.1.1.1.1.2.2.1, ⟨hk.1.1.1.1.1.1.2.2.2.1, ⟨hk.1.1.1.1.1.1.2.2.2.2.1, ⟨hk.1.1.1.1.1.1.2.2.2.2.2.1, ⟨hk.1.1.1.1.1.2, ⟨hk.1.1.1.1.2, ⟨hk.1.1.1.2, ⟨hk.1.1.2, ⟨hk.1.1.1.1.1.1.2.2.2.2.2.2.1, ⟨hk.1.1.1.1.1.1.2.2.2.2.2.2.2.1, ⟨hk.1.1.1.1.1.1.2.2.2.2.2.2.2.2, hk.1.2⟩⟩⟩⟩⟩⟩⟩⟩⟩⟩⟩⟩)))⟩; have n1_ : Aside0 (Kd.R k52 52 w134 w.heap.size (fun k_ => (w.heap.size ≤ k_) ∧ some k_ ≠ (.slice Ao75 t637.length co75 : Value).ownBlock ∧ some k_ ≠ (.slice Ao132 t654.length co132 : Value).ownBlock) (.slice Ao26 t616.length co26) t616) := ⟨(by rw [hw]; exact (by (with_reducible repeat (first | apply Kd.R_alloc | apply Kd.R_drewN | apply Kd.R_drew)); exact Kd.R_mono (Kd.R_far (p := ⟨gb661, 3, none⟩) (Kd.R_far (p := ⟨gb661, 2, none⟩) (Kd.R_far (p := ⟨gb661, 1, none⟩) (Kd.R_far (p := ⟨gb661, 0, none⟩) (Kd.R_types HO_624002.out BK661.out (by decide)) (fun _ hk => hk.2) (.int .i64 t652)) (fun _ hk => hk.2) (.int .u32 t653)) (fun _ hk => hk.2) (.slice Ao132 t654.length co132)) (fun _ hk => hk.2) (.slice Ao133 t657.length co133)) (fun _ hk => ⟨hk.1.1.1, ⟨hk.1.1.2, hk.1.2⟩⟩)))⟩; have n2_ : Aside0 (Kd.R k45 45 w134 w.heap.size (fun k_ => (w.heap.size ≤ k_) ∧ some k_ ≠ (.slice Ao76 t640.length co76 : Value).ownBlock ∧ some k_ ≠ (.slice Ao133 t657.length co133 : Value).ownBlock) (.slice Ao27 t619.length co27) t619) := ⟨(by rw [hw]; exact (by (with_reducible repeat (first | apply Kd.R_alloc | apply Kd.R_drewN | apply Kd.R_drew)); exact Kd.R_mono (Kd.R_far (p := ⟨gb661, 3, none⟩) (Kd.R_far (p := ⟨gb661, 2, none⟩) (Kd.R_far (p := ⟨gb661, 1, none⟩) (Kd.R_far (p := ⟨gb661, 0, none⟩) (Kd.R_types HO_624003.out BK661.out (by decide)) (fun _ hk => hk.2) (.int .i64 t652)) (fun _ hk => hk.2) (.int .u32 t653)) (fun _ hk => hk.2) (.slice Ao132 t654.length co132)) (fun _ hk => hk.2) (.slice Ao133 t657.length co133)) (fun _ hk => ⟨hk.1.1.1, ⟨hk.1.1.2, hk.1.2⟩⟩)))⟩; have n3_ : Aside0 (Kd.R k52 52 w134 w.heap.size (fun k_ => (w.heap.size ≤ k_) ∧ some k_ ≠ (.slice Ao26 t616.length co26 : Value).ownBlock ∧ some k_ ≠ (.slice Ao132 t654.length co132 : Value).ownBlock) (.slice Ao75 t637.length co75) t637) := ⟨(by rw [hw]; exact (by (with_reducible repeat (first | apply Kd.R_alloc | apply Kd.R_drewN | apply Kd.R_drew)); exact Kd.R_mono (Kd.R_far (p := ⟨gb661, 3, none⟩) (Kd.R_far (p := ⟨gb661, 2, none⟩) (Kd.R_far (p := ⟨gb661, 1, none⟩) (Kd.R_far (p := ⟨gb661, 0, none⟩) (Kd.R_types HO_645002.out BK661.out (by decide)) (fun _ hk => hk.2) (.int .i64 t652)) (fun _ hk => hk.2) (.int .u32 t653)) (fun _ hk => hk.2) (.slice Ao132 t654.length co132)) (fun _ hk => hk.2) (.slice Ao133 t657.length co133)) (fun _ hk => ⟨hk.1.1.1, ⟨hk.1.1.2, hk.1.2⟩⟩)))⟩; have n4_ : Aside0 (Kd.R k45 45 w134 w.heap.size (fun k_ => (w.heap.size ≤ k_) ∧ some k_ ≠ (.slice Ao27 t619.length co27 : Value).ownBlock ∧ some k_ ≠ (.slice Ao133 t657.length co133 : Value).ownBlock) (.slice Ao76 t640.length co76) t640) := ⟨(by rw [hw]; exact (by (with_reducible repeat (first | apply Kd.R_alloc | apply Kd.R_drewN | apply Kd.R_drew)); exact Kd.R_mono (Kd.R_far (p := ⟨gb661, 3, none⟩) (Kd.R_far (p := ⟨gb661, 2, none⟩) (Kd.R_far (p := ⟨gb661, 1, none⟩) (Kd.R_far (p := ⟨gb661, 0, none⟩) (Kd.R_types HO_645003.out BK661.out (by decide)) (fun _ hk => hk.2) (.int .i64 t652)) (fun _ hk => hk.2) (.int .u32 t653)) (fun _ hk => hk.2) (.slice Ao132 t654.length co132)) (fun _ hk => hk.2) (.slice Ao133 t657.length co133)) (fun _ hk => ⟨hk.1.1.1, ⟨hk.1.1.2, hk.1.2⟩⟩)))⟩; have n5_ : Aside0 (Kd.N (Kd.slice 5 (Kd.int .u8)) 22 w134 w.heap.size (fun k_ => (P1_ k_ ∨ w.heap.size ≤ k_) ∧ some k_ ≠ (.slice Ao26 t616.length co26 : Value).ownBlock ∧ some k_ ≠ (.slice Ao27 t619.length co27 : Value).ownBlock ∧ some k_ ≠ (.slice Ao75 t637.length co75 : Value).ownBlock ∧ some k_ ≠ (.slice Ao76 t640.length co76 : Value).ownBlock ∧ some k_ ≠ (.slice Ao125 t649.length co125 : Value).ownBlock ∧ some k_ ≠ (.slice Ao132 t654.length co132 : Value).ownBlock ∧ some k_ ≠ (.slice Ao133 t657.length co133 : Value).ownBlock ∧ k_ ≠ gb610 ∧ k_ ≠ gb623 ∧ k_ ≠ gb644 ∧ k_ ≠ gb661) (.slice Ao123 y646.length co123) y646) := ⟨(by rw [hw]; exact (by (with_reducible repeat (first | apply Kd.N_alloc | apply Kd.N_drewN | apply Kd.N_drew)); exact Kd.N_mono (Kd.N_far (p := ⟨gb661, 3, none⟩) (Kd.N_far (p := ⟨gb661, 2, none⟩) (Kd.N_far (p := ⟨gb661, 1, none⟩) (Kd.N_far (p := ⟨gb661, 0, none⟩) (Kd.N_mono HO648.out (fun k_ hk => (⟨hk, hk.2⟩ : _ ∧ k_ ≠ gb661))) (fun _ hk => hk.2) (.int .i64 t652)) (fun _ hk => hk.2) (.int .u32 t653)) (fun _ hk => hk.2) (.slice Ao132 t654.length co132)) (fun _ hk => hk.2) (.slice Ao133 t657.length co133)) (fun _ hk => ⟨hk.1.1.1.1.1.1, ⟨hk.1.1.1.1.1.2.1, ⟨hk.1.1.1.1.1.2.2.1, ⟨hk.1.1.1.1.1.2.2.2.1, ⟨hk.1.1.1.1.1.2.2.2.2.1, ⟨hk.1.1.1.1.2, ⟨hk.1.1.1.2, ⟨hk.1.1.2, ⟨hk.1.1.1.1.1.2.2.2.2.2.1, ⟨hk.1.1.1.1.1.2.2.2.2.2.2.1, ⟨hk.1.1.1.1.1.2.2.2.2.2.2.2, hk.1.2⟩⟩⟩⟩⟩⟩⟩⟩⟩⟩⟩)))⟩; have n6_ : Aside0 (Kd.R (Kd.int .u8) 5 w134 w.heap.size (fun k_ => (w.heap.size ≤ k_)) (.slice Ao125 t649.length co125) t649) := ⟨(by rw [hw]; exact (by (with_reducible repeat (first | apply Kd.R_alloc | apply Kd.R_drewN | apply Kd.R_drew)); exact Kd.R_mono (Kd.R_far (p := ⟨gb661, 3, none⟩) (Kd.R_far (p := ⟨gb661, 2, none⟩) (Kd.R_far (p := ⟨gb661, 1, none⟩) (Kd.R_far (p := ⟨gb661, 0, none⟩) (Kd.R_types HO651.out BK661.out (by decide)) (fun _ hk => hk.2) (.int .i64 t652)) (fun _ hk => hk.2) (.int .u32 t653)) (fun _ hk => hk.2) (.slice Ao132 t654.length co132)) (fun _ hk => hk.2) (.slice Ao133 t657.length co133)) (fun _ hk => hk.1.1)))⟩; have n7_ : Aside0 (Kd.R k52 52 w134 w.heap.size (fun k_ => (w.heap.size ≤ k_) ∧ some k_ ≠ (.slice Ao26 t616.length co26 : Value).ownBlock ∧ some k_ ≠ (.slice Ao75 t637.length co75 : Value).ownBlock) (.slice Ao132 t654.length co132) t654) := ⟨(by rw [hw]; exact (by (with_reducible repeat (first | apply Kd.R_alloc | apply Kd.R_drewN | apply Kd.R_drew)); exact Kd.R_mono (Kd.R_far (p := ⟨gb661, 3, none⟩) (Kd.R_far (p := ⟨gb661, 2, none⟩) (Kd.R_far (p := ⟨gb661, 1, none⟩) (Kd.R_far (p := ⟨gb661, 0, none⟩) (Kd.R_types HO656.out BK661.out (by decide)) (fun _ hk => hk.2) (.int .i64 t652)) (fun _ hk => hk.2) (.int .u32 t653)) (fun _ hk => hk.2) (.slice Ao132 t654.length co132)) (fun _ hk => hk.2) (.slice Ao133 t657.length co133)) (fun _ hk => ⟨hk.1.1.1.1, ⟨hk.1.1.2, hk.1.2⟩⟩)))⟩; have n8_ : Aside0 (Kd.R k45 45 w134 w.heap.size (fun k_ => (w.heap.size ≤ k_) ∧ some k_ ≠ (.slice Ao27 t619.length co27 : Value).ownBlock ∧ some k_ ≠ (.slice Ao76 t640.length co76 : Value).ownBlock) (.slice Ao133 t657.length co133) t657) := ⟨(by rw [hw]; exact (by (with_reducible repeat (first | apply Kd.R_alloc | apply Kd.R_drewN | apply Kd.R_drew)); exact Kd.R_mono (Kd.R_far (p := ⟨gb661, 3, none⟩) (Kd.R_far (p := ⟨gb661, 2, none⟩) (Kd.R_far (p := ⟨gb661, 1, none⟩) (Kd.R_far (p := ⟨gb661, 0, none⟩) (Kd.R_types HO659.out BK661.out (by decide)) (fun _ hk => hk.2) (.int .i64 t652)) (fun _ hk => hk.2) (.int .u32 t653)) (fun _ hk => hk.2) (.slice Ao132 t654.length co132)) (fun _ hk => hk.2) (.slice Ao133 t657.length co133)) (fun _ hk => ⟨hk.1.1.1.1, ⟨hk.1.1.2, hk.1.2⟩⟩)))⟩; have n9_ : Aside0 (w134.heap[gb610]? = some (.cells #[.int .i64 a0_0, .int .u32 a0_1, .slice A0_2 l0_2.length c0_2, .slice A0_3 l0_3.length c0_3] 29 (0, 0))) := ⟨(by rw [hw]; exact (by (with_reducible repeat (first | refine blk_drewN ?_ _ | refine blk_drew ?_ | refine blk_alloc ?_ _)); refine blk_far ?_ NB610_661.out _; (with_reducible repeat (first | refine blk_drewN ?_ _ | refine blk_drew ?_ | refine blk_alloc ?_ _)); refine blk_far ?_ NB610_661.out _; (with_reducible repeat (first | refine blk_drewN ?_ _ | refine blk_drew ?_ | refine blk_alloc ?_ _)); refine blk_far ?_ NB610_661.out _; (with_reducible repeat (first | refine blk_drewN ?_ _ | refine blk_drew ?_ | refine blk_alloc ?_ _)); refine blk_far ?_ NB610_661.out _; (with_reducible repeat (first | refine blk_drewN ?_ _ | refine blk_drew ?_ | refine blk_alloc ?_ _)); exact BK610.out))⟩; have n10_ : Aside0 (w134.heap[gb623]? = some (.cells #[.int .i64 t614, .int .u32 t615, .slice Ao26 t616.length co26, .slice Ao27 t619.length co27] 29 (0, 0))) := ⟨(by rw [hw]; exact (by (with_reducible repeat (first | refine blk_drewN ?_ _ | refine blk_drew ?_ | refine blk_alloc ?_ _)); refine blk_far ?_ NB623_661.out _; (with_reducible repeat (first | refine blk_drewN ?_ _ | refine blk_drew ?_ | refine blk_alloc ?_ _)); refine blk_far ?_ NB623_661.out _; (with_reducible repeat (first | refine blk_drewN ?_ _ | refine blk_drew ?_ | refine blk_alloc ?_ _)); refine blk_far ?_ NB623_661.out _; (with_reducible repeat (first | refine blk_drewN ?_ _ | refine blk_drew ?_ | refine blk_alloc ?_ _)); refine blk_far ?_ NB623_661.out _; (with_reducible repeat (first | refine blk_drewN ?_ _ | refine blk_drew ?_ | refine blk_alloc ?_ _)); exact BK623.out))⟩; have n11_ : Aside0 (w134.heap[gb644]? = some (.cells #[.int .i64 t635, .int .u32 t636, .slice Ao75 t637.length co75, .slice Ao76 t640.length co76] 29 (0, 0))) := ⟨(by rw [hw]; exact (by (with_reducible repeat (first | refine blk_drewN ?_ _ | refine blk_drew ?_ | refine blk_alloc ?_ _)); refine blk_far ?_ NB644_661.out _; (with_reducible repeat (first | refine blk_drewN ?_ _ | refine blk_drew ?_ | refine blk_alloc ?_ _)); refine blk_far ?_ NB644_661.out _; (with_reducible repeat (first | refine blk_drewN ?_ _ | refine blk_drew ?_ | refine blk_alloc ?_ _)); refine blk_far ?_ NB644_661.out _; (with_reducible repeat (first | refine blk_drewN ?_ _ | refine blk_drew ?_ | refine blk_alloc ?_ _)); refine blk_far ?_ NB644_661.out _; (with_reducible repeat (first | refine blk_drewN ?_ _ | refine blk_drew ?_ | refine blk_alloc ?_ _)); exact BK644.out))⟩; have n12_ : Aside0 (w134.heap[gb661]? = some (.cells #[.int .i64 t652, .int .u32 t653, .slice Ao132 t654.length co132, .slice Ao133 t657.length co133] 29 (0, 0))) := ⟨(by rw [hw]; exact (by (with_reducible repeat (first | refine blk_drewN ?_ _ | refine blk_drew ?_ | refine blk_alloc ?_ _)); refine blk_put (cs := #[.int .i64 t652, .int .u32 t653, .slice Ao132 t654.length co132, .slice none 0 0]) ?_ 3 _ rfl; (with_reducible repeat (first | refine blk_drewN ?_ _ | refine blk_drew ?_ | refine blk_alloc ?_ _)); refine blk_put (cs := #[.int .i64 t652, .int .u32 t653, .slice none 0 0, .slice none 0 0]) ?_ 2 _ rfl; (with_reducible repeat (first | refine blk_drewN ?_ _ | refine blk_drew ?_ | refine blk_alloc ?_ _)); refine blk_put (cs := #[.int .i64 t652, .int .u32 0, .slice none 0 0, .slice none 0 0]) ?_ 1 _ rfl; (with_reducible repeat (first | refine blk_drewN ?_ _ | refine blk_drew ?_ | refine blk_alloc ?_ _)); refine blk_put (cs := #[.int .i64 0, .int .u32 0, .slice none 0 0, .slice none 0 0]) ?_ 0 _ rfl; (with_reducible repeat (first | refine blk_drewN ?_ _ | refine blk_drew ?_ | refine blk_alloc ?_ _)); exact BK661.out))⟩; have n13_ : Aside0 (Below w.heap.size w w134) := ⟨(by rw [hw]; exact y17_)⟩; have nC_ : Aside0 (Below wc.heap.size wc w134) := ⟨(by rw [hw]; exact (by repeat (first | (with_reducible first | exact HBC.out | apply below_alloc | apply pw_below_drewN | apply below_drew1 | refine below_set ?_ GEC661.out) | exact HBC.out)))⟩; clear hw; clear HO_1; clear HO_624002; clear HO_624003; clear HO_645002; clear HO_645003; clear HO648; clear HO651; clear HO656; clear HO659; clear BK610; clear BK623; clear BK644; clear BK661; clear HB; have HO_1 := n0_; have HO_624002 := n1_; have HO_624003 := n2_; have HO_645002 := n3_; have HO_645003 := n4_; have HO648 := n5_; have HO651 := n6_; have HO656 := n7_; have HO659 := n8_; have BK610 := n9_; have BK623 := n10_; have BK644 := n11_; have BK661 := n12_; have HB := n13_; clear HBC; have HBC := nC_; clear nC_; clear n0_ n1_ n2_ n3_ n4_ n5_ n6_ n7_ n8_ n9_ n10_ n11_ n12_ n13_; have q135 : (a2 : Int) ≤ ((t629.length : Int) : Int) := of_decide_eq_true y7_; obtain ⟨i0135, hi0135, _, hsz135, _⟩ := info_parts info5; have hroom135 : t629.length ≤ co69 := (Kd.R_reads' HOPW.out).2.1; have hC135 : Kd.C (Kd.int .u8) _ Ao69 t629.length t629 := Kd.C_below (Kd.R_reads' HOPW.out).2.2 HBC.out; have hcut135 := cut_to (P := Tryd.prog) 22 5 .i64 Tryd.underlying22 hi0135 Ao69 t629.length co69 a2 (of_decide_eq_true y7_) q135 hroom135; have hr135 := Kd.C_take (m := (a2 : Int).toNat) hC135 (by omega); have hy135 : y662.length = (a2 : Int).toNat := (by rw [Ny662.out, List.length_take]; omega); rw [← Ny662.out] at hr135; rw [← hy135] at hcut135; have HO666 := Aside0.mk hr135; have HC666 := Aside0.mk (show y662.length ≤ co69 from by omega); clear hr135 hC135 hroom135 hi0135 hsz135; have KY135 := Aside0.mk hy135; clear hy135; have KL135 := Aside0.mk (show (a2 : Int).toNat ≤ t629.length from by omega); replace q135 := eq_true q135) | ((with_reducible refine gate_callee (f := 9) rfl ?_); refine goesL_ (some 112) rfl rfl Tryd.func9 (by kernel_rfl) rfl #[.slice Ao69 y662.length co69] rfl y3_ ?_; (with_reducible refine (record_Take.calls kj67 _ _ y662 t667 t668 t669 t672 t675 _ ?side1 ?side2 ?side3 A120.out).mono ?_); (case side1 => exact ⟨Tab_below hT.out y17_⟩); (case side2 => repeat (first | exact HO666.out | (with_reducible refine Kd.C_alloc ?_ _) | (with_reducible refine Kd.C_drewN ?_ _) | (with_reducible refine Kd.C_drew ?_))); (case side3 => exact HC666.out); rintro e w136 ⟨v670, v673, rfl, ho0, ho1, hb⟩; refine ⟨_, rfl, ?_⟩; have n0_ := Aside0.mk (Kd.V_mono (Kd.V_told (Kd.V_told (Kd.V_old y20_ hb) (Kd.R_base ho0)) (Kd.R_base ho1)) (fun _ h_ => h_.1)); have n1_ := Aside0.mk (Kd.R_elder' y12_ (Kd.R_base ho0) hb); have n2_ := Aside0.mk (Kd.R_elder' y11_ (Kd.R_base ho1) hb); have n3_ := Aside0.mk (Kd.R_elder' y19_ (Kd.R_base ho0) hb); have n4_ := Aside0.mk (Kd.R_elder' y18_ (Kd.R_base ho1) hb); have n5_ := Aside0.mk (Kd.N_mono (Kd.N_told (Kd.N_told (Kd.N_old y40_ hb) (Kd.R_base ho0)) (Kd.R_base ho1)) (fun _ h_ => h_.1)); have n6_ := Aside0.mk (Kd.R_below y52_ hb); have n7_ := Aside0.mk (Kd.R_elder' y63_ (Kd.R_base ho0) hb); have n8_ := Aside0.mk (Kd.R_elder' y62_ (Kd.R_base ho1) hb); have n9_ := Aside0.mk (Kd.R_lower (Kd.R_new' (Kd.R_new' (Kd.R_new' (Kd.R_newM (M := fun k_ => (w.heap.size ≤ k_)) ho0 (below_size y17_) (fun k_ h_ => h_)) (Kd.R_lt y12_)) (Kd.R_lt y19_)) (Kd.R_lt y63_)) (below_size y17_)); have n10_ := Aside0.mk (Kd.R_lower (Kd.R_new' (Kd.R_new' (Kd.R_new' (Kd.R_newM (M := fun k_ => (w.heap.size ≤ k_)) ho1 (below_size y17_) (fun k_ h_ => h_)) (Kd.R_lt y11_)) (Kd.R_lt y18_)) (Kd.R_lt y62_)) (below_size y17_)); have n11_ := Aside0.mk (blk_below (g := gb610) (o := .cells #[.int .i64 a0_0, .int .u32 a0_1, .slice A0_2 l0_2.length c0_2, .slice A0_3 l0_3.length c0_3] 29 (0, 0)) y6_ hb); have n12_ := Aside0.mk (blk_below (g := gb623) (o := .cells #[.int .i64 t614, .int .u32 t615, .slice Ao26 t616.length co26, .slice Ao27 t619.length co27] 29 (0, 0)) y9_ hb); have n13_ := Aside0.mk (blk_below (g := gb644) (o := .cells #[.int .i64 t635, .int .u32 t636, .slice Ao75 t637.length co75, .slice Ao76 t640.length co76] 29 (0, 0)) y13_ hb); have n14_ := Aside0.mk (blk_below (g := gb661) (o := .cells #[.int .i64 t652, .int .u32 t653, .slice Ao132 t654.length co132, .slice Ao133 t657.length co133] 29 (0, 0)) y90_ hb); have n15_ := Aside0.mk (below_step y17_ hb); clear HO_1; clear HO_624002; clear HO_624003; clear HO_645002; clear HO_645003; clear HO648; clear HO651; clear HO656; clear HO659; clear BK610; clear BK623; clear BK644; clear BK661; clear HB; have HO_1 := n0_; have HO_624002 := n1_; have HO_624003 := n2_; have HO_645002 := n3_; have HO_645003 := n4_; have HO648 := n5_; have HO651 := n6_; have HO656 := n7_; have HO659 := n8_; have HO671 := n9_; have HO674 := n10_; have BK610 := n11_; have BK623 := n12_; have BK644 := n13_; have BK661 := n14_; have HB := n15_; clear n0_ n1_ n2_ n3_ n4_ n5_ n6_ n7_ n8_ n9_ n10_ n11_ n12_ n13_ n14_ n15_; (try clear hb); (try clear hb2); (try clear hk); (try clear hi); (try clear ho0); (try clear ho1)) | ((with_reducible refine gate_dst (N := 17) rfl ?_); (try (refine gate_guard (by rfl) ?_; dsimp only)); refine box_event ?hg (N := 17) ?hd (cs := #[.int .i64 0, .int .u32 0, .slice none 0 0, .slice none 0 0]) (t := 29) ?hr ?_; (case hd => rfl); (case hg => rfl); (case hr => first | (go_simp; done) | (go_simp; rfl)); intro gb676 hg w137 hbox hb; have n0_ := Aside0.mk (Kd.V_below (Kd.V_elderB y20_ gb676 (Nat.le_of_eq hg.symm)) hb); have n1_ := Aside0.mk (Kd.R_below y12_ hb); have n2_ := Aside0.mk (Kd.R_below y11_ hb); have n3_ := Aside0.mk (Kd.R_below y19_ hb); have n4_ := Aside0.mk (Kd.R_below y18_ hb); have n5_ := Aside0.mk (Kd.N_below (Kd.N_elderB y40_ gb676 (Nat.le_of_eq hg.symm)) hb); have n6_ := Aside0.mk (Kd.R_below y52_ hb); have n7_ := Aside0.mk (Kd.R_below y63_ hb); have n8_ := Aside0.mk (Kd.R_below y62_ hb); have n9_ := Aside0.mk (Kd.R_below (by (with_reducible repeat (first | apply Kd.R_alloc | apply Kd.R_drewN | apply Kd.R_drew)); exact HO671.out) hb); have n10_ := Aside0.mk (Kd.R_below (by (with_reducible repeat (first | apply Kd.R_alloc | apply Kd.R_drewN | apply Kd.R_drew)); exact HO674.out) hb); have n11_ := Aside0.mk (blk_below (g := gb610) (o := .cells #[.int .i64 a0_0, .int .u32 a0_1, .slice A0_2 l0_2.length c0_2, .slice A0_3 l0_3.length c0_3] 29 (0, 0)) y6_ hb); have n12_ := Aside0.mk (blk_below (g := gb623) (o := .cells #[.int .i64 t614, .int .u32 t615, .slice Ao26 t616.length co26, .slice Ao27 t619.length co27] 29 (0, 0)) y9_ hb); have n13_ := Aside0.mk (blk_below (g := gb644) (o := .cells #[.int .i64 t635, .int .u32 t636, .slice Ao75 t637.length co75, .slice Ao76 t640.length co76] 29 (0, 0)) y13_ hb); have n14_ := Aside0.mk (blk_below (g := gb661) (o := .cells #[.int .i64 t652, .int .u32 t653, .slice Ao132 t654.length co132, .slice Ao133 t657.length co133] 29 (0, 0)) y90_ hb); have n15_ := Aside0.mk (below_step y17_ hb); have n16_ := Aside0.mk (hbox); have n17_ := Aside0.mk ((by rw [hg]; exact (below_size y17_) : w.heap.size ≤ gb676)); have n18_ := Aside0.mk ((by rw [hg]; exact (below_size y17_) : w.heap.size ≤ gb676)); have n19_ := Aside0.mk ((y44_ : gb610 ≠ gb676)); have n20_ := Aside0.mk ((y45_ : gb676 ≠ gb610)); have n21_ := Aside0.mk ((y48_ : gb623 ≠ gb676)); have n22_ := Aside0.mk ((y49_ : gb676 ≠ gb623)); have n23_ := Aside0.mk ((y55_ : gb644 ≠ gb676)); have n24_ := Aside0.mk ((y56_ : gb676 ≠ gb644)); have n25_ := Aside0.mk ((by rw [hg]; exact Nat.ne_of_lt (blk_lt (g := gb661) (o := .cells #[.int .i64 t652, .int .u32 t653, .slice Ao132 t654.length co132, .slice Ao133 t657.length co133] 29 (0, 0)) y90_) : gb661 ≠ gb676)); have n26_ := Aside0.mk ((by rw [hg]; exact Nat.ne_of_gt (blk_lt (g := gb661) (o := .cells #[.int .i64 t652, .int .u32 t653, .slice Ao132 t654.length co132, .slice Ao133 t657.length co133] 29 (0, 0)) y90_) : gb676 ≠ gb661)); clear HO_1; clear HO_624002; clear HO_624003; clear HO_645002; clear HO_645003; clear HO648; clear HO651; clear HO656; clear HO659; clear HO671; clear HO674; clear BK610; clear BK623; clear BK644; clear BK661; clear HB; have HO_1 := n0_; have HO_624002 := n1_; have HO_624003 := n2_; have HO_645002 := n3_; have HO_645003 := n4_; have HO648 := n5_; have HO651 := n6_; have HO656 := n7_; have HO659 := n8_; have HO671 := n9_; have HO674 := n10_; have BK610 := n11_; have BK623 := n12_; have BK644 := n13_; have BK661 := n14_; have HB := n15_; have BK676 := n16_; have GW676 := n17_; have GE676 := n18_; have NB610_676 := n19_; have NB676_610 := n20_; have NB623_676 := n21_; have NB676_623 := n22_; have NB644_676 := n23_; have NB676_644 := n24_; have NB661_676 := n25_; have NB676_661 := n26_; clear n0_ n1_ n2_ n3_ n4_ n5_ n6_ n7_ n8_ n9_ n10_ n11_ n12_ n13_ n14_ n15_ n16_ n17_ n18_ n19_ n20_ n21_ n22_ n23_ n24_ n25_ n26_; clear hb hbox hg; have hnb138 := NB676_610.out; have hnc138 := NB610_676.out; have hnb139 := NB676_623.out; have hnc139 := NB623_676.out; have hnb140 := NB676_644.out; have hnc140 := NB644_676.out; have hnb141 := NB676_661.out; have hnc141 := NB661_676.out; have hcz142_0 : w137.cell? ⟨gb676, 0, none⟩ = some (.int .i64 0) := (blk_cell BK676.out 0).trans rfl; have hcz142_1 : w137.cell? ⟨gb676, 1, none⟩ = some (.int .u32 0) := (blk_cell BK676.out 1).trans rfl; have hcz142_2 : w137.cell? ⟨gb676, 2, none⟩ = some (.slice none 0 0) := (blk_cell BK676.out 2).trans rfl; have hcz142_3 : w137.cell? ⟨gb676, 3, none⟩ = some (.slice none 0 0) := (blk_cell BK676.out 3).trans rfl; have hfz142_0 := blk_frozen BK676.out 0; have hfz142_1 := blk_frozen BK676.out 1; have hfz142_2 := blk_frozen BK676.out 2; have hfz142_3 := blk_frozen BK676.out 3; obtain ⟨Ao143, co143, eo143⟩ := Kd.R_slice HO671.out; subst eo143; obtain ⟨Ao144, co144, eo144⟩ := Kd.R_slice HO674.out; subst eo144))
                  go_ret
                  exact ⟨y8_, by repeat (first | (with_reducible first | exact HB.out | apply below_alloc | apply pw_below_drewN | apply below_drew1 | refine below_set ?_ GE610.out | refine below_set ?_ GE623.out | refine below_set ?_ GE644.out | refine below_set ?_ GE661.out | refine below_set ?_ GE676.out) | exact HB.out)⟩
                 ·rw [if_neg c119] at H
                  exact absurd H (by simp)
                ·rw [if_neg c118] at H
                 exact absurd H (by simp)
             ·rw [if_neg c89] at H
              have c89b0 : (t660 == 8) = false := beq_eq_false_iff_ne.mpr c89
              have c89b1 : (t660 != 8) = true := bne_iff_ne.mpr c89
              obtain rfl := Option.some.inj H
              go_wp2_with (first | ((with_reducible refine gate_dst (N := 93) rfl ?_); (try (refine gate_guard (by rfl) ?_; dsimp only)); refine Kd.N_lit (Kd.slice 5 (Kd.int .u8)) _ 22 ?hg (N' := 93) ?hd (xs := ([t629, l1] : List (List Int))) (inner := [.slice Ao69 t629.length co69, .slice A1 l1.length c1]) (ok := (fun k_ => (P1_ k_ ∨ w.heap.size ≤ k_) ∧ some k_ ≠ (.slice Ao26 t616.length co26 : Value).ownBlock ∧ some k_ ≠ (.slice Ao27 t619.length co27 : Value).ownBlock ∧ some k_ ≠ (.slice Ao75 t637.length co75 : Value).ownBlock ∧ some k_ ≠ (.slice Ao76 t640.length co76 : Value).ownBlock ∧ k_ ≠ gb610 ∧ k_ ≠ gb623 ∧ k_ ≠ gb644)) (okp := (fun k_ => (P1_ k_ ∨ w.heap.size ≤ k_) ∧ some k_ ≠ (.slice Ao26 t616.length co26 : Value).ownBlock ∧ some k_ ≠ (.slice Ao27 t619.length co27 : Value).ownBlock ∧ some k_ ≠ (.slice Ao75 t637.length co75 : Value).ownBlock ∧ some k_ ≠ (.slice Ao76 t640.length co76 : Value).ownBlock ∧ k_ ≠ gb610 ∧ k_ ≠ gb623 ∧ k_ ≠ gb644)) ?hr ?hp (fun _ hk => hk) ((show ∀ k_, wc.heap.size ≤ k_ → (fun k_ => (P1_ k_ ∨ w.heap.size ≤ k_) ∧ some k_ ≠ (.slice Ao26 t616.length co26 : Value).ownBlock ∧ some k_ ≠ (.slice Ao27 t619.length co27 : Value).ownBlock ∧ some k_ ≠ (.slice Ao75 t637.length co75 : Value).ownBlock ∧ some k_ ≠ (.slice Ao76 t640.length co76 : Value).ownBlock ∧ k_ ≠ gb610 ∧ k_ ≠ gb623 ∧ k_ ≠ gb644) k_ from fun k_ hk => ⟨(.inr (Nat.le_trans (below_size y2_) hk)), Kd.fresh' (Kd.R_lt y12_) k_ hk, Kd.fresh' (Kd.R_lt y11_) k_ hk, Kd.fresh' (Kd.R_lt y19_) k_ hk, Kd.fresh' (Kd.R_lt y18_) k_ hk, Kd.freshB (g := gb610) (o := .cells #[.int .i64 a0_0, .int .u32 a0_1, .slice A0_2 l0_2.length c0_2, .slice A0_3 l0_3.length c0_3] 29 (0, 0)) y6_ k_ hk, Kd.freshB (g := gb623) (o := .cells #[.int .i64 t614, .int .u32 t615, .slice Ao26 t616.length co26, .slice Ao27 t619.length co27] 29 (0, 0)) y9_ k_ hk, Kd.freshB (g := gb644) (o := .cells #[.int .i64 t635, .int .u32 t636, .slice Ao75 t637.length co75, .slice Ao76 t640.length co76] 29 (0, 0)) y13_ k_ hk⟩) _ (Nat.le_refl _)) (Below.refl _ _) (Nat.le_refl _) (by simp) ?_; (case hd => rfl); (case hg => rfl); (case hr => first | (go_simp; done) | (go_simp; rfl)); (case hp => exact (Reps.one (show Kd.FK (Kd.slice 5 (Kd.int .u8)) _ _ t629 [.slice Ao69 t629.length co69] from (Kd.FK_slice_mk (Kd.R_reads' (Kd.R_mono (ok' := (fun k_ => (P1_ k_ ∨ w.heap.size ≤ k_) ∧ some k_ ≠ (.slice Ao26 t616.length co26 : Value).ownBlock ∧ some k_ ≠ (.slice Ao27 t619.length co27 : Value).ownBlock ∧ some k_ ≠ (.slice Ao75 t637.length co75 : Value).ownBlock ∧ some k_ ≠ (.slice Ao76 t640.length co76 : Value).ownBlock ∧ k_ ≠ gb610 ∧ k_ ≠ gb623 ∧ k_ ≠ gb644)) (Kd.R_types (Kd.R_types (Kd.R_types (Kd.R_apart' (Kd.R_apart' (Kd.R_apart' (Kd.R_apart' (HO_11.out) (Kd.R_typed HO_624002.out) (by decide)) (Kd.R_typed HO_624003.out) (by decide)) (Kd.R_typed HO_645002.out) (by decide)) (Kd.R_typed HO_645003.out) (by decide)) BK610.out (by decide)) BK623.out (by decide)) BK644.out (by decide)) (fun k_ hk => ⟨(.inr (hk.1.1.1.1.1.1.1)), ⟨hk.1.1.1.1.1.1.2, ⟨hk.1.1.1.1.1.2, ⟨hk.1.1.1.1.2, ⟨hk.1.1.1.2, ⟨hk.1.1.2, ⟨hk.1.2, hk.2⟩⟩⟩⟩⟩⟩⟩))).2.1 (Kd.R_F (Kd.R_mono (ok' := (fun k_ => (P1_ k_ ∨ w.heap.size ≤ k_) ∧ some k_ ≠ (.slice Ao26 t616.length co26 : Value).ownBlock ∧ some k_ ≠ (.slice Ao27 t619.length co27 : Value).ownBlock ∧ some k_ ≠ (.slice Ao75 t637.length co75 : Value).ownBlock ∧ some k_ ≠ (.slice Ao76 t640.length co76 : Value).ownBlock ∧ k_ ≠ gb610 ∧ k_ ≠ gb623 ∧ k_ ≠ gb644)) (Kd.R_types (Kd.R_types (Kd.R_types (Kd.R_apart' (Kd.R_apart' (Kd.R_apart' (Kd.R_apart' (HO_11.out) (Kd.R_typed HO_624002.out) (by decide)) (Kd.R_typed HO_624003.out) (by decide)) (Kd.R_typed HO_645002.out) (by decide)) (Kd.R_typed HO_645003.out) (by decide)) BK610.out (by decide)) BK623.out (by decide)) BK644.out (by decide)) (fun k_ hk => ⟨(.inr (hk.1.1.1.1.1.1.1)), ⟨hk.1.1.1.1.1.1.2, ⟨hk.1.1.1.1.1.2, ⟨hk.1.1.1.1.2, ⟨hk.1.1.1.2, ⟨hk.1.1.2, ⟨hk.1.2, hk.2⟩⟩⟩⟩⟩⟩⟩))))) (Reps.one (show Kd.FK (Kd.slice 5 (Kd.int .u8)) _ _ l1 [.slice A1 l1.length c1] from (Kd.FK_slice_mk (Kd.V_reads' (Kd.V_mono (ok' := (fun k_ => (P1_ k_ ∨ w.heap.size ≤ k_) ∧ some k_ ≠ (.slice Ao26 t616.length co26 : Value).ownBlock ∧ some k_ ≠ (.slice Ao27 t619.length co27 : Value).ownBlock ∧ some k_ ≠ (.slice Ao75 t637.length co75 : Value).ownBlock ∧ some k_ ≠ (.slice Ao76 t640.length co76 : Value).ownBlock ∧ k_ ≠ gb610 ∧ k_ ≠ gb623 ∧ k_ ≠ gb644)) (HO_1.out) (fun k_ hk => ⟨hk.1, ⟨hk.2.2.1, ⟨hk.2.2.2.1, ⟨hk.2.2.2.2.1, ⟨hk.2.2.2.2.2.1, ⟨hk.2.2.2.2.2.2.1, ⟨hk.2.2.2.2.2.2.2.1, hk.2.2.2.2.2.2.2.2⟩⟩⟩⟩⟩⟩⟩))).2.1 (Kd.V_F (Kd.V_mono (ok' := (fun k_ => (P1_ k_ ∨ w.heap.size ≤ k_) ∧ some k_ ≠ (.slice Ao26 t616.length co26 : Value).ownBlock ∧ some k_ ≠ (.slice Ao27 t619.length co27 : Value).ownBlock ∧ some k_ ≠ (.slice Ao75 t637.length co75 : Value).ownBlock ∧ some k_ ≠ (.slice Ao76 t640.length co76 : Value).ownBlock ∧ k_ ≠ gb610 ∧ k_ ≠ gb623 ∧ k_ ≠ gb644)) (HO_1.out) (fun k_ hk => ⟨hk.1, ⟨hk.2.2.1, ⟨hk.2.2.2.1, ⟨hk.2.2.2.2.1, ⟨hk.2.2.2.2.2.1, ⟨hk.2.2.2.2.2.2.1, ⟨hk.2.2.2.2.2.2.2.1, hk.2.2.2.2.2.2.2.2⟩⟩⟩⟩⟩⟩⟩))))) (Reps.none _ _)))); intro v647 w145 ho146 hb hg_ hnew_; clear hg_ hnew_; (first | rw [← Ny646.out] at ho146 | (simp only [Int.reduceToNat] at ho146; rw [← Ny646.out] at ho146)); have n0_ := Aside0.mk (Kd.V_elder' y20_ (Kd.N_base ho146) hb); have n1_ := Aside0.mk (Kd.R_below y12_ hb); have n2_ := Aside0.mk (Kd.R_below y11_ hb); have n3_ := Aside0.mk (Kd.R_below y19_ hb); have n4_ := Aside0.mk (Kd.R_below y18_ hb); have n5_ := Aside0.mk (Kd.N_lower ho146 (below_size y2_)); have n6_ := Aside0.mk (blk_below (g := gb610) (o := .cells #[.int .i64 a0_0, .int .u32 a0_1, .slice A0_2 l0_2.length c0_2, .slice A0_3 l0_3.length c0_3] 29 (0, 0)) y6_ hb); have n7_ := Aside0.mk (blk_below (g := gb623) (o := .cells #[.int .i64 t614, .int .u32 t615, .slice Ao26 t616.length co26, .slice Ao27 t619.length co27] 29 (0, 0)) y9_ hb); have n8_ := Aside0.mk (blk_below (g := gb644) (o := .cells #[.int .i64 t635, .int .u32 t636, .slice Ao75 t637.length co75, .slice Ao76 t640.length co76] 29 (0, 0)) y13_ hb); have n9_ := Aside0.mk (below_step y2_ hb); clear HO_1; clear HO_624002; clear HO_624003; clear HO_645002; clear HO_645003; clear BK610; clear BK623; clear BK644; clear HB; clear HO_11; have HO_1 := n0_; have HO_624002 := n1_; have HO_624003 := n2_; have HO_645002 := n3_; have HO_645003 := n4_; have HO648 := n5_; have BK610 := n6_; have BK623 := n7_; have BK644 := n8_; have HB := n9_; clear n0_ n1_ n2_ n3_ n4_ n5_ n6_ n7_ n8_ n9_; clear hb ho146; obtain ⟨Ao147, co147, eo147⟩ := Kd.N_slice HO648.out; subst eo147) | ((with_reducible refine gate_callee (f := 20) rfl ?_); refine goesL_ (some 94) rfl rfl Tryd.func20 (by kernel_rfl) rfl #[.slice Ao147 y646.length co147] rfl y3_ ?_; (with_reducible refine (manometerref01_Join.calls kj67 _ _ y646 t649 _ ?side1 ?side2 A87.out).mono ?_); (case side1 => repeat (first | exact (Kd.N_reads' HO648.out).2.2 | (with_reducible refine Kd.C_alloc ?_ _) | (with_reducible refine Kd.C_drewN ?_ _) | (with_reducible refine Kd.C_drew ?_))); (case side2 => exact (Kd.N_reads' HO648.out).2.1); rintro e w148 ⟨v650, rfl, ho0, hb⟩; refine ⟨_, rfl, ?_⟩; have n0_ := Aside0.mk (Kd.V_elder' y20_ (Kd.R_base ho0) hb); have n1_ := Aside0.mk (Kd.R_below y12_ hb); have n2_ := Aside0.mk (Kd.R_below y11_ hb); have n3_ := Aside0.mk (Kd.R_below y19_ hb); have n4_ := Aside0.mk (Kd.R_below y18_ hb); have n5_ := Aside0.mk (Kd.N_elder' y40_ (Kd.R_base ho0) hb); have n6_ := Aside0.mk (Kd.R_lower (Kd.R_newM (M := fun k_ => (w.heap.size ≤ k_)) ho0 (below_size y2_) (fun k_ h_ => h_)) (below_size y2_)); have n7_ := Aside0.mk (blk_below (g := gb610) (o := .cells #[.int .i64 a0_0, .int .u32 a0_1, .slice A0_2 l0_2.length c0_2, .slice A0_3 l0_3.length c0_3] 29 (0, 0)) y6_ hb); have n8_ := Aside0.mk (blk_below (g := gb623) (o := .cells #[.int .i64 t614, .int .u32 t615, .slice Ao26 t616.length co26, .slice Ao27 t619.length co27] 29 (0, 0)) y9_ hb); have n9_ := Aside0.mk (blk_below (g := gb644) (o := .cells #[.int .i64 t635, .int .u32 t636, .slice Ao75 t637.length co75, .slice Ao76 t640.length co76] 29 (0, 0)) y13_ hb); have n10_ := Aside0.mk (below_step y2_ hb); clear HO_1; clear HO_624002; clear HO_624003; clear HO_645002; clear HO_645003; clear HO648; clear BK610; clear BK623; clear BK644; clear HB; have HO_1 := n0_; have HO_624002 := n1_; have HO_624003 := n2_; have HO_645002 := n3_; have HO_645003 := n4_; have HO648 := n5_; have HO651 := n6_; have BK610 := n7_; have BK623 := n8_; have BK644 := n9_; have HB := n10_; clear n0_ n1_ n2_ n3_ n4_ n5_ n6_ n7_ n8_ n9_ n10_; (try clear hb); (try clear hb2); (try clear hk); (try clear hi); (try clear ho0); obtain ⟨Ao149, co149, eo149⟩ := Kd.R_slice HO651.out; subst eo149) | ((with_reducible refine gate_callee (f := 9) rfl ?_); refine goesL_ (some 95) rfl rfl Tryd.func9 (by kernel_rfl) rfl #[.slice Ao149 t649.length co149] rfl y3_ ?_; (with_reducible refine (record_Take.calls kj67 _ _ t649 t652 t653 t654 t657 t660 _ ?side1 ?side2 ?side3 A88.out).mono ?_); (case side1 => exact ⟨Tab_below hT.out y2_⟩); (case side2 => repeat (first | exact (Kd.R_reads' HO651.out).2.2 | (with_reducible refine Kd.C_alloc ?_ _) | (with_reducible refine Kd.C_drewN ?_ _) | (with_reducible refine Kd.C_drew ?_))); (case side3 => exact (Kd.R_reads' HO651.out).2.1); rintro e w150 ⟨v655, v658, rfl, ho0, ho1, hb⟩; refine ⟨_, rfl, ?_⟩; have n0_ := Aside0.mk (Kd.V_mono (Kd.V_told (Kd.V_told (Kd.V_old y20_ hb) (Kd.R_base ho0)) (Kd.R_base ho1)) (fun _ h_ => h_.1)); have n1_ := Aside0.mk (Kd.R_elder' y12_ (Kd.R_base ho0) hb); have n2_ := Aside0.mk (Kd.R_elder' y11_ (Kd.R_base ho1) hb); have n3_ := Aside0.mk (Kd.R_elder' y19_ (Kd.R_base ho0) hb); have n4_ := Aside0.mk (Kd.R_elder' y18_ (Kd.R_base ho1) hb); have n5_ := Aside0.mk (Kd.N_mono (Kd.N_told (Kd.N_told (Kd.N_old y40_ hb) (Kd.R_base ho0)) (Kd.R_base ho1)) (fun _ h_ => h_.1)); have n6_ := Aside0.mk (Kd.R_below y52_ hb); have n7_ := Aside0.mk (Kd.R_lower (Kd.R_new' (Kd.R_new' (Kd.R_newM (M := fun k_ => (w.heap.size ≤ k_)) ho0 (below_size y2_) (fun k_ h_ => h_)) (Kd.R_lt y12_)) (Kd.R_lt y19_)) (below_size y2_)); have n8_ := Aside0.mk (Kd.R_lower (Kd.R_new' (Kd.R_new' (Kd.R_newM (M := fun k_ => (w.heap.size ≤ k_)) ho1 (below_size y2_) (fun k_ h_ => h_)) (Kd.R_lt y11_)) (Kd.R_lt y18_)) (below_size y2_)); have n9_ := Aside0.mk (blk_below (g := gb610) (o := .cells #[.int .i64 a0_0, .int .u32 a0_1, .slice A0_2 l0_2.length c0_2, .slice A0_3 l0_3.length c0_3] 29 (0, 0)) y6_ hb); have n10_ := Aside0.mk (blk_below (g := gb623) (o := .cells #[.int .i64 t614, .int .u32 t615, .slice Ao26 t616.length co26, .slice Ao27 t619.length co27] 29 (0, 0)) y9_ hb); have n11_ := Aside0.mk (blk_below (g := gb644) (o := .cells #[.int .i64 t635, .int .u32 t636, .slice Ao75 t637.length co75, .slice Ao76 t640.length co76] 29 (0, 0)) y13_ hb); have n12_ := Aside0.mk (below_step y2_ hb); clear HO_1; clear HO_624002; clear HO_624003; clear HO_645002; clear HO_645003; clear HO648; clear HO651; clear BK610; clear BK623; clear BK644; clear HB; have HO_1 := n0_; have HO_624002 := n1_; have HO_624003 := n2_; have HO_645002 := n3_; have HO_645003 := n4_; have HO648 := n5_; have HO651 := n6_; have HO656 := n7_; have HO659 := n8_; have BK610 := n9_; have BK623 := n10_; have BK644 := n11_; have HB := n12_; clear n0_ n1_ n2_ n3_ n4_ n5_ n6_ n7_ n8_ n9_ n10_ n11_ n12_; (try clear hb); (try clear hb2); (try clear hk); (try clear hi); (try clear ho0); (try clear ho1)) | ((with_reducible refine gate_dst (N := 15) rfl ?_); (try (refine gate_guard (by rfl) ?_; dsimp only)); refine box_event ?hg (N := 15) ?hd (cs := #[.int .i64 0, .int .u32 0, .slice none 0 0, .slice none 0 0]) (t := 29) ?hr ?_; (case hd => rfl); (case hg => rfl); (case hr => first | (go_simp; done) | (go_simp; rfl)); intro gb661 hg w151 hbox hb; have n0_ := Aside0.mk (Kd.V_below (Kd.V_elderB y20_ gb661 (Nat.le_of_eq hg.symm)) hb); have n1_ := Aside0.mk (Kd.R_below y12_ hb); have n2_ := Aside0.mk (Kd.R_below y11_ hb); have n3_ := Aside0.mk (Kd.R_below y19_ hb); have n4_ := Aside0.mk (Kd.R_below y18_ hb); have n5_ := Aside0.mk (Kd.N_below (Kd.N_elderB y40_ gb661 (Nat.le_of_eq hg.symm)) hb); have n6_ := Aside0.mk (Kd.R_below y52_ hb); have n7_ := Aside0.mk (Kd.R_below y63_ hb); have n8_ := Aside0.mk (Kd.R_below y62_ hb); have n9_ := Aside0.mk (blk_below (g := gb610) (o := .cells #[.int .i64 a0_0, .int .u32 a0_1, .slice A0_2 l0_2.length c0_2, .slice A0_3 l0_3.length c0_3] 29 (0, 0)) y6_ hb); have n10_ := Aside0.mk (blk_below (g := gb623) (o := .cells #[.int .i64 t614, .int .u32 t615, .slice Ao26 t616.length co26, .slice Ao27 t619.length co27] 29 (0, 0)) y9_ hb); have n11_ := Aside0.mk (blk_below (g := gb644) (o := .cells #[.int .i64 t635, .int .u32 t636, .slice Ao75 t637.length co75, .slice Ao76 t640.length co76] 29 (0, 0)) y13_ hb); have n12_ := Aside0.mk (below_step y2_ hb); have n13_ := Aside0.mk (hbox); have n14_ := Aside0.mk ((y96_ : w.heap.size ≤ gb661)); have n15_ := Aside0.mk ((y96_ : w.heap.size ≤ gb661)); have n16_ := Aside0.mk ((y44_ : gb610 ≠ gb661)); have n17_ := Aside0.mk ((y45_ : gb661 ≠ gb610)); have n18_ := Aside0.mk ((y48_ : gb623 ≠ gb661)); have n19_ := Aside0.mk ((y49_ : gb661 ≠ gb623)); have n20_ := Aside0.mk ((y55_ : gb644 ≠ gb661)); have n21_ := Aside0.mk ((y56_ : gb661 ≠ gb644)); clear HO_1; clear HO_624002; clear HO_624003; clear HO_645002; clear HO_645003; clear HO648; clear HO651; clear HO656; clear HO659; clear BK610; clear BK623; clear BK644; clear HB; have HO_1 := n0_; have HO_624002 := n1_; have HO_624003 := n2_; have HO_645002 := n3_; have HO_645003 := n4_; have HO648 := n5_; have HO651 := n6_; have HO656 := n7_; have HO659 := n8_; have BK610 := n9_; have BK623 := n10_; have BK644 := n11_; have HB := n12_; have BK661 := n13_; have GW661 := n14_; have GE661 := n15_; have NB610_661 := n16_; have NB661_610 := n17_; have NB623_661 := n18_; have NB661_623 := n19_; have NB644_661 := n20_; have NB661_644 := n21_; clear n0_ n1_ n2_ n3_ n4_ n5_ n6_ n7_ n8_ n9_ n10_ n11_ n12_ n13_ n14_ n15_ n16_ n17_ n18_ n19_ n20_ n21_; clear hb hbox hg; have hnb152 := NB661_610.out; have hnc152 := NB610_661.out; have hnb153 := NB661_623.out; have hnc153 := NB623_661.out; have hnb154 := NB661_644.out; have hnc154 := NB644_661.out; have hcz155_0 : w151.cell? ⟨gb661, 0, none⟩ = some (.int .i64 0) := (blk_cell BK661.out 0).trans rfl; have hcz155_1 : w151.cell? ⟨gb661, 1, none⟩ = some (.int .u32 0) := (blk_cell BK661.out 1).trans rfl; have hcz155_2 : w151.cell? ⟨gb661, 2, none⟩ = some (.slice none 0 0) := (blk_cell BK661.out 2).trans rfl; have hcz155_3 : w151.cell? ⟨gb661, 3, none⟩ = some (.slice none 0 0) := (blk_cell BK661.out 3).trans rfl; have hfz155_0 := blk_frozen BK661.out 0; have hfz155_1 := blk_frozen BK661.out 1; have hfz155_2 := blk_frozen BK661.out 2; have hfz155_3 := blk_frozen BK661.out 3; obtain ⟨Ao156, co156, eo156⟩ := Kd.R_slice HO656.out; subst eo156; obtain ⟨Ao157, co157, eo157⟩ := Kd.R_slice HO659.out; subst eo157))
              go_ret
              exact ⟨y8_, y17_⟩
            ·rw [if_neg c86] at H
             have c86b0 : decide (0 < (l1.length : Int)) = false := decide_eq_false c86
             have c86b1 : decide (0 < l1.length) = false := decide_eq_false (by omega)
             clear c86
             by_cases c158 : a2 < 0
             ·rw [if_pos c158] at H
              have c158b0 : decide (a2 < 0) = true := decide_eq_true c158
              clear c158
              obtain rfl := Option.some.inj H
              go_wp2
              go_ret
              exact ⟨y8_, y2_⟩
             ·rw [if_neg c158] at H
              have c158b0 : decide (a2 < 0) = false := decide_eq_false c158
              clear c158
              by_cases c159 : a2 ≥ (t629.length : Int)
              ·rw [if_pos c159] at H
               have c159b0 : decide ((t629.length : Int) ≤ a2) = true := decide_eq_true c159
               clear c159
               obtain rfl := Option.some.inj H
               go_wp2
               go_ret
               exact ⟨y8_, y2_⟩
              ·rw [if_neg c159] at H
               have c159b0 : decide ((t629.length : Int) ≤ a2) = false := decide_eq_false c159
               clear c159
               by_cases c160 : 0 ≤ a2
               ·rw [if_pos c160] at H
                have c160b0 := eq_true c160
                have c160b1 : decide (0 ≤ a2) = true := decide_eq_true c160
                clear c160
                by_cases c161 : a2 ≤ (t629.length : Int)
                ·rw [if_pos c161] at H
                 have c161b0 := eq_true c161
                 have c161b1 : decide (a2 ≤ (t629.length : Int)) = true := decide_eq_true c161
                 clear c161
                 obtain ⟨y677, hy677⟩ : ∃ y_ : List Int, y_ = (t629.take (a2 : Int).toNat) := ⟨_, rfl⟩
                 replace H : ((record_Take.f kj67 y677).bind fun bt682 => (some (bt682.2.2.2.2 == 6))) = some r := by first | (rw [hy677]; with_reducible exact H) | (have H2_ := (Option.bind_some _ _).symm.trans H; rw [hy677]; with_reducible exact H2_) | (have H2_ := (Option.bind_some _ _).symm.trans H; with_reducible exact H2_) | with_reducible exact H | (rw [hy677]; exact H) | exact H
                 have Ny677 := Aside0.mk hy677
                 clear hy677
                 replace H := Option.bind_eq_some_iff.mp H
                 obtain ⟨⟨t682, t683, t684, t687, t690⟩, A1620, H⟩ := H
                 replace H : (some (t690 == 6)) = some r := H
                 have A162 := Aside0.mk A1620
                 clear A1620
                 obtain rfl := Option.some.inj H
                 have q163 : (a2 : Int) ≤ ((t629.length : Int) : Int) := of_decide_eq_true y7_
                 obtain ⟨i0163, hi0163, _, hsz163, _⟩ := info_parts info5
                 have hroom163 : t629.length ≤ co69 := (Kd.R_reads' HO_11.out).2.1
                 have hC163 : Kd.F (Kd.int .u8) _ _ Ao69 t629.length t629 := (Kd.V_at (base := w.heap.size) (Kd.V_mono (ok' := (fun k_ => ((((((((P1_ k_ ∨ w.heap.size ≤ k_) ∧ some k_ ≠ (.slice Ao26 t616.length co26 : Value).ownBlock) ∧ some k_ ≠ (.slice Ao27 t619.length co27 : Value).ownBlock) ∧ some k_ ≠ (.slice Ao75 t637.length co75 : Value).ownBlock) ∧ some k_ ≠ (.slice Ao76 t640.length co76 : Value).ownBlock) ∧ k_ ≠ gb610) ∧ k_ ≠ gb623) ∧ k_ ≠ gb644))) (Kd.R_V (Kd.R_types (Kd.R_types (Kd.R_types (Kd.R_apart' (Kd.R_apart' (Kd.R_apart' (Kd.R_apart' (HO_11.out) (Kd.R_typed HO_624002.out) (by decide)) (Kd.R_typed HO_624003.out) (by decide)) (Kd.R_typed HO_645002.out) (by decide)) (Kd.R_typed HO_645003.out) (by decide)) BK610.out (by decide)) BK623.out (by decide)) BK644.out (by decide))) (fun k_ hk => ⟨⟨⟨⟨⟨⟨⟨(.inr (hk.1.1.1.1.1.1.1)), hk.1.1.1.1.1.1.2⟩, hk.1.1.1.1.1.2⟩, hk.1.1.1.1.2⟩, hk.1.1.1.2⟩, hk.1.1.2⟩, hk.1.2⟩, hk.2⟩))).2.2
                 have hcut163 := cut_to (P := Tryd.prog) 22 5 .i64 Tryd.underlying22 hi0163 Ao69 t629.length co69 a2 (of_decide_eq_true y7_) q163 hroom163
                 have hr163 := Kd.F_take (m := (a2 : Int).toNat) hC163 (by omega)
                 have hy163 : y677.length = (a2 : Int).toNat := (by rw [Ny677.out, List.length_take]; omega)
                 rw [← Ny677.out] at hr163
                 rw [← hy163] at hcut163
                 have HO681 := Aside0.mk (show Kd.V (Kd.int .u8) 5 _ w.heap.size _ (.slice Ao69 y677.length co69) y677 from Kd.V_mk (by omega) hr163)
                 have HC681 := Aside0.mk (show y677.length ≤ co69 from by omega)
                 clear hr163 hC163 hroom163 hi0163 hsz163
                 have KY163 := Aside0.mk hy163
                 clear hy163
                 replace q163 := eq_true q163
                 go_wp2_with (first | ((with_reducible refine gate_callee (f := 9) rfl ?_); refine goesL_ (some 112) rfl rfl Tryd.func9 (by kernel_rfl) rfl #[.slice Ao69 y677.length co69] rfl y3_ ?_; (with_reducible refine (record_Take.calls kj67 _ _ y677 t682 t683 t684 t687 t690 _ ?side1 ?side2 ?side3 A162.out).mono ?_); (case side1 => exact ⟨Tab_below hT.out y2_⟩); (case side2 => repeat (first | exact (Kd.V_reads' HO681.out).2.2 | (with_reducible refine Kd.C_alloc ?_ _) | (with_reducible refine Kd.C_drewN ?_ _) | (with_reducible refine Kd.C_drew ?_))); (case side3 => exact (Kd.V_reads' HO681.out).2.1); rintro e w164 ⟨v685, v688, rfl, ho0, ho1, hb⟩; refine ⟨_, rfl, ?_⟩; have n0_ := Aside0.mk (Kd.V_mono (Kd.V_told (Kd.V_told (Kd.V_old y20_ hb) (Kd.R_base ho0)) (Kd.R_base ho1)) (fun _ h_ => h_.1)); have n1_ := Aside0.mk (Kd.R_below y61_ hb); have n2_ := Aside0.mk (Kd.R_elder' y12_ (Kd.R_base ho0) hb); have n3_ := Aside0.mk (Kd.R_elder' y11_ (Kd.R_base ho1) hb); have n4_ := Aside0.mk (Kd.R_elder' y19_ (Kd.R_base ho0) hb); have n5_ := Aside0.mk (Kd.R_elder' y18_ (Kd.R_base ho1) hb); have n6_ := Aside0.mk (Kd.V_mono (Kd.V_told (Kd.V_told (Kd.V_old (by (with_reducible repeat (first | apply Kd.V_alloc | apply Kd.V_drewN | apply Kd.V_drew)); exact HO681.out) hb) (Kd.R_base ho0)) (Kd.R_base ho1)) (fun _ h_ => h_.1)); have n7_ := Aside0.mk (Kd.R_lower (Kd.R_new' (Kd.R_new' (Kd.R_newM (M := fun k_ => (w.heap.size ≤ k_)) ho0 (below_size y2_) (fun k_ h_ => h_)) (Kd.R_lt y12_)) (Kd.R_lt y19_)) (below_size y2_)); have n8_ := Aside0.mk (Kd.R_lower (Kd.R_new' (Kd.R_new' (Kd.R_newM (M := fun k_ => (w.heap.size ≤ k_)) ho1 (below_size y2_) (fun k_ h_ => h_)) (Kd.R_lt y11_)) (Kd.R_lt y18_)) (below_size y2_)); have n9_ := Aside0.mk (blk_below (g := gb610) (o := .cells #[.int .i64 a0_0, .int .u32 a0_1, .slice A0_2 l0_2.length c0_2, .slice A0_3 l0_3.length c0_3] 29 (0, 0)) y6_ hb); have n10_ := Aside0.mk (blk_below (g := gb623) (o := .cells #[.int .i64 t614, .int .u32 t615, .slice Ao26 t616.length co26, .slice Ao27 t619.length co27] 29 (0, 0)) y9_ hb); have n11_ := Aside0.mk (blk_below (g := gb644) (o := .cells #[.int .i64 t635, .int .u32 t636, .slice Ao75 t637.length co75, .slice Ao76 t640.length co76] 29 (0, 0)) y13_ hb); have n12_ := Aside0.mk (below_step y2_ hb); clear HO_1; clear HO_11; clear HO_624002; clear HO_624003; clear HO_645002; clear HO_645003; clear HO681; clear BK610; clear BK623; clear BK644; clear HB; have HO_1 := n0_; have HO_11 := n1_; have HO_624002 := n2_; have HO_624003 := n3_; have HO_645002 := n4_; have HO_645003 := n5_; have HO681 := n6_; have HO686 := n7_; have HO689 := n8_; have BK610 := n9_; have BK623 := n10_; have BK644 := n11_; have HB := n12_; clear n0_ n1_ n2_ n3_ n4_ n5_ n6_ n7_ n8_ n9_ n10_ n11_ n12_; (try clear hb); (try clear hb2); (try clear hk); (try clear hi); (try clear ho0); (try clear ho1)) | ((with_reducible refine gate_dst (N := 17) rfl ?_); (try (refine gate_guard (by rfl) ?_; dsimp only)); refine box_event ?hg (N := 17) ?hd (cs := #[.int .i64 0, .int .u32 0, .slice none 0 0, .slice none 0 0]) (t := 29) ?hr ?_; (case hd => rfl); (case hg => rfl); (case hr => first | (go_simp; done) | (go_simp; rfl)); intro gb691 hg w165 hbox hb; have n0_ := Aside0.mk (Kd.V_below (Kd.V_elderB y20_ gb691 (Nat.le_of_eq hg.symm)) hb); have n1_ := Aside0.mk (Kd.R_below y61_ hb); have n2_ := Aside0.mk (Kd.R_below y12_ hb); have n3_ := Aside0.mk (Kd.R_below y11_ hb); have n4_ := Aside0.mk (Kd.R_below y19_ hb); have n5_ := Aside0.mk (Kd.R_below y18_ hb); have n6_ := Aside0.mk (Kd.V_below (Kd.V_elderB (by (with_reducible repeat (first | apply Kd.V_alloc | apply Kd.V_drewN | apply Kd.V_drew)); exact HO681.out) gb691 (Nat.le_of_eq hg.symm)) hb); have n7_ := Aside0.mk (Kd.R_below (by (with_reducible repeat (first | apply Kd.R_alloc | apply Kd.R_drewN | apply Kd.R_drew)); exact HO686.out) hb); have n8_ := Aside0.mk (Kd.R_below (by (with_reducible repeat (first | apply Kd.R_alloc | apply Kd.R_drewN | apply Kd.R_drew)); exact HO689.out) hb); have n9_ := Aside0.mk (blk_below (g := gb610) (o := .cells #[.int .i64 a0_0, .int .u32 a0_1, .slice A0_2 l0_2.length c0_2, .slice A0_3 l0_3.length c0_3] 29 (0, 0)) y6_ hb); have n10_ := Aside0.mk (blk_below (g := gb623) (o := .cells #[.int .i64 t614, .int .u32 t615, .slice Ao26 t616.length co26, .slice Ao27 t619.length co27] 29 (0, 0)) y9_ hb); have n11_ := Aside0.mk (blk_below (g := gb644) (o := .cells #[.int .i64 t635, .int .u32 t636, .slice Ao75 t637.length co75, .slice Ao76 t640.length co76] 29 (0, 0)) y13_ hb); have n12_ := Aside0.mk (below_step y2_ hb); have n13_ := Aside0.mk (hbox); have n14_ := Aside0.mk ((y96_ : w.heap.size ≤ gb691)); have n15_ := Aside0.mk ((y96_ : w.heap.size ≤ gb691)); have n16_ := Aside0.mk ((y44_ : gb610 ≠ gb691)); have n17_ := Aside0.mk ((y45_ : gb691 ≠ gb610)); have n18_ := Aside0.mk ((y48_ : gb623 ≠ gb691)); have n19_ := Aside0.mk ((y49_ : gb691 ≠ gb623)); have n20_ := Aside0.mk ((y55_ : gb644 ≠ gb691)); have n21_ := Aside0.mk ((y56_ : gb691 ≠ gb644)); clear HO_1; clear HO_11; clear HO_624002; clear HO_624003; clear HO_645002; clear HO_645003; clear HO681; clear HO686; clear HO689; clear BK610; clear BK623; clear BK644; clear HB; have HO_1 := n0_; have HO_11 := n1_; have HO_624002 := n2_; have HO_624003 := n3_; have HO_645002 := n4_; have HO_645003 := n5_; have HO681 := n6_; have HO686 := n7_; have HO689 := n8_; have BK610 := n9_; have BK623 := n10_; have BK644 := n11_; have HB := n12_; have BK691 := n13_; have GW691 := n14_; have GE691 := n15_; have NB610_691 := n16_; have NB691_610 := n17_; have NB623_691 := n18_; have NB691_623 := n19_; have NB644_691 := n20_; have NB691_644 := n21_; clear n0_ n1_ n2_ n3_ n4_ n5_ n6_ n7_ n8_ n9_ n10_ n11_ n12_ n13_ n14_ n15_ n16_ n17_ n18_ n19_ n20_ n21_; clear hb hbox hg; have hnb166 := NB691_610.out; have hnc166 := NB610_691.out; have hnb167 := NB691_623.out; have hnc167 := NB623_691.out; have hnb168 := NB691_644.out; have hnc168 := NB644_691.out; have hcz169_0 : w165.cell? ⟨gb691, 0, none⟩ = some (.int .i64 0) := (blk_cell BK691.out 0).trans rfl; have hcz169_1 : w165.cell? ⟨gb691, 1, none⟩ = some (.int .u32 0) := (blk_cell BK691.out 1).trans rfl; have hcz169_2 : w165.cell? ⟨gb691, 2, none⟩ = some (.slice none 0 0) := (blk_cell BK691.out 2).trans rfl; have hcz169_3 : w165.cell? ⟨gb691, 3, none⟩ = some (.slice none 0 0) := (blk_cell BK691.out 3).trans rfl; have hfz169_0 := blk_frozen BK691.out 0; have hfz169_1 := blk_frozen BK691.out 1; have hfz169_2 := blk_frozen BK691.out 2; have hfz169_3 := blk_frozen BK691.out 3; obtain ⟨Ao170, co170, eo170⟩ := Kd.R_slice HO686.out; subst eo170; obtain ⟨Ao171, co171, eo171⟩ := Kd.R_slice HO689.out; subst eo171))
                 go_ret
                 exact ⟨y8_, by repeat (first | (with_reducible first | exact HB.out | apply below_alloc | apply pw_below_drewN | apply below_drew1 | refine below_set ?_ GE610.out | refine below_set ?_ GE623.out | refine below_set ?_ GE644.out | refine below_set ?_ GE691.out) | exact HB.out)⟩
                ·rw [if_neg c161] at H
                 exact absurd H (by simp)
               ·rw [if_neg c160] at H
                exact absurd H (by simp)
end Go.Proofs.YtdckhaejhfkkbaaDoor.PRT
