import Derived.Test.YtdckhaejhfkkbaaDoorCRecordNearPRTx0
import Derived.Test.YtdckhaejhfkkbaaDoorCRecordNearPRTx9
import Derived.Test.YtdckhaejhfkkbaaDoorCRecordNearRP
import Derived.Test.YtdckhaejhfkkbaaDoorCRecordNearG1
import Derived.Test.YtdckhaejhfkkbaaDoorCRecordNearPRTx21
namespace Go.Proofs.YtdckhaejhfkkbaaDoor.PRT
open Go.RowKit Go.Proofs.YtdckhaejhfkkbaaDoorW.PrintWords Go.Proofs.YtdckhaejhfkkbaaDoorW.PrintLast Go.Proofs.YtdckhaejhfkkbaaDoorW.PrintMore
attribute [local go_sem] max2_int min2_int max_two min_two max_three min_three max_four min_four
set_option linter.unusedVariables false
set_option linter.unusedSimpArgs false
mutual
def manometerlaw13_RecordNear.j0 : Nat → List Bool → List Int → Bool → Int → Int → Int → Int → Option (Bool)
 | 0, _, _, _, _, _, _, _ => none
 | k + 1, x1, x2, x42, x571000, x571001, x571002, x571003 => if x42 = true then ((manometerlaw13_live.f k).bind fun t572 => (some t572)) else ((some (([(⟨x571000, (⟨x571001, x571002, x571003⟩ : S43)⟩ : S45)] : List (S45)) : List (S45))).bind fun y573 => ((record_Size.f k 2 0 ([] : List (S52)) y573).bind fun t577 => (manometerlaw13_RecordNear.l0 k x1 x2 t577 x1 (x1.length : Int) 0 2 0 y573 x571000 x571001 x571002 x571003)))
def manometerlaw13_RecordNear.l0 : Nat → List Bool → List Int → Int → List Bool → Int → Int → Int → Int → List (S45) → Int → Int → Int → Int → Option (Bool)
 | 0, _, _, _, _, _, _, _, _, _, _, _, _, _ => none
 | k + 1, x1, x2, x8, x50, x51, x52, x577000, x577001, x577003, x579000, x579001, x579002, x579003 => if x52 < x51 then (if 0 ≤ x52 then (if x52 < (x50.length : Int) then (if rdOf false x50 x52 = true then (if x52 < (x2.length : Int) then (if x577003.length < 4398046511104 then (manometerlaw13_RecordNear.l0 k x1 x2 x8 x50 x51 (wrap64 (x52 + 1)) x577000 x577001 (x577003 ++ [(⟨x579000, (⟨wrap64 (x579001 + 1), rd x2 x52, x579003⟩ : S43)⟩ : S45)]) x579000 (wrap64 (x579001 + 1)) (rd x2 x52) x579003) else (none)) else (if x577003.length < 4398046511104 then (manometerlaw13_RecordNear.l0 k x1 x2 x8 x50 x51 (wrap64 (x52 + 1)) x577000 x577001 (x577003 ++ [(⟨x579000, (⟨wrap64 (x579001 + 1), x579002, x579003⟩ : S43)⟩ : S45)]) x579000 (wrap64 (x579001 + 1)) x579002 x579003) else (none))) else (if x52 < (x2.length : Int) then (if x577003.length < 4398046511104 then (manometerlaw13_RecordNear.l0 k x1 x2 x8 x50 x51 (wrap64 (x52 + 1)) x577000 x577001 (x577003 ++ [(⟨x579000, (⟨x579001, rd x2 x52, x579003⟩ : S43)⟩ : S45)]) x579000 x579001 (rd x2 x52) x579003) else (none)) else (if x577003.length < 4398046511104 then (manometerlaw13_RecordNear.l0 k x1 x2 x8 x50 x51 (wrap64 (x52 + 1)) x577000 x577001 (x577003 ++ [(⟨x579000, (⟨x579001, x579002, x579003⟩ : S43)⟩ : S45)]) x579000 x579001 x579002 x579003) else (none)))) else (none)) else (none)) else ((record_Size.f k x577000 x577001 ([] : List (S52)) x577003).bind fun t579 => (if (x577003.length : Int) > 127 then (if x8 > 0 then (if t579 ≥ (wrap64 (x8 + (wrap64 (8 * (x1.length : Int))))) then (some (decide (t579 ≤ (wrap64 ((wrap64 (x8 + (wrap64 (11 * (x1.length : Int))))) + 1))))) else (some false)) else (some false)) else (if x8 > 0 then (if t579 ≥ (wrap64 (x8 + (wrap64 (8 * (x1.length : Int))))) then (some (decide (t579 ≤ (wrap64 ((wrap64 (x8 + (wrap64 (11 * (x1.length : Int))))) + 0))))) else (some false)) else (some false))))
end
def manometerlaw13_RecordNear.f (k : Nat) (a0_0 : Int) (a0_1 : Int) (a0_2 : Int) (a0_3 : Int) (l1 : List Bool) (l2 : List Int) : Option (Bool) := (manometerlaw13_live.f k).bind fun t571 => (if t571 = true then (if a0_0 = 0 then (manometerlaw13_RecordNear.j0 k l1 l2 true a0_0 a0_1 a0_2 a0_3) else (if a0_3 = 0 then (manometerlaw13_RecordNear.j0 k l1 l2 true a0_0 a0_1 a0_2 a0_3) else (if (l1.length : Int) > 200 then (manometerlaw13_RecordNear.j0 k l1 l2 true a0_0 a0_1 a0_2 a0_3) else (if (l2.length : Int) > 300 then (manometerlaw13_RecordNear.j0 k l1 l2 true a0_0 a0_1 a0_2 a0_3) else (manometerlaw13_RecordNear.j0 k l1 l2 (decide (a0_1 > 4611686018427387904)) a0_0 a0_1 a0_2 a0_3))))) else (manometerlaw13_RecordNear.j0 k l1 l2 true a0_0 a0_1 a0_2 a0_3))
set_option maxHeartbeats 8000000 in
set_option maxRecDepth 100000 in
theorem manometerlaw13_RecordNear.calls (k : Nat) (a0_0 : Int) (a0_1 : Int) (a0_2 : Int) (a0_3 : Int) (A1 : Option Addr) (c1 : Nat) (l1 : List Bool) (A2 : Option Addr) (c2 : Nat) (l2 : List Int) (r : Bool) (w : World) (hT : Aside0 (Tab w)) (hr1 : Kd.C Kd.bool w A1 l1.length l1) (hc1 : l1.length ≤ c1) (hr2 : Kd.C (Kd.int .u64) w A2 l2.length l2) (hc2 : l2.length ≤ c2) (h : manometerlaw13_RecordNear.f k a0_0 a0_1 a0_2 a0_3 l1 l2 = some r) :
  Calls Tryd.prog 5 #[.agg #[.int .u32 a0_0, .int .i64 a0_1, .int .u64 a0_2, .int .u64 a0_3], .slice A1 l1.length c1, .slice A2 l2.length c2] w fun e w' => e = .returned (.bool r) ∧ Below w.heap.size w w' := by
 have hu45 := Tryd.underlying45
 have hu29 := Tryd.underlying29
 have HR1 := Aside0.mk hr1
 have HC1 := Aside0.mk hc1
 clear hr1 hc1
 have HR2 := Aside0.mk hr2
 have HC2 := Aside0.mk hc2
 clear hr2 hc2
 have HB := Aside0.mk (Below.refl w.heap.size w)
 have H : ((manometerlaw13_live.f k).bind fun t571 => (if t571 = true then (if a0_0 = 0 then (manometerlaw13_RecordNear.j0 k l1 l2 true a0_0 a0_1 a0_2 a0_3) else (if a0_3 = 0 then (manometerlaw13_RecordNear.j0 k l1 l2 true a0_0 a0_1 a0_2 a0_3) else (if (l1.length : Int) > 200 then (manometerlaw13_RecordNear.j0 k l1 l2 true a0_0 a0_1 a0_2 a0_3) else (if (l2.length : Int) > 300 then (manometerlaw13_RecordNear.j0 k l1 l2 true a0_0 a0_1 a0_2 a0_3) else (manometerlaw13_RecordNear.j0 k l1 l2 (decide (a0_1 > 4611686018427387904)) a0_0 a0_1 a0_2 a0_3))))) else (manometerlaw13_RecordNear.j0 k l1 l2 true a0_0 a0_1 a0_2 a0_3))) = some r := h
 clear h
 have HC4 := Aside0.mk H
 clear H
 go_enter Tryd.func5, Tryd.ntmps5
 go_upto_region 1 with (first | ((with_reducible refine gate_dst (N := 3) rfl ?_); (try (refine gate_guard (by rfl) ?_; dsimp only)); refine box_event ?hg (N := 3) ?hd (cs := #[.int .u32 a0_0, .int .i64 a0_1, .int .u64 a0_2, .int .u64 a0_3]) (t := 45) ?hr ?_; (case hd => rfl); (case hg => rfl); (case hr => first | (go_simp; done) | (go_simp; rfl)); intro gb570 hg w5 hbox hb; have n0_ := Aside0.mk (below_step y1_ hb); have n1_ := Aside0.mk (hbox); have n2_ := Aside0.mk ((y17_ : w.heap.size ≤ gb570)); have n3_ := Aside0.mk ((y17_ : w.heap.size ≤ gb570)); clear HB; have HB := n0_; have BK570 := n1_; have GW570 := n2_; have GE570 := n3_; clear n0_ n1_ n2_ n3_; clear hb hbox hg))
 (try simp only [Act.put, List.setIfInBounds_toArray, List.set_cons_zero, List.set_cons_succ])
 go_cut [42] (fun v42 wc => ∃ (kq : Nat) (x42_3 : Bool), v42 = .bool x42_3 ∧ Aside0 (manometerlaw13_RecordNear.j0 kq l1 l2 x42_3 a0_0 a0_1 a0_2 a0_3 = some r) ∧ Aside0 (kq ≤ k) ∧ Aside0 (wc.heap[gb570]? = some (.cells #[.int .u32 a0_0, .int .i64 a0_1, .int .u64 a0_2, .int .u64 a0_3] 45 (0, 0))) ∧ Aside0 (Below w.heap.size w wc))
 case first =>
  have H := HC4.out
  clear HC4
  replace H := Option.bind_eq_some_iff.mp H
  obtain ⟨t571, A60, H⟩ := H
  replace H : (if t571 = true then (if a0_0 = 0 then (manometerlaw13_RecordNear.j0 k l1 l2 true a0_0 a0_1 a0_2 a0_3) else (if a0_3 = 0 then (manometerlaw13_RecordNear.j0 k l1 l2 true a0_0 a0_1 a0_2 a0_3) else (if (l1.length : Int) > 200 then (manometerlaw13_RecordNear.j0 k l1 l2 true a0_0 a0_1 a0_2 a0_3) else (if (l2.length : Int) > 300 then (manometerlaw13_RecordNear.j0 k l1 l2 true a0_0 a0_1 a0_2 a0_3) else (manometerlaw13_RecordNear.j0 k l1 l2 (decide (a0_1 > 4611686018427387904)) a0_0 a0_1 a0_2 a0_3))))) else (manometerlaw13_RecordNear.j0 k l1 l2 true a0_0 a0_1 a0_2 a0_3)) = some r := H
  have A6 := Aside0.mk A60
  clear A60
  by_cases c7 : t571 = true
  ·subst c7
   have H1 : (if a0_0 = 0 then (manometerlaw13_RecordNear.j0 k l1 l2 true a0_0 a0_1 a0_2 a0_3) else (if a0_3 = 0 then (manometerlaw13_RecordNear.j0 k l1 l2 true a0_0 a0_1 a0_2 a0_3) else (if (l1.length : Int) > 200 then (manometerlaw13_RecordNear.j0 k l1 l2 true a0_0 a0_1 a0_2 a0_3) else (if (l2.length : Int) > 300 then (manometerlaw13_RecordNear.j0 k l1 l2 true a0_0 a0_1 a0_2 a0_3) else (manometerlaw13_RecordNear.j0 k l1 l2 (decide (a0_1 > 4611686018427387904)) a0_0 a0_1 a0_2 a0_3))))) = some r := by rw [if_pos rfl] at H; exact H
   clear H
   have H := H1
   clear H1
   by_cases c8 : a0_0 = 0
   ·rw [if_pos c8] at H
    have c8b0 : (a0_0 == 0) = true := beq_iff_eq.mpr c8
    have c8b1 : (a0_0 != 0) = false := bne_eq_false_iff_eq.mpr c8
    clear c8
    (first | rw [c8b0] | (simp only [i64_w, i32_w]; rw [c8b0]) | skip)
    have H' := Aside0.mk H
    clear H
    go_wp2_with (first | ((with_reducible refine gate_callee (f := 8) rfl ?_); refine goesL_ (some 14) rfl rfl Tryd.func8 (by kernel_rfl) rfl #[] rfl y2_ ?_; (with_reducible refine (manometerlaw13_live.calls k  true _ ?side1 A6.out).mono ?_); (case side1 => exact ⟨Tab_below hT.out y8_⟩); rintro e w9 ⟨rfl, hb⟩; refine ⟨_, rfl, ?_⟩; have n0_ := Aside0.mk (blk_below (g := gb570) (o := .cells #[.int .u32 a0_0, .int .i64 a0_1, .int .u64 a0_2, .int .u64 a0_3] 45 (0, 0)) y10_ hb); have n1_ := Aside0.mk (below_step y8_ hb); clear BK570; clear HB; have BK570 := n0_; have HB := n1_; clear n0_ n1_; (try clear hb); (try clear hb2); (try clear hk); (try clear hi); have hcz10_0 : w9.cell? ⟨gb570, 0, none⟩ = some (.int .u32 a0_0) := (blk_cell BK570.out 0).trans rfl; have hcz10_1 : w9.cell? ⟨gb570, 1, none⟩ = some (.int .i64 a0_1) := (blk_cell BK570.out 1).trans rfl; have hcz10_2 : w9.cell? ⟨gb570, 2, none⟩ = some (.int .u64 a0_2) := (blk_cell BK570.out 2).trans rfl; have hcz10_3 : w9.cell? ⟨gb570, 3, none⟩ = some (.int .u64 a0_3) := (blk_cell BK570.out 3).trans rfl; have hfz10_0 := blk_frozen BK570.out 0; have hfz10_1 := blk_frozen BK570.out 1; have hfz10_2 := blk_frozen BK570.out 2; have hfz10_3 := blk_frozen BK570.out 3))
    go_meet
    case rel => exact ⟨_, (true), y12_, H', ⟨y60_⟩, ⟨y10_⟩, ⟨y8_⟩⟩
   ·rw [if_neg c8] at H
    have c8b0 : (a0_0 == 0) = false := beq_eq_false_iff_ne.mpr c8
    have c8b1 : (a0_0 != 0) = true := bne_iff_ne.mpr c8
    (first | rw [c8b0] | (simp only [i64_w, i32_w]; rw [c8b0]) | skip)
    by_cases c11 : a0_3 = 0
    ·rw [if_pos c11] at H
     have c11b0 : (a0_3 == 0) = true := beq_iff_eq.mpr c11
     have c11b1 : (a0_3 != 0) = false := bne_eq_false_iff_eq.mpr c11
     clear c11
     have H' := Aside0.mk H
     clear H
     go_wp2_with (first | ((with_reducible refine gate_callee (f := 8) rfl ?_); refine goesL_ (some 14) rfl rfl Tryd.func8 (by kernel_rfl) rfl #[] rfl y2_ ?_; (with_reducible refine (manometerlaw13_live.calls k  true _ ?side1 A6.out).mono ?_); (case side1 => exact ⟨Tab_below hT.out y8_⟩); rintro e w12 ⟨rfl, hb⟩; refine ⟨_, rfl, ?_⟩; have n0_ := Aside0.mk (blk_below (g := gb570) (o := .cells #[.int .u32 a0_0, .int .i64 a0_1, .int .u64 a0_2, .int .u64 a0_3] 45 (0, 0)) y10_ hb); have n1_ := Aside0.mk (below_step y8_ hb); clear BK570; clear HB; have BK570 := n0_; have HB := n1_; clear n0_ n1_; (try clear hb); (try clear hb2); (try clear hk); (try clear hi); have hcz13_0 : w12.cell? ⟨gb570, 0, none⟩ = some (.int .u32 a0_0) := (blk_cell BK570.out 0).trans rfl; have hcz13_1 : w12.cell? ⟨gb570, 1, none⟩ = some (.int .i64 a0_1) := (blk_cell BK570.out 1).trans rfl; have hcz13_2 : w12.cell? ⟨gb570, 2, none⟩ = some (.int .u64 a0_2) := (blk_cell BK570.out 2).trans rfl; have hcz13_3 : w12.cell? ⟨gb570, 3, none⟩ = some (.int .u64 a0_3) := (blk_cell BK570.out 3).trans rfl; have hfz13_0 := blk_frozen BK570.out 0; have hfz13_1 := blk_frozen BK570.out 1; have hfz13_2 := blk_frozen BK570.out 2; have hfz13_3 := blk_frozen BK570.out 3))
     go_meet
     case rel => exact ⟨_, (true), y12_, H', ⟨y60_⟩, ⟨y10_⟩, ⟨y8_⟩⟩
    ·rw [if_neg c11] at H
     have c11b0 : (a0_3 == 0) = false := beq_eq_false_iff_ne.mpr c11
     have c11b1 : (a0_3 != 0) = true := bne_iff_ne.mpr c11
     by_cases c14 : (l1.length : Int) > 200
     ·rw [if_pos c14] at H
      have c14b0 : decide (200 < (l1.length : Int)) = true := decide_eq_true c14
      have c14b1 : decide (200 < l1.length) = true := decide_eq_true (by omega)
      clear c14
      have H' := Aside0.mk H
      clear H
      go_wp2_with (first | ((with_reducible refine gate_callee (f := 8) rfl ?_); refine goesL_ (some 14) rfl rfl Tryd.func8 (by kernel_rfl) rfl #[] rfl y2_ ?_; (with_reducible refine (manometerlaw13_live.calls k  true _ ?side1 A6.out).mono ?_); (case side1 => exact ⟨Tab_below hT.out y8_⟩); rintro e w15 ⟨rfl, hb⟩; refine ⟨_, rfl, ?_⟩; have n0_ := Aside0.mk (blk_below (g := gb570) (o := .cells #[.int .u32 a0_0, .int .i64 a0_1, .int .u64 a0_2, .int .u64 a0_3] 45 (0, 0)) y10_ hb); have n1_ := Aside0.mk (below_step y8_ hb); clear BK570; clear HB; have BK570 := n0_; have HB := n1_; clear n0_ n1_; (try clear hb); (try clear hb2); (try clear hk); (try clear hi); have hcz16_0 : w15.cell? ⟨gb570, 0, none⟩ = some (.int .u32 a0_0) := (blk_cell BK570.out 0).trans rfl; have hcz16_1 : w15.cell? ⟨gb570, 1, none⟩ = some (.int .i64 a0_1) := (blk_cell BK570.out 1).trans rfl; have hcz16_2 : w15.cell? ⟨gb570, 2, none⟩ = some (.int .u64 a0_2) := (blk_cell BK570.out 2).trans rfl; have hcz16_3 : w15.cell? ⟨gb570, 3, none⟩ = some (.int .u64 a0_3) := (blk_cell BK570.out 3).trans rfl; have hfz16_0 := blk_frozen BK570.out 0; have hfz16_1 := blk_frozen BK570.out 1; have hfz16_2 := blk_frozen BK570.out 2; have hfz16_3 := blk_frozen BK570.out 3))
      go_meet
      case rel => exact ⟨_, (true), y12_, H', ⟨y60_⟩, ⟨y10_⟩, ⟨y8_⟩⟩
     ·rw [if_neg c14] at H
      have c14b0 : decide (200 < (l1.length : Int)) = false := decide_eq_false c14
      have c14b1 : decide (200 < l1.length) = false := decide_eq_false (by omega)
      clear c14
      by_cases c17 : (l2.length : Int) > 300
      ·rw [if_pos c17] at H
       have c17b0 : decide (300 < (l2.length : Int)) = true := decide_eq_true c17
       have c17b1 : decide (300 < l2.length) = true := decide_eq_true (by omega)
       clear c17
       have H' := Aside0.mk H
       clear H
       go_wp2_with (first | ((with_reducible refine gate_callee (f := 8) rfl ?_); refine goesL_ (some 14) rfl rfl Tryd.func8 (by kernel_rfl) rfl #[] rfl y2_ ?_; (with_reducible refine (manometerlaw13_live.calls k  true _ ?side1 A6.out).mono ?_); (case side1 => exact ⟨Tab_below hT.out y8_⟩); rintro e w18 ⟨rfl, hb⟩; refine ⟨_, rfl, ?_⟩; have n0_ := Aside0.mk (blk_below (g := gb570) (o := .cells #[.int .u32 a0_0, .int .i64 a0_1, .int .u64 a0_2, .int .u64 a0_3] 45 (0, 0)) y10_ hb); have n1_ := Aside0.mk (below_step y8_ hb); clear BK570; clear HB; have BK570 := n0_; have HB := n1_; clear n0_ n1_; (try clear hb); (try clear hb2); (try clear hk); (try clear hi); have hcz19_0 : w18.cell? ⟨gb570, 0, none⟩ = some (.int .u32 a0_0) := (blk_cell BK570.out 0).trans rfl; have hcz19_1 : w18.cell? ⟨gb570, 1, none⟩ = some (.int .i64 a0_1) := (blk_cell BK570.out 1).trans rfl; have hcz19_2 : w18.cell? ⟨gb570, 2, none⟩ = some (.int .u64 a0_2) := (blk_cell BK570.out 2).trans rfl; have hcz19_3 : w18.cell? ⟨gb570, 3, none⟩ = some (.int .u64 a0_3) := (blk_cell BK570.out 3).trans rfl; have hfz19_0 := blk_frozen BK570.out 0; have hfz19_1 := blk_frozen BK570.out 1; have hfz19_2 := blk_frozen BK570.out 2; have hfz19_3 := blk_frozen BK570.out 3))
       go_meet
       case rel => exact ⟨_, (true), y12_, H', ⟨y60_⟩, ⟨y10_⟩, ⟨y8_⟩⟩
      ·rw [if_neg c17] at H
       have c17b0 : decide (300 < (l2.length : Int)) = false := decide_eq_false c17
       have c17b1 : decide (300 < l2.length) = false := decide_eq_false (by omega)
       clear c17
       have H' := Aside0.mk H
       clear H
       go_wp2_with (first | ((with_reducible refine gate_callee (f := 8) rfl ?_); refine goesL_ (some 14) rfl rfl Tryd.func8 (by kernel_rfl) rfl #[] rfl y2_ ?_; (with_reducible refine (manometerlaw13_live.calls k  true _ ?side1 A6.out).mono ?_); (case side1 => exact ⟨Tab_below hT.out y8_⟩); rintro e w20 ⟨rfl, hb⟩; refine ⟨_, rfl, ?_⟩; have n0_ := Aside0.mk (blk_below (g := gb570) (o := .cells #[.int .u32 a0_0, .int .i64 a0_1, .int .u64 a0_2, .int .u64 a0_3] 45 (0, 0)) y10_ hb); have n1_ := Aside0.mk (below_step y8_ hb); clear BK570; clear HB; have BK570 := n0_; have HB := n1_; clear n0_ n1_; (try clear hb); (try clear hb2); (try clear hk); (try clear hi); have hcz21_0 : w20.cell? ⟨gb570, 0, none⟩ = some (.int .u32 a0_0) := (blk_cell BK570.out 0).trans rfl; have hcz21_1 : w20.cell? ⟨gb570, 1, none⟩ = some (.int .i64 a0_1) := (blk_cell BK570.out 1).trans rfl; have hcz21_2 : w20.cell? ⟨gb570, 2, none⟩ = some (.int .u64 a0_2) := (blk_cell BK570.out 2).trans rfl; have hcz21_3 : w20.cell? ⟨gb570, 3, none⟩ = some (.int .u64 a0_3) := (blk_cell BK570.out 3).trans rfl; have hfz21_0 := blk_frozen BK570.out 0; have hfz21_1 := blk_frozen BK570.out 1; have hfz21_2 := blk_frozen BK570.out 2; have hfz21_3 := blk_frozen BK570.out 3))
       go_meet
       case rel => exact ⟨_, (decide (a0_1 > 4611686018427387904)), y12_, H', ⟨y60_⟩, ⟨y10_⟩, ⟨y8_⟩⟩
  ·replace c7 := Bool.eq_false_iff.mpr c7
   subst c7
   have H1 : (manometerlaw13_RecordNear.j0 k l1 l2 true a0_0 a0_1 a0_2 a0_3) = some r := by rw [if_neg (show ¬ (false = true) by decide)] at H; exact H
   clear H
   have H := H1
   clear H1
   have H' := Aside0.mk H
   clear H
   go_wp2_with (first | ((with_reducible refine gate_callee (f := 8) rfl ?_); refine goesL_ (some 14) rfl rfl Tryd.func8 (by kernel_rfl) rfl #[] rfl y2_ ?_; (with_reducible refine (manometerlaw13_live.calls k  false _ ?side1 A6.out).mono ?_); (case side1 => exact ⟨Tab_below hT.out y8_⟩); rintro e w22 ⟨rfl, hb⟩; refine ⟨_, rfl, ?_⟩; have n0_ := Aside0.mk (blk_below (g := gb570) (o := .cells #[.int .u32 a0_0, .int .i64 a0_1, .int .u64 a0_2, .int .u64 a0_3] 45 (0, 0)) y10_ hb); have n1_ := Aside0.mk (below_step y8_ hb); clear BK570; clear HB; have BK570 := n0_; have HB := n1_; clear n0_ n1_; (try clear hb); (try clear hb2); (try clear hk); (try clear hi)))
   go_meet
   case rel => exact ⟨_, (true), y12_, H', ⟨y60_⟩, ⟨y10_⟩, ⟨y8_⟩⟩
 case rest =>
  clear HC4
  try clear c1
  try clear c2
  try clear p2
  try clear c5
  try clear c7
  try clear c8
  try clear c8b0
  try clear c8b1
  try clear c11
  try clear c11b0
  try clear c11b1
  try clear c14
  try clear c14b0
  try clear c14b1
  try clear c17
  try clear c17b0
  try clear c17b1
  try clear hcz10_0
  try clear hcz10_1
  try clear hcz10_2
  try clear hcz10_3
  try clear hcz13_0
  try clear hcz13_1
  try clear hcz13_2
  try clear hcz13_3
  try clear hcz16_0
  try clear hcz16_1
  try clear hcz16_2
  try clear hcz16_3
  try clear hcz19_0
  try clear hcz19_1
  try clear hcz19_2
  try clear hcz19_3
  try clear hcz21_0
  try clear hcz21_1
  try clear hcz21_2
  try clear hcz21_3
  try clear hfz10_0
  try clear hfz10_1
  try clear hfz10_2
  try clear hfz10_3
  try clear hfz13_0
  try clear hfz13_1
  try clear hfz13_2
  try clear hfz13_3
  try clear hfz16_0
  try clear hfz16_1
  try clear hfz16_2
  try clear hfz16_3
  try clear hfz19_0
  try clear hfz19_1
  try clear hfz19_2
  try clear hfz19_3
  try clear hfz21_0
  try clear hfz21_1
  try clear hfz21_2
  try clear hfz21_3
  obtain ⟨kq, x42_3, rfl, HA, HJ3, BK570, HB⟩ := hcut
  cases kq with
  | zero => exact absurd HA.out (by simp [manometerlaw13_RecordNear.j0])
  | succ kj3 =>
   have H := HA.out
   clear HA
   simp only [manometerlaw13_RecordNear.j0] at H
   by_cases c23 : x42_3 = true
   ·subst c23
    have H1 : ((manometerlaw13_live.f kj3).bind fun t572 => (some t572)) = some r := by rw [if_pos rfl] at H; exact H
    clear H
    have H := H1
    clear H1
    replace H := Option.bind_eq_some_iff.mp H
    obtain ⟨t572, A240, H⟩ := H
    replace H : (some t572) = some r := H
    have A24 := Aside0.mk A240
    clear A240
    obtain rfl := Option.some.inj H
    go_wp2_with (first | ((with_reducible refine gate_callee (f := 8) rfl ?_); refine goesL_ (some 43) rfl rfl Tryd.func8 (by kernel_rfl) rfl #[] rfl y2_ ?_; (with_reducible refine (manometerlaw13_live.calls kj3  t572 _ ?side1 A24.out).mono ?_); (case side1 => exact ⟨Tab_below hT.out y8_⟩); rintro e w25 ⟨rfl, hb⟩; refine ⟨_, rfl, ?_⟩; have n0_ := Aside0.mk (blk_below (g := gb570) (o := .cells #[.int .u32 a0_0, .int .i64 a0_1, .int .u64 a0_2, .int .u64 a0_3] 45 (0, 0)) y10_ hb); have n1_ := Aside0.mk (below_step y8_ hb); clear BK570; clear HB; have BK570 := n0_; have HB := n1_; clear n0_ n1_; (try clear hb); (try clear hb2); (try clear hk); (try clear hi)))
    go_ret
    exact ⟨y7_, y8_⟩
   ·replace c23 := Bool.eq_false_iff.mpr c23
    subst c23
    have H1 : ((some (([(⟨a0_0, (⟨a0_1, a0_2, a0_3⟩ : S43)⟩ : S45)] : List (S45)) : List (S45))).bind fun y573 => ((record_Size.f kj3 2 0 ([] : List (S52)) y573).bind fun t577 => (manometerlaw13_RecordNear.l0 kj3 l1 l2 t577 l1 (l1.length : Int) 0 2 0 y573 a0_0 a0_1 a0_2 a0_3))) = some r := by rw [if_neg (show ¬ (false = true) by decide)] at H; exact H
    clear H
    have H := H1
    clear H1
    obtain ⟨y573, hy573⟩ : ∃ y_ : List (S45), y_ = (([(⟨a0_0, (⟨a0_1, a0_2, a0_3⟩ : S43)⟩ : S45)] : List (S45))) := ⟨_, rfl⟩
    replace H : ((record_Size.f kj3 2 0 ([] : List (S52)) y573).bind fun t577 => (manometerlaw13_RecordNear.l0 kj3 l1 l2 t577 l1 (l1.length : Int) 0 2 0 y573 a0_0 a0_1 a0_2 a0_3)) = some r := by first | (rw [hy573]; with_reducible exact H) | (have H2_ := (Option.bind_some _ _).symm.trans H; rw [hy573]; with_reducible exact H2_) | (have H2_ := (Option.bind_some _ _).symm.trans H; with_reducible exact H2_) | with_reducible exact H | (rw [hy573]; exact H) | exact H
    have Ny573 := Aside0.mk hy573
    clear hy573
    replace H := Option.bind_eq_some_iff.mp H
    obtain ⟨t577, A260, H⟩ := H
    replace H : (manometerlaw13_RecordNear.l0 kj3 l1 l2 t577 l1 (l1.length : Int) 0 2 0 y573 a0_0 a0_1 a0_2 a0_3) = some r := H
    have A26 := Aside0.mk A260
    clear A260
    have H' := Aside0.mk H
    clear H
    have hcz27_0 : wc.cell? ⟨gb570, 0, none⟩ = some (.int .u32 a0_0) := (blk_cell BK570.out 0).trans rfl
    have hcz27_1 : wc.cell? ⟨gb570, 1, none⟩ = some (.int .i64 a0_1) := (blk_cell BK570.out 1).trans rfl
    have hcz27_2 : wc.cell? ⟨gb570, 2, none⟩ = some (.int .u64 a0_2) := (blk_cell BK570.out 2).trans rfl
    have hcz27_3 : wc.cell? ⟨gb570, 3, none⟩ = some (.int .u64 a0_3) := (blk_cell BK570.out 3).trans rfl
    have hfz27_0 := blk_frozen BK570.out 0
    have hfz27_1 := blk_frozen BK570.out 1
    have hfz27_2 := blk_frozen BK570.out 2
    have hfz27_3 := blk_frozen BK570.out 3
    go_wp2_with (first | ((with_reducible refine gate_dst (N := 45) rfl ?_); (try (refine gate_guard (by rfl) ?_; dsimp only)); refine Kd.R_lit k45 _ 45 ?hg (N := 45) ?hd (xs := ([(⟨a0_0, (⟨a0_1, a0_2, a0_3⟩ : S43)⟩ : S45)] : List (S45))) (inner := [.int .u32 a0_0, .int .i64 a0_1, .int .u64 a0_2, .int .u64 a0_3]) (ok := fun _ => True) (okp := fun _ => True) ?hr ?hp (fun _ hk => hk) trivial (Below.refl _ _) (Nat.le_refl _) (by simp) ?_; (case hd => rfl); (case hg => rfl); (case hr => first | (go_simp; done) | (go_simp; rfl)); (case hp => exact (Reps.c4 (show Kd.M k45 _ _ _ (⟨a0_0, (⟨a0_1, a0_2, a0_3⟩ : S43)⟩ : S45) [.int .u32 a0_0, .int .i64 a0_1, .int .u64 a0_2, .int .u64 a0_3] from (k45_mkM _ _ _ (⟨a0_0, (⟨a0_1, a0_2, a0_3⟩ : S43)⟩ : S45) )) (Reps.none _ _))); intro v574 w28 ho29 hb hg_ hnew_; clear hg_ hnew_; (first | rw [← Ny573.out] at ho29 | (simp only [Int.reduceToNat] at ho29; rw [← Ny573.out] at ho29)); have n0_ := Aside0.mk (Kd.R_lower (Kd.R_newB ho29 (g := gb570) (o := .cells #[.int .u32 a0_0, .int .i64 a0_1, .int .u64 a0_2, .int .u64 a0_3] 45 (0, 0)) y10_) (below_size y8_)); have n1_ := Aside0.mk (blk_below (g := gb570) (o := .cells #[.int .u32 a0_0, .int .i64 a0_1, .int .u64 a0_2, .int .u64 a0_3] 45 (0, 0)) y10_ hb); have n2_ := Aside0.mk (below_step y8_ hb); clear BK570; clear HB; have HO575 := n0_; have BK570 := n1_; have HB := n2_; clear n0_ n1_ n2_; clear hb ho29; obtain ⟨Ao30, co30, eo30⟩ := Kd.R_slice HO575.out; subst eo30) | ((with_reducible refine gate_dst (N := 7) rfl ?_); (try (refine gate_guard (by rfl) ?_; dsimp only)); refine box_event ?hg (N := 7) ?hd (cs := #[.int .i64 0, .int .u32 0, .slice none 0 0, .slice none 0 0]) (t := 29) ?hr ?_; (case hd => rfl); (case hg => rfl); (case hr => first | (go_simp; done) | (go_simp; rfl)); intro gb576 hg w31 hbox hb; have n0_ := Aside0.mk (Kd.R_below (by (with_reducible repeat (first | apply Kd.R_alloc | apply Kd.R_drewN | apply Kd.R_drew)); exact HO575.out) hb); have n1_ := Aside0.mk (blk_below (g := gb570) (o := .cells #[.int .u32 a0_0, .int .i64 a0_1, .int .u64 a0_2, .int .u64 a0_3] 45 (0, 0)) y10_ hb); have n2_ := Aside0.mk (below_step y8_ hb); have n3_ := Aside0.mk (hbox); have n4_ := Aside0.mk ((by rw [hg]; exact (below_size y8_) : w.heap.size ≤ gb576)); have n5_ := Aside0.mk ((by rw [hg]; exact (below_size y8_) : w.heap.size ≤ gb576)); have n6_ := Aside0.mk ((by rw [hg]; exact Nat.ne_of_lt (blk_lt (g := gb570) (o := .cells #[.int .u32 a0_0, .int .i64 a0_1, .int .u64 a0_2, .int .u64 a0_3] 45 (0, 0)) y10_) : gb570 ≠ gb576)); have n7_ := Aside0.mk ((by rw [hg]; exact Nat.ne_of_gt (blk_lt (g := gb570) (o := .cells #[.int .u32 a0_0, .int .i64 a0_1, .int .u64 a0_2, .int .u64 a0_3] 45 (0, 0)) y10_) : gb576 ≠ gb570)); clear HO575; clear BK570; clear HB; have HO575 := n0_; have BK570 := n1_; have HB := n2_; have BK576 := n3_; have GW576 := n4_; have GE576 := n5_; have NB570_576 := n6_; have NB576_570 := n7_; clear n0_ n1_ n2_ n3_ n4_ n5_ n6_ n7_; clear hb hbox hg; have hnb32 := NB576_570.out; have hnc32 := NB570_576.out; have hcz33_0 : w31.cell? ⟨gb576, 0, none⟩ = some (.int .i64 0) := (blk_cell BK576.out 0).trans rfl; have hcz33_1 : w31.cell? ⟨gb576, 1, none⟩ = some (.int .u32 0) := (blk_cell BK576.out 1).trans rfl; have hcz33_2 : w31.cell? ⟨gb576, 2, none⟩ = some (.slice none 0 0) := (blk_cell BK576.out 2).trans rfl; have hcz33_3 : w31.cell? ⟨gb576, 3, none⟩ = some (.slice none 0 0) := (blk_cell BK576.out 3).trans rfl; have hfz33_0 := blk_frozen BK576.out 0; have hfz33_1 := blk_frozen BK576.out 1; have hfz33_2 := blk_frozen BK576.out 2; have hfz33_3 := blk_frozen BK576.out 3) | ((with_reducible refine gate_callee (f := 18) rfl ?_); refine goesL_ (some 48) rfl rfl Tryd.func18 (by kernel_rfl) rfl #[.agg #[.int .i64 2, .int .u32 0, .slice none 0 0, .slice Ao30 y573.length co30]] rfl y2_ ?_; (refine (record_Size.calls kj3 2 0 _ _ ([] : List (S52)) _ _ y573 t577 _ ?side1 ?side2 ?side3 ?side4 ?side5 A26.out).mono ?_); (case side1 => exact ⟨Tab_below hT.out y32_⟩); (case side2 => exact Kd.C_nil _ _); (case side3 => exact Nat.le_refl _); (case side4 => refine (Kd.R_reads' (e := 45) (base := w.heap.size) (ok := fun k_ => (True ∧ k_ ≠ gb570)) (n := y573.length) (c := co30) ?_).2.2; exact y50_); (case side5 => exact (Kd.R_reads' HO575.out).2.1); rintro e w34 ⟨rfl, hb⟩; refine ⟨_, rfl, ?_⟩; have n0_ := Aside0.mk (Kd.R_below y50_ hb); have n1_ := Aside0.mk (blk_below (g := gb570) (o := .cells #[.int .u32 a0_0, .int .i64 a0_1, .int .u64 a0_2, .int .u64 a0_3] 45 (0, 0)) (by (with_reducible repeat (first | refine blk_drewN ?_ _ | refine blk_drew ?_ | refine blk_alloc ?_ _)); refine blk_far ?_ NB570_576.out _; (with_reducible repeat (first | refine blk_drewN ?_ _ | refine blk_drew ?_ | refine blk_alloc ?_ _)); refine blk_far ?_ NB570_576.out _; (with_reducible repeat (first | refine blk_drewN ?_ _ | refine blk_drew ?_ | refine blk_alloc ?_ _)); refine blk_far ?_ NB570_576.out _; (with_reducible repeat (first | refine blk_drewN ?_ _ | refine blk_drew ?_ | refine blk_alloc ?_ _)); refine blk_far ?_ NB570_576.out _; (with_reducible repeat (first | refine blk_drewN ?_ _ | refine blk_drew ?_ | refine blk_alloc ?_ _)); exact BK570.out) hb); have n2_ := Aside0.mk (blk_below (g := gb576) (o := .cells #[.int .i64 2, .int .u32 0, .slice none 0 0, .slice Ao30 y573.length co30] 29 (0, 0)) (by (with_reducible repeat (first | refine blk_drewN ?_ _ | refine blk_drew ?_ | refine blk_alloc ?_ _)); refine blk_put (cs := #[.int .i64 2, .int .u32 0, .slice none 0 0, .slice none 0 0]) ?_ 3 _ rfl; (with_reducible repeat (first | refine blk_drewN ?_ _ | refine blk_drew ?_ | refine blk_alloc ?_ _)); refine blk_put (cs := #[.int .i64 2, .int .u32 0, .slice none 0 0, .slice none 0 0]) ?_ 2 _ rfl; (with_reducible repeat (first | refine blk_drewN ?_ _ | refine blk_drew ?_ | refine blk_alloc ?_ _)); refine blk_put (cs := #[.int .i64 2, .int .u32 0, .slice none 0 0, .slice none 0 0]) ?_ 1 _ rfl; (with_reducible repeat (first | refine blk_drewN ?_ _ | refine blk_drew ?_ | refine blk_alloc ?_ _)); refine blk_put (cs := #[.int .i64 0, .int .u32 0, .slice none 0 0, .slice none 0 0]) ?_ 0 _ rfl; (with_reducible repeat (first | refine blk_drewN ?_ _ | refine blk_drew ?_ | refine blk_alloc ?_ _)); exact BK576.out) hb); have n3_ := Aside0.mk (below_step y32_ hb); clear HO575; clear BK570; clear BK576; clear HB; have HO575 := n0_; have BK570 := n1_; have BK576 := n2_; have HB := n3_; clear n0_ n1_ n2_ n3_; (try clear hb); (try clear hb2); (try clear hk); (try clear hi); have hcz35_0 : w34.cell? ⟨gb570, 0, none⟩ = some (.int .u32 a0_0) := (blk_cell BK570.out 0).trans rfl; have hcz35_1 : w34.cell? ⟨gb570, 1, none⟩ = some (.int .i64 a0_1) := (blk_cell BK570.out 1).trans rfl; have hcz35_2 : w34.cell? ⟨gb570, 2, none⟩ = some (.int .u64 a0_2) := (blk_cell BK570.out 2).trans rfl; have hcz35_3 : w34.cell? ⟨gb570, 3, none⟩ = some (.int .u64 a0_3) := (blk_cell BK570.out 3).trans rfl; have hfz35_0 := blk_frozen BK570.out 0; have hfz35_1 := blk_frozen BK570.out 1; have hfz35_2 := blk_frozen BK570.out 2; have hfz35_3 := blk_frozen BK570.out 3) | ((with_reducible refine gate_dst (N := 9) rfl ?_); (try (refine gate_guard (by rfl) ?_; dsimp only)); refine box_event ?hg (N := 9) ?hd (cs := #[.int .u32 0, .int .i64 0, .int .u64 0, .int .u64 0]) (t := 45) ?hr ?_; (case hd => rfl); (case hg => rfl); (case hr => first | (go_simp; done) | (go_simp; rfl)); intro gb578 hg w36 hbox hb; have n0_ := Aside0.mk (Kd.R_below (Kd.R_elderB (by (with_reducible repeat (first | apply Kd.R_alloc | apply Kd.R_drewN | apply Kd.R_drew)); exact HO575.out) gb578 (Nat.le_of_eq hg.symm)) hb); have n1_ := Aside0.mk (blk_below (g := gb570) (o := .cells #[.int .u32 a0_0, .int .i64 a0_1, .int .u64 a0_2, .int .u64 a0_3] 45 (0, 0)) y10_ hb); have n2_ := Aside0.mk (blk_below (g := gb576) (o := .cells #[.int .i64 2, .int .u32 0, .slice none 0 0, .slice Ao30 y573.length co30] 29 (0, 0)) y26_ hb); have n3_ := Aside0.mk (below_step y32_ hb); have n4_ := Aside0.mk (hbox); have n5_ := Aside0.mk ((by rw [hg]; exact (below_size y32_) : w.heap.size ≤ gb578)); have n6_ := Aside0.mk ((by rw [hg]; exact (below_size y32_) : w.heap.size ≤ gb578)); have n7_ := Aside0.mk ((by rw [hg]; exact Nat.ne_of_lt (blk_lt (g := gb570) (o := .cells #[.int .u32 a0_0, .int .i64 a0_1, .int .u64 a0_2, .int .u64 a0_3] 45 (0, 0)) y10_) : gb570 ≠ gb578)); have n8_ := Aside0.mk ((by rw [hg]; exact Nat.ne_of_gt (blk_lt (g := gb570) (o := .cells #[.int .u32 a0_0, .int .i64 a0_1, .int .u64 a0_2, .int .u64 a0_3] 45 (0, 0)) y10_) : gb578 ≠ gb570)); have n9_ := Aside0.mk ((by rw [hg]; exact Nat.ne_of_lt (blk_lt (g := gb576) (o := .cells #[.int .i64 2, .int .u32 0, .slice none 0 0, .slice Ao30 y573.length co30] 29 (0, 0)) y26_) : gb576 ≠ gb578)); have n10_ := Aside0.mk ((by rw [hg]; exact Nat.ne_of_gt (blk_lt (g := gb576) (o := .cells #[.int .i64 2, .int .u32 0, .slice none 0 0, .slice Ao30 y573.length co30] 29 (0, 0)) y26_) : gb578 ≠ gb576)); clear HO575; clear BK570; clear BK576; clear HB; have HO575 := n0_; have BK570 := n1_; have BK576 := n2_; have HB := n3_; have BK578 := n4_; have GW578 := n5_; have GE578 := n6_; have NB570_578 := n7_; have NB578_570 := n8_; have NB576_578 := n9_; have NB578_576 := n10_; clear n0_ n1_ n2_ n3_ n4_ n5_ n6_ n7_ n8_ n9_ n10_; clear hb hbox hg; have hnb37 := NB578_570.out; have hnc37 := NB570_578.out; have hnb38 := NB578_576.out; have hnc38 := NB576_578.out; have hcz39_0 : w36.cell? ⟨gb578, 0, none⟩ = some (.int .u32 0) := (blk_cell BK578.out 0).trans rfl; have hcz39_1 : w36.cell? ⟨gb578, 1, none⟩ = some (.int .i64 0) := (blk_cell BK578.out 1).trans rfl; have hcz39_2 : w36.cell? ⟨gb578, 2, none⟩ = some (.int .u64 0) := (blk_cell BK578.out 2).trans rfl; have hcz39_3 : w36.cell? ⟨gb578, 3, none⟩ = some (.int .u64 0) := (blk_cell BK578.out 3).trans rfl; have hfz39_0 := blk_frozen BK578.out 0; have hfz39_1 := blk_frozen BK578.out 1; have hfz39_2 := blk_frozen BK578.out 2; have hfz39_3 := blk_frozen BK578.out 3))
    go_loopg [52] kj3 (fun kq v52 w' => ∃ (x52_2 : Int) (x577003_2 : List (S45)) (x579001_2 : Int) (x579002_2 : Int) (u577003 : Value), v52 = .int .i64 x52_2 ∧ Aside0 (manometerlaw13_RecordNear.l0 kq l1 l2 t577 l1 (l1.length : Int) x52_2 2 0 x577003_2 a0_0 x579001_2 x579002_2 a0_3 = some r) ∧ Aside0 (kq ≤ kj3) ∧ Aside0 (Kd.R k45 45 w' w.heap.size (fun k_ => k_ ≠ gb570 ∧ k_ ≠ gb578) u577003 x577003_2) ∧ Aside0 (w'.heap[gb570]? = some (.cells #[.int .u32 a0_0, .int .i64 a0_1, .int .u64 a0_2, .int .u64 a0_3] 45 (0, 0))) ∧ Aside0 (w'.heap[gb576]? = some (.cells #[.int .i64 2, .int .u32 0, (.slice none 0 0), u577003] 29 (0, 0))) ∧ Aside0 (w'.heap[gb578]? = some (.cells #[.int .u32 a0_0, .int .i64 x579001_2, .int .u64 x579002_2, .int .u64 a0_3] 45 (0, 0))) ∧ Aside0 (Below w.heap.size w w'))
    case atStart => exact ⟨(0), (y573), (a0_1), (a0_2), (.slice Ao30 y573.length co30), y12_, H', ⟨Nat.le_refl _⟩, ⟨by (with_reducible repeat (first | apply Kd.R_alloc | apply Kd.R_drewN | apply Kd.R_drew)); exact Kd.R_mono (Kd.R_far (p := ⟨gb578, 3, none⟩) (Kd.R_far (p := ⟨gb578, 2, none⟩) (Kd.R_far (p := ⟨gb578, 1, none⟩) (Kd.R_far (p := ⟨gb578, 0, none⟩) (Kd.R_mono HO575.out (fun k_ hk => (⟨hk, hk.2⟩ : _ ∧ k_ ≠ gb578))) (fun _ hk => hk.2) (.int .u32 a0_0)) (fun _ hk => hk.2) (.int .i64 a0_1)) (fun _ hk => hk.2) (.int .u64 a0_2)) (fun _ hk => hk.2) (.int .u64 a0_3)) (fun _ hk => ⟨hk.1.1.2, hk.1.2⟩)⟩, ⟨by (with_reducible repeat (first | refine blk_drewN ?_ _ | refine blk_drew ?_ | refine blk_alloc ?_ _)); refine blk_far ?_ NB570_578.out _; (with_reducible repeat (first | refine blk_drewN ?_ _ | refine blk_drew ?_ | refine blk_alloc ?_ _)); refine blk_far ?_ NB570_578.out _; (with_reducible repeat (first | refine blk_drewN ?_ _ | refine blk_drew ?_ | refine blk_alloc ?_ _)); refine blk_far ?_ NB570_578.out _; (with_reducible repeat (first | refine blk_drewN ?_ _ | refine blk_drew ?_ | refine blk_alloc ?_ _)); refine blk_far ?_ NB570_578.out _; (with_reducible repeat (first | refine blk_drewN ?_ _ | refine blk_drew ?_ | refine blk_alloc ?_ _)); exact BK570.out⟩, ⟨by (with_reducible repeat (first | refine blk_drewN ?_ _ | refine blk_drew ?_ | refine blk_alloc ?_ _)); refine blk_far ?_ NB576_578.out _; (with_reducible repeat (first | refine blk_drewN ?_ _ | refine blk_drew ?_ | refine blk_alloc ?_ _)); refine blk_far ?_ NB576_578.out _; (with_reducible repeat (first | refine blk_drewN ?_ _ | refine blk_drew ?_ | refine blk_alloc ?_ _)); refine blk_far ?_ NB576_578.out _; (with_reducible repeat (first | refine blk_drewN ?_ _ | refine blk_drew ?_ | refine blk_alloc ?_ _)); refine blk_far ?_ NB576_578.out _; (with_reducible repeat (first | refine blk_drewN ?_ _ | refine blk_drew ?_ | refine blk_alloc ?_ _)); exact BK576.out⟩, ⟨by (with_reducible repeat (first | refine blk_drewN ?_ _ | refine blk_drew ?_ | refine blk_alloc ?_ _)); refine blk_put (cs := #[.int .u32 a0_0, .int .i64 a0_1, .int .u64 a0_2, .int .u64 0]) ?_ 3 _ rfl; (with_reducible repeat (first | refine blk_drewN ?_ _ | refine blk_drew ?_ | refine blk_alloc ?_ _)); refine blk_put (cs := #[.int .u32 a0_0, .int .i64 a0_1, .int .u64 0, .int .u64 0]) ?_ 2 _ rfl; (with_reducible repeat (first | refine blk_drewN ?_ _ | refine blk_drew ?_ | refine blk_alloc ?_ _)); refine blk_put (cs := #[.int .u32 a0_0, .int .i64 0, .int .u64 0, .int .u64 0]) ?_ 1 _ rfl; (with_reducible repeat (first | refine blk_drewN ?_ _ | refine blk_drew ?_ | refine blk_alloc ?_ _)); refine blk_put (cs := #[.int .u32 0, .int .i64 0, .int .u64 0, .int .u64 0]) ?_ 0 _ rfl; (with_reducible repeat (first | refine blk_drewN ?_ _ | refine blk_drew ?_ | refine blk_alloc ?_ _)); exact BK578.out⟩, ⟨y4_⟩⟩
    case round =>
     clear H'
     try clear c1
     try clear c2
     try clear p2
     try clear c3
     try clear c4
     try clear c5
     try clear c7
     try clear c8
     try clear c8b0
     try clear c8b1
     try clear c11
     try clear c11b0
     try clear c11b1
     try clear c14
     try clear c14b0
     try clear c14b1
     try clear c17
     try clear c17b0
     try clear c17b1
     try clear c18
     try clear c23
     try clear c32
     try clear c37
     try clear c38
     try clear hcz10_0
     try clear hcz10_1
     try clear hcz10_2
     try clear hcz10_3
     try clear hcz13_0
     try clear hcz13_1
     try clear hcz13_2
     try clear hcz13_3
     try clear hcz16_0
     try clear hcz16_1
     try clear hcz16_2
     try clear hcz16_3
     try clear hcz19_0
     try clear hcz19_1
     try clear hcz19_2
     try clear hcz19_3
     try clear hcz21_0
     try clear hcz21_1
     try clear hcz21_2
     try clear hcz21_3
     try clear hcz27_0
     try clear hcz27_1
     try clear hcz27_2
     try clear hcz27_3
     try clear hcz33_0
     try clear hcz33_1
     try clear hcz33_2
     try clear hcz33_3
     try clear hcz35_0
     try clear hcz35_1
     try clear hcz35_2
     try clear hcz35_3
     try clear hcz39_0
     try clear hcz39_1
     try clear hcz39_2
     try clear hcz39_3
     try clear hfz10_0
     try clear hfz10_1
     try clear hfz10_2
     try clear hfz10_3
     try clear hfz13_0
     try clear hfz13_1
     try clear hfz13_2
     try clear hfz13_3
     try clear hfz16_0
     try clear hfz16_1
     try clear hfz16_2
     try clear hfz16_3
     try clear hfz19_0
     try clear hfz19_1
     try clear hfz19_2
     try clear hfz19_3
     try clear hfz21_0
     try clear hfz21_1
     try clear hfz21_2
     try clear hfz21_3
     try clear hfz27_0
     try clear hfz27_1
     try clear hfz27_2
     try clear hfz27_3
     try clear hfz33_0
     try clear hfz33_1
     try clear hfz33_2
     try clear hfz33_3
     try clear hfz35_0
     try clear hfz35_1
     try clear hfz35_2
     try clear hfz35_3
     try clear hfz39_0
     try clear hfz39_1
     try clear hfz39_2
     try clear hfz39_3
     try clear p2
     obtain ⟨x52_2, x577003_2, x579001_2, x579002_2, u577003, rfl, HA, HK2, HO_577003, BK570, BK576, BK578, HB⟩ := hrel
     cases gk with
     | zero => exact absurd HA.out (by simp [manometerlaw13_RecordNear.l0])
     | succ k2 =>
      have H := HA.out
      clear HA
      simp only [manometerlaw13_RecordNear.l0] at H
      by_cases c40 : x52_2 < (l1.length : Int)
      ·rw [if_pos c40] at H
       have c40b0 : decide (x52_2 < (l1.length : Int)) = true := decide_eq_true c40
       clear c40
       by_cases c41 : 0 ≤ x52_2
       ·rw [if_pos c41] at H
        have c41b0 : decide (0 ≤ x52_2) = true := decide_eq_true c41
        clear c41
        by_cases c42 : x52_2 < (l1.length : Int)
        ·rw [if_pos c42] at H
         have c42b0 : decide (x52_2 < (l1.length : Int)) = true := decide_eq_true c42
         clear c42
         obtain ⟨bq43, hbq43⟩ : ∃ b_ : Bool, b_ = (rdOf false l1 x52_2) := ⟨_, rfl⟩
         replace H : (if bq43 = true then (if x52_2 < (l2.length : Int) then (if x577003_2.length < 4398046511104 then (manometerlaw13_RecordNear.l0 k2 l1 l2 t577 l1 (l1.length : Int) (wrap64 (x52_2 + 1)) 2 0 (x577003_2 ++ [(⟨a0_0, (⟨wrap64 (x579001_2 + 1), rd l2 x52_2, a0_3⟩ : S43)⟩ : S45)]) a0_0 (wrap64 (x579001_2 + 1)) (rd l2 x52_2) a0_3) else (none)) else (if x577003_2.length < 4398046511104 then (manometerlaw13_RecordNear.l0 k2 l1 l2 t577 l1 (l1.length : Int) (wrap64 (x52_2 + 1)) 2 0 (x577003_2 ++ [(⟨a0_0, (⟨wrap64 (x579001_2 + 1), x579002_2, a0_3⟩ : S43)⟩ : S45)]) a0_0 (wrap64 (x579001_2 + 1)) x579002_2 a0_3) else (none))) else (if x52_2 < (l2.length : Int) then (if x577003_2.length < 4398046511104 then (manometerlaw13_RecordNear.l0 k2 l1 l2 t577 l1 (l1.length : Int) (wrap64 (x52_2 + 1)) 2 0 (x577003_2 ++ [(⟨a0_0, (⟨x579001_2, rd l2 x52_2, a0_3⟩ : S43)⟩ : S45)]) a0_0 x579001_2 (rd l2 x52_2) a0_3) else (none)) else (if x577003_2.length < 4398046511104 then (manometerlaw13_RecordNear.l0 k2 l1 l2 t577 l1 (l1.length : Int) (wrap64 (x52_2 + 1)) 2 0 (x577003_2 ++ [(⟨a0_0, (⟨x579001_2, x579002_2, a0_3⟩ : S43)⟩ : S45)]) a0_0 x579001_2 x579002_2 a0_3) else (none)))) = some r := by rw [← hbq43] at H; exact H
         have Nbq43 := Aside0.mk hbq43
         clear hbq43
         by_cases c44 : bq43 = true
         ·subst c44
          have H1 : (if x52_2 < (l2.length : Int) then (if x577003_2.length < 4398046511104 then (manometerlaw13_RecordNear.l0 k2 l1 l2 t577 l1 (l1.length : Int) (wrap64 (x52_2 + 1)) 2 0 (x577003_2 ++ [(⟨a0_0, (⟨wrap64 (x579001_2 + 1), rd l2 x52_2, a0_3⟩ : S43)⟩ : S45)]) a0_0 (wrap64 (x579001_2 + 1)) (rd l2 x52_2) a0_3) else (none)) else (if x577003_2.length < 4398046511104 then (manometerlaw13_RecordNear.l0 k2 l1 l2 t577 l1 (l1.length : Int) (wrap64 (x52_2 + 1)) 2 0 (x577003_2 ++ [(⟨a0_0, (⟨wrap64 (x579001_2 + 1), x579002_2, a0_3⟩ : S43)⟩ : S45)]) a0_0 (wrap64 (x579001_2 + 1)) x579002_2 a0_3) else (none))) = some r := by rw [if_pos rfl] at H; exact H
          clear H
          have H := H1
          clear H1
          by_cases c45 : x52_2 < (l2.length : Int)
          ·rw [if_pos c45] at H
           have c45b0 : decide (x52_2 < (l2.length : Int)) = true := decide_eq_true c45
           clear c45
           by_cases c46 : x577003_2.length < 4398046511104
           ·rw [if_pos c46] at H
            have LMc46 := Aside0.mk c46
            clear c46
            obtain ⟨y582, hy582⟩ : ∃ y_ : List (S45), y_ = (x577003_2 ++ [(⟨a0_0, (⟨wrap64 (x579001_2 + 1), rd l2 x52_2, a0_3⟩ : S43)⟩ : S45)]) := ⟨_, rfl⟩
            replace H : (manometerlaw13_RecordNear.l0 k2 l1 l2 t577 l1 (l1.length : Int) (wrap64 (x52_2 + 1)) 2 0 y582 a0_0 (wrap64 (x579001_2 + 1)) (rd l2 x52_2) a0_3) = some r := by first | (rw [hy582]; with_reducible exact H) | (have H2_ := (Option.bind_some _ _).symm.trans H; rw [hy582]; with_reducible exact H2_) | (have H2_ := (Option.bind_some _ _).symm.trans H; with_reducible exact H2_) | with_reducible exact H | (rw [hy582]; exact H) | exact H
            have Ny582 := Aside0.mk hy582
            clear hy582
            have H' := Aside0.mk H
            clear H
            have p580 : 0 ≤ (x52_2 : Int) := of_decide_eq_true y5_
            have q580 : x52_2 < (l1.length : Int) := of_decide_eq_true y5_
            obtain ⟨ad580, e580, hx580_0⟩ := Kd.at_bool HR1.out x52_2 p580 q580
            (try rw [← Nbq43.out] at hx580_0)
            cases e580
            replace hx580_0 := (HB.out.cell (World.block_lt_of_cell? w _ hx580_0)).trans hx580_0
            replace p580 := eq_true p580
            replace q580 := eq_true q580
            have hnb47 := NB578_570.out
            have hnc47 := NB570_578.out
            have hnb48 := NB578_576.out
            have hnc48 := NB576_578.out
            have hcz49_0 : wr.cell? ⟨gb578, 0, none⟩ = some (.int .u32 a0_0) := (blk_cell BK578.out 0).trans rfl
            have hcz49_1 : wr.cell? ⟨gb578, 1, none⟩ = some (.int .i64 x579001_2) := (blk_cell BK578.out 1).trans rfl
            have hcz49_2 : wr.cell? ⟨gb578, 2, none⟩ = some (.int .u64 x579002_2) := (blk_cell BK578.out 2).trans rfl
            have hcz49_3 : wr.cell? ⟨gb578, 3, none⟩ = some (.int .u64 a0_3) := (blk_cell BK578.out 3).trans rfl
            have hfz49_0 := blk_frozen BK578.out 0
            have hfz49_1 := blk_frozen BK578.out 1
            have hfz49_2 := blk_frozen BK578.out 2
            have hfz49_3 := blk_frozen BK578.out 3
            have p581 : 0 ≤ (x52_2 : Int) := of_decide_eq_true y5_
            have q581 : x52_2 < (l2.length : Int) := of_decide_eq_true y5_
            obtain ⟨ad581, e581, hx581_0⟩ := Kd.at_int HR2.out x52_2 p581 q581
            cases e581
            have hn581_0 : ad581.block ≠ gb578 := Nat.ne_of_lt (Nat.lt_of_lt_of_le (by have := World.block_lt_of_cell? _ _ hx581_0; first | rwa [add_block] at this | exact this) GW578.out)
            replace hx581_0 := (HB.out.cell (World.block_lt_of_cell? w _ hx581_0)).trans hx581_0
            replace hx581_0 := (cell_far (p := ⟨gb578, 1, none⟩) (by first | (rw [add_block]; exact hn581_0) | (show (Addr.add _ _).block ≠ _; rw [add_block]; exact hn581_0) | exact hn581_0) (.int .i64 (wrap64 (x579001_2 + 1)))).trans hx581_0
            clear hn581_0
            replace p581 := eq_true p581
            replace q581 := eq_true q581
            have hnb50 := NB576_570.out
            have hnc50 := NB570_576.out
            have hcz51_0 : wr.cell? ⟨gb576, 0, none⟩ = some (.int .i64 2) := (blk_cell BK576.out 0).trans rfl
            have hcz51_1 : wr.cell? ⟨gb576, 1, none⟩ = some (.int .u32 0) := (blk_cell BK576.out 1).trans rfl
            have hcz51_2 : wr.cell? ⟨gb576, 2, none⟩ = some (.slice none 0 0) := (blk_cell BK576.out 2).trans rfl
            have hcz51_3 : wr.cell? ⟨gb576, 3, none⟩ = some (u577003) := (blk_cell BK576.out 3).trans rfl
            have hfz51_0 := blk_frozen BK576.out 0
            have hfz51_1 := blk_frozen BK576.out 1
            have hfz51_2 := blk_frozen BK576.out 2
            have hfz51_3 := blk_frozen BK576.out 3
            go_wp2_with (first | ((with_reducible refine gate_builtin (b := .append) (xs := #[.tmp 75, .tmp 77]) rfl ?_); (try (refine gate_guard (by rfl) ?_; dsimp only)); at_builtin; refine Kd.R_append k45 (w0 := w) w.heap.size rfl (.tmp 75) (.tmp 77) 27 45 (.agg #[(.int .u32 0), (.int .i64 0), (.int .u64 0), (.int .u64 0)]) 32 rfl Tryd.underlying27 info45 rfl (by decide) (by omega) u577003 x577003_2 (⟨a0_0, (⟨wrap64 (x579001_2 + 1), rd l2 x52_2, a0_3⟩ : S43)⟩ : S45) [.int .u32 a0_0, .int .i64 (wrap64 (x579001_2 + 1)), .int .u64 (rd l2 x52_2), .int .u64 a0_3] (fun k_ => k_ ≠ gb570 ∧ k_ ≠ gb578) (fun _ => False) rfl (by first | (go_simp; done) | (go_simp; rfl)) ?aP (fun _ hk => hk.elim) ?aF ?aO ?aB ?aS ?aL ?_; (case aP => exact k45_mkM _ _ _ (⟨a0_0, (⟨wrap64 (x579001_2 + 1), rd l2 x52_2, a0_3⟩ : S43)⟩ : S45)); (case aB => exact y4_); (case aF => exact (fun k_ hk => ⟨Kd.freshB (g := gb570) (o := .cells #[.int .u32 a0_0, .int .i64 a0_1, .int .u64 a0_2, .int .u64 a0_3] 45 (0, 0)) y54_ k_ hk, Kd.freshB (g := gb578) (o := .cells #[.int .u32 a0_0, .int .i64 (wrap64 (x579001_2 + 1)), .int .u64 (rd l2 x52_2), .int .u64 a0_3] 45 (0, 0)) y39_ k_ hk⟩)); (case aO => exact (by (with_reducible repeat (first | apply Kd.R_alloc | apply Kd.R_drewN | apply Kd.R_drew)); exact Kd.R_mono (Kd.R_far (p := ⟨gb578, 2, none⟩) (Kd.R_far (p := ⟨gb578, 1, none⟩) (Kd.R_mono HO_577003.out (fun k_ hk => (⟨hk, hk.2⟩ : _ ∧ k_ ≠ gb578))) (fun _ hk => hk.2) (.int .i64 (wrap64 (x579001_2 + 1)))) (fun _ hk => hk.2) (.int .u64 (rd l2 x52_2))) (fun _ hk => ⟨hk.1.1, hk.1.2⟩))); (case aS => exact (below_size y4_)); (case aL => have := LMc46.out; omega); intro v583 w52 ho hb hg hat; rw [← Ny582.out] at ho; have n0_ := Aside0.mk (blk_grown (g := gb570) (o := .cells #[.int .u32 a0_0, .int .i64 a0_1, .int .u64 a0_2, .int .u64 a0_3] 45 (0, 0)) y54_ hg (Kd.R_away HO_577003.out (fun _ hk => hk.1))); have n1_ := Aside0.mk (blk_grown (g := gb576) (o := .cells #[.int .i64 2, .int .u32 0, .slice none 0 0, u577003] 29 (0, 0)) (by (with_reducible repeat (first | refine blk_drewN ?_ _ | refine blk_drew ?_ | refine blk_alloc ?_ _)); refine blk_far ?_ NB576_578.out _; (with_reducible repeat (first | refine blk_drewN ?_ _ | refine blk_drew ?_ | refine blk_alloc ?_ _)); refine blk_far ?_ NB576_578.out _; (with_reducible repeat (first | refine blk_drewN ?_ _ | refine blk_drew ?_ | refine blk_alloc ?_ _)); exact BK576.out) hg (Kd.R_ne HO_577003.out BK576.out (by decide))); have n2_ := Aside0.mk (blk_grown (g := gb578) (o := .cells #[.int .u32 a0_0, .int .i64 (wrap64 (x579001_2 + 1)), .int .u64 (rd l2 x52_2), .int .u64 a0_3] 45 (0, 0)) y39_ hg (Kd.R_away HO_577003.out (fun _ hk => hk.2))); have n3_ := Aside0.mk (hb); have n4_ := Aside0.mk (ho); clear BK570; clear BK576; clear BK578; clear HB; clear HO_577003; have BK570 := n0_; have BK576 := n1_; have BK578 := n2_; have HB := n3_; have HO584 := n4_; clear n0_ n1_ n2_ n3_ n4_; clear ho hb hg hat; obtain ⟨Ao53, co53, eo53⟩ := Kd.R_slice HO584.out; subst eo53; have hcz54_0 : w52.cell? ⟨gb576, 0, none⟩ = some (.int .i64 2) := (blk_cell BK576.out 0).trans rfl; have hcz54_1 : w52.cell? ⟨gb576, 1, none⟩ = some (.int .u32 0) := (blk_cell BK576.out 1).trans rfl; have hcz54_2 : w52.cell? ⟨gb576, 2, none⟩ = some (.slice none 0 0) := (blk_cell BK576.out 2).trans rfl; have hcz54_3 : w52.cell? ⟨gb576, 3, none⟩ = some (u577003) := (blk_cell BK576.out 3).trans rfl; have hfz54_0 := blk_frozen BK576.out 0; have hfz54_1 := blk_frozen BK576.out 1; have hfz54_2 := blk_frozen BK576.out 2; have hfz54_3 := blk_frozen BK576.out 3))
            go_roundg k2
            case measure => have := HJ3.out; have := HK2.out; omega
            case rel => exact ⟨(wrap64 (x52_2 + 1)), (y582), (wrap64 (x579001_2 + 1)), (rd l2 x52_2), (.slice Ao53 y582.length co53), y12_, H', ⟨by have := HJ3.out; have := HK2.out; omega⟩, ⟨by (with_reducible repeat (first | apply Kd.R_alloc | apply Kd.R_drewN | apply Kd.R_drew)); exact Kd.R_mono (Kd.R_far (p := ⟨gb576, 3, none⟩) (Kd.R_types HO584.out BK576.out (by decide)) (fun _ hk => hk.2) (.slice Ao53 y582.length co53)) (fun _ hk => ⟨hk.1.1, hk.1.2⟩)⟩, ⟨y35_⟩, ⟨y28_⟩, ⟨y33_⟩, ⟨y4_⟩⟩
           ·rw [if_neg c46] at H
            exact absurd H (by simp)
          ·rw [if_neg c45] at H
           have c45b0 : decide (x52_2 < (l2.length : Int)) = false := decide_eq_false c45
           clear c45
           by_cases c55 : x577003_2.length < 4398046511104
           ·rw [if_pos c55] at H
            have LMc55 := Aside0.mk c55
            clear c55
            obtain ⟨y585, hy585⟩ : ∃ y_ : List (S45), y_ = (x577003_2 ++ [(⟨a0_0, (⟨wrap64 (x579001_2 + 1), x579002_2, a0_3⟩ : S43)⟩ : S45)]) := ⟨_, rfl⟩
            replace H : (manometerlaw13_RecordNear.l0 k2 l1 l2 t577 l1 (l1.length : Int) (wrap64 (x52_2 + 1)) 2 0 y585 a0_0 (wrap64 (x579001_2 + 1)) x579002_2 a0_3) = some r := by first | (rw [hy585]; with_reducible exact H) | (have H2_ := (Option.bind_some _ _).symm.trans H; rw [hy585]; with_reducible exact H2_) | (have H2_ := (Option.bind_some _ _).symm.trans H; with_reducible exact H2_) | with_reducible exact H | (rw [hy585]; exact H) | exact H
            have Ny585 := Aside0.mk hy585
            clear hy585
            have H' := Aside0.mk H
            clear H
            have p580 : 0 ≤ (x52_2 : Int) := of_decide_eq_true y5_
            have q580 : x52_2 < (l1.length : Int) := of_decide_eq_true y5_
            obtain ⟨ad580, e580, hx580_0⟩ := Kd.at_bool HR1.out x52_2 p580 q580
            (try rw [← Nbq43.out] at hx580_0)
            cases e580
            replace hx580_0 := (HB.out.cell (World.block_lt_of_cell? w _ hx580_0)).trans hx580_0
            replace p580 := eq_true p580
            replace q580 := eq_true q580
            have hnb56 := NB578_570.out
            have hnc56 := NB570_578.out
            have hnb57 := NB578_576.out
            have hnc57 := NB576_578.out
            have hcz58_0 : wr.cell? ⟨gb578, 0, none⟩ = some (.int .u32 a0_0) := (blk_cell BK578.out 0).trans rfl
            have hcz58_1 : wr.cell? ⟨gb578, 1, none⟩ = some (.int .i64 x579001_2) := (blk_cell BK578.out 1).trans rfl
            have hcz58_2 : wr.cell? ⟨gb578, 2, none⟩ = some (.int .u64 x579002_2) := (blk_cell BK578.out 2).trans rfl
            have hcz58_3 : wr.cell? ⟨gb578, 3, none⟩ = some (.int .u64 a0_3) := (blk_cell BK578.out 3).trans rfl
            have hfz58_0 := blk_frozen BK578.out 0
            have hfz58_1 := blk_frozen BK578.out 1
            have hfz58_2 := blk_frozen BK578.out 2
            have hfz58_3 := blk_frozen BK578.out 3
            have hnb59 := NB576_570.out
            have hnc59 := NB570_576.out
            have hcz60_0 : wr.cell? ⟨gb576, 0, none⟩ = some (.int .i64 2) := (blk_cell BK576.out 0).trans rfl
            have hcz60_1 : wr.cell? ⟨gb576, 1, none⟩ = some (.int .u32 0) := (blk_cell BK576.out 1).trans rfl
            have hcz60_2 : wr.cell? ⟨gb576, 2, none⟩ = some (.slice none 0 0) := (blk_cell BK576.out 2).trans rfl
            have hcz60_3 : wr.cell? ⟨gb576, 3, none⟩ = some (u577003) := (blk_cell BK576.out 3).trans rfl
            have hfz60_0 := blk_frozen BK576.out 0
            have hfz60_1 := blk_frozen BK576.out 1
            have hfz60_2 := blk_frozen BK576.out 2
            have hfz60_3 := blk_frozen BK576.out 3
            go_wp2_with (first | ((with_reducible refine gate_builtin (b := .append) (xs := #[.tmp 75, .tmp 77]) rfl ?_); (try (refine gate_guard (by rfl) ?_; dsimp only)); at_builtin; refine Kd.R_append k45 (w0 := w) w.heap.size rfl (.tmp 75) (.tmp 77) 27 45 (.agg #[(.int .u32 0), (.int .i64 0), (.int .u64 0), (.int .u64 0)]) 32 rfl Tryd.underlying27 info45 rfl (by decide) (by omega) u577003 x577003_2 (⟨a0_0, (⟨wrap64 (x579001_2 + 1), x579002_2, a0_3⟩ : S43)⟩ : S45) [.int .u32 a0_0, .int .i64 (wrap64 (x579001_2 + 1)), .int .u64 x579002_2, .int .u64 a0_3] (fun k_ => k_ ≠ gb570 ∧ k_ ≠ gb578) (fun _ => False) rfl (by first | (go_simp; done) | (go_simp; rfl)) ?aP (fun _ hk => hk.elim) ?aF ?aO ?aB ?aS ?aL ?_; (case aP => exact k45_mkM _ _ _ (⟨a0_0, (⟨wrap64 (x579001_2 + 1), x579002_2, a0_3⟩ : S43)⟩ : S45)); (case aB => exact y4_); (case aF => exact (fun k_ hk => ⟨Kd.freshB (g := gb570) (o := .cells #[.int .u32 a0_0, .int .i64 a0_1, .int .u64 a0_2, .int .u64 a0_3] 45 (0, 0)) y34_ k_ hk, Kd.freshB (g := gb578) (o := .cells #[.int .u32 a0_0, .int .i64 (wrap64 (x579001_2 + 1)), .int .u64 x579002_2, .int .u64 a0_3] 45 (0, 0)) y62_ k_ hk⟩)); (case aO => exact (by (with_reducible repeat (first | apply Kd.R_alloc | apply Kd.R_drewN | apply Kd.R_drew)); exact Kd.R_mono (Kd.R_far (p := ⟨gb578, 1, none⟩) (Kd.R_mono HO_577003.out (fun k_ hk => (⟨hk, hk.2⟩ : _ ∧ k_ ≠ gb578))) (fun _ hk => hk.2) (.int .i64 (wrap64 (x579001_2 + 1)))) (fun _ hk => ⟨hk.1.1, hk.1.2⟩))); (case aS => exact (below_size y4_)); (case aL => have := LMc55.out; omega); intro v586 w61 ho hb hg hat; rw [← Ny585.out] at ho; have n0_ := Aside0.mk (blk_grown (g := gb570) (o := .cells #[.int .u32 a0_0, .int .i64 a0_1, .int .u64 a0_2, .int .u64 a0_3] 45 (0, 0)) y34_ hg (Kd.R_away HO_577003.out (fun _ hk => hk.1))); have n1_ := Aside0.mk (blk_grown (g := gb576) (o := .cells #[.int .i64 2, .int .u32 0, .slice none 0 0, u577003] 29 (0, 0)) y64_ hg (Kd.R_ne HO_577003.out BK576.out (by decide))); have n2_ := Aside0.mk (blk_grown (g := gb578) (o := .cells #[.int .u32 a0_0, .int .i64 (wrap64 (x579001_2 + 1)), .int .u64 x579002_2, .int .u64 a0_3] 45 (0, 0)) y62_ hg (Kd.R_away HO_577003.out (fun _ hk => hk.2))); have n3_ := Aside0.mk (hb); have n4_ := Aside0.mk (ho); clear BK570; clear BK576; clear BK578; clear HB; clear HO_577003; have BK570 := n0_; have BK576 := n1_; have BK578 := n2_; have HB := n3_; have HO587 := n4_; clear n0_ n1_ n2_ n3_ n4_; clear ho hb hg hat; obtain ⟨Ao62, co62, eo62⟩ := Kd.R_slice HO587.out; subst eo62; have hcz63_0 : w61.cell? ⟨gb576, 0, none⟩ = some (.int .i64 2) := (blk_cell BK576.out 0).trans rfl; have hcz63_1 : w61.cell? ⟨gb576, 1, none⟩ = some (.int .u32 0) := (blk_cell BK576.out 1).trans rfl; have hcz63_2 : w61.cell? ⟨gb576, 2, none⟩ = some (.slice none 0 0) := (blk_cell BK576.out 2).trans rfl; have hcz63_3 : w61.cell? ⟨gb576, 3, none⟩ = some (u577003) := (blk_cell BK576.out 3).trans rfl; have hfz63_0 := blk_frozen BK576.out 0; have hfz63_1 := blk_frozen BK576.out 1; have hfz63_2 := blk_frozen BK576.out 2; have hfz63_3 := blk_frozen BK576.out 3))
            go_roundg k2
            case measure => have := HJ3.out; have := HK2.out; omega
            case rel => exact ⟨(wrap64 (x52_2 + 1)), (y585), (wrap64 (x579001_2 + 1)), (x579002_2), (.slice Ao62 y585.length co62), y12_, H', ⟨by have := HJ3.out; have := HK2.out; omega⟩, ⟨by (with_reducible repeat (first | apply Kd.R_alloc | apply Kd.R_drewN | apply Kd.R_drew)); exact Kd.R_mono (Kd.R_far (p := ⟨gb576, 3, none⟩) (Kd.R_types HO587.out BK576.out (by decide)) (fun _ hk => hk.2) (.slice Ao62 y585.length co62)) (fun _ hk => ⟨hk.1.1, hk.1.2⟩)⟩, ⟨y35_⟩, ⟨y28_⟩, ⟨y33_⟩, ⟨y4_⟩⟩
           ·rw [if_neg c55] at H
            exact absurd H (by simp)
         ·replace c44 := Bool.eq_false_iff.mpr c44
          subst c44
          have H1 : (if x52_2 < (l2.length : Int) then (if x577003_2.length < 4398046511104 then (manometerlaw13_RecordNear.l0 k2 l1 l2 t577 l1 (l1.length : Int) (wrap64 (x52_2 + 1)) 2 0 (x577003_2 ++ [(⟨a0_0, (⟨x579001_2, rd l2 x52_2, a0_3⟩ : S43)⟩ : S45)]) a0_0 x579001_2 (rd l2 x52_2) a0_3) else (none)) else (if x577003_2.length < 4398046511104 then (manometerlaw13_RecordNear.l0 k2 l1 l2 t577 l1 (l1.length : Int) (wrap64 (x52_2 + 1)) 2 0 (x577003_2 ++ [(⟨a0_0, (⟨x579001_2, x579002_2, a0_3⟩ : S43)⟩ : S45)]) a0_0 x579001_2 x579002_2 a0_3) else (none))) = some r := by rw [if_neg (show ¬ (false = true) by decide)] at H; exact H
          clear H
          have H := H1
          clear H1
          by_cases c64 : x52_2 < (l2.length : Int)
          ·rw [if_pos c64] at H
           have c64b0 : decide (x52_2 < (l2.length : Int)) = true := decide_eq_true c64
           clear c64
           by_cases c65 : x577003_2.length < 4398046511104
           ·rw [if_pos c65] at H
            have LMc65 := Aside0.mk c65
            clear c65
            obtain ⟨y589, hy589⟩ : ∃ y_ : List (S45), y_ = (x577003_2 ++ [(⟨a0_0, (⟨x579001_2, rd l2 x52_2, a0_3⟩ : S43)⟩ : S45)]) := ⟨_, rfl⟩
            replace H : (manometerlaw13_RecordNear.l0 k2 l1 l2 t577 l1 (l1.length : Int) (wrap64 (x52_2 + 1)) 2 0 y589 a0_0 x579001_2 (rd l2 x52_2) a0_3) = some r := by first | (rw [hy589]; with_reducible exact H) | (have H2_ := (Option.bind_some _ _).symm.trans H; rw [hy589]; with_reducible exact H2_) | (have H2_ := (Option.bind_some _ _).symm.trans H; with_reducible exact H2_) | with_reducible exact H | (rw [hy589]; exact H) | exact H
            have Ny589 := Aside0.mk hy589
            clear hy589
            have H' := Aside0.mk H
            clear H
            have p580 : 0 ≤ (x52_2 : Int) := of_decide_eq_true y5_
            have q580 : x52_2 < (l1.length : Int) := of_decide_eq_true y5_
            obtain ⟨ad580, e580, hx580_0⟩ := Kd.at_bool HR1.out x52_2 p580 q580
            (try rw [← Nbq43.out] at hx580_0)
            cases e580
            replace hx580_0 := (HB.out.cell (World.block_lt_of_cell? w _ hx580_0)).trans hx580_0
            replace p580 := eq_true p580
            replace q580 := eq_true q580
            have p588 : 0 ≤ (x52_2 : Int) := of_decide_eq_true y5_
            have q588 : x52_2 < (l2.length : Int) := of_decide_eq_true y5_
            obtain ⟨ad588, e588, hx588_0⟩ := Kd.at_int HR2.out x52_2 p588 q588
            cases e588
            replace hx588_0 := (HB.out.cell (World.block_lt_of_cell? w _ hx588_0)).trans hx588_0
            replace p588 := eq_true p588
            replace q588 := eq_true q588
            have hnb66 := NB578_570.out
            have hnc66 := NB570_578.out
            have hnb67 := NB578_576.out
            have hnc67 := NB576_578.out
            have hcz68_0 : wr.cell? ⟨gb578, 0, none⟩ = some (.int .u32 a0_0) := (blk_cell BK578.out 0).trans rfl
            have hcz68_1 : wr.cell? ⟨gb578, 1, none⟩ = some (.int .i64 x579001_2) := (blk_cell BK578.out 1).trans rfl
            have hcz68_2 : wr.cell? ⟨gb578, 2, none⟩ = some (.int .u64 x579002_2) := (blk_cell BK578.out 2).trans rfl
            have hcz68_3 : wr.cell? ⟨gb578, 3, none⟩ = some (.int .u64 a0_3) := (blk_cell BK578.out 3).trans rfl
            have hfz68_0 := blk_frozen BK578.out 0
            have hfz68_1 := blk_frozen BK578.out 1
            have hfz68_2 := blk_frozen BK578.out 2
            have hfz68_3 := blk_frozen BK578.out 3
            have hnb69 := NB576_570.out
            have hnc69 := NB570_576.out
            have hcz70_0 : wr.cell? ⟨gb576, 0, none⟩ = some (.int .i64 2) := (blk_cell BK576.out 0).trans rfl
            have hcz70_1 : wr.cell? ⟨gb576, 1, none⟩ = some (.int .u32 0) := (blk_cell BK576.out 1).trans rfl
            have hcz70_2 : wr.cell? ⟨gb576, 2, none⟩ = some (.slice none 0 0) := (blk_cell BK576.out 2).trans rfl
            have hcz70_3 : wr.cell? ⟨gb576, 3, none⟩ = some (u577003) := (blk_cell BK576.out 3).trans rfl
            have hfz70_0 := blk_frozen BK576.out 0
            have hfz70_1 := blk_frozen BK576.out 1
            have hfz70_2 := blk_frozen BK576.out 2
            have hfz70_3 := blk_frozen BK576.out 3
            go_wp2_with (first | ((with_reducible refine gate_builtin (b := .append) (xs := #[.tmp 75, .tmp 77]) rfl ?_); (try (refine gate_guard (by rfl) ?_; dsimp only)); at_builtin; refine Kd.R_append k45 (w0 := w) w.heap.size rfl (.tmp 75) (.tmp 77) 27 45 (.agg #[(.int .u32 0), (.int .i64 0), (.int .u64 0), (.int .u64 0)]) 32 rfl Tryd.underlying27 info45 rfl (by decide) (by omega) u577003 x577003_2 (⟨a0_0, (⟨x579001_2, rd l2 x52_2, a0_3⟩ : S43)⟩ : S45) [.int .u32 a0_0, .int .i64 x579001_2, .int .u64 (rd l2 x52_2), .int .u64 a0_3] (fun k_ => k_ ≠ gb570 ∧ k_ ≠ gb578) (fun _ => False) rfl (by first | (go_simp; done) | (go_simp; rfl)) ?aP (fun _ hk => hk.elim) ?aF ?aO ?aB ?aS ?aL ?_; (case aP => exact k45_mkM _ _ _ (⟨a0_0, (⟨x579001_2, rd l2 x52_2, a0_3⟩ : S43)⟩ : S45)); (case aB => exact y4_); (case aF => exact (fun k_ hk => ⟨Kd.freshB (g := gb570) (o := .cells #[.int .u32 a0_0, .int .i64 a0_1, .int .u64 a0_2, .int .u64 a0_3] 45 (0, 0)) y34_ k_ hk, Kd.freshB (g := gb578) (o := .cells #[.int .u32 a0_0, .int .i64 x579001_2, .int .u64 (rd l2 x52_2), .int .u64 a0_3] 45 (0, 0)) y61_ k_ hk⟩)); (case aO => exact (by (with_reducible repeat (first | apply Kd.R_alloc | apply Kd.R_drewN | apply Kd.R_drew)); exact Kd.R_mono (Kd.R_far (p := ⟨gb578, 2, none⟩) (Kd.R_mono HO_577003.out (fun k_ hk => (⟨hk, hk.2⟩ : _ ∧ k_ ≠ gb578))) (fun _ hk => hk.2) (.int .u64 (rd l2 x52_2))) (fun _ hk => ⟨hk.1.1, hk.1.2⟩))); (case aS => exact (below_size y4_)); (case aL => have := LMc65.out; omega); intro v590 w71 ho hb hg hat; rw [← Ny589.out] at ho; have n0_ := Aside0.mk (blk_grown (g := gb570) (o := .cells #[.int .u32 a0_0, .int .i64 a0_1, .int .u64 a0_2, .int .u64 a0_3] 45 (0, 0)) y34_ hg (Kd.R_away HO_577003.out (fun _ hk => hk.1))); have n1_ := Aside0.mk (blk_grown (g := gb576) (o := .cells #[.int .i64 2, .int .u32 0, .slice none 0 0, u577003] 29 (0, 0)) y64_ hg (Kd.R_ne HO_577003.out BK576.out (by decide))); have n2_ := Aside0.mk (blk_grown (g := gb578) (o := .cells #[.int .u32 a0_0, .int .i64 x579001_2, .int .u64 (rd l2 x52_2), .int .u64 a0_3] 45 (0, 0)) y61_ hg (Kd.R_away HO_577003.out (fun _ hk => hk.2))); have n3_ := Aside0.mk (hb); have n4_ := Aside0.mk (ho); clear BK570; clear BK576; clear BK578; clear HB; clear HO_577003; have BK570 := n0_; have BK576 := n1_; have BK578 := n2_; have HB := n3_; have HO591 := n4_; clear n0_ n1_ n2_ n3_ n4_; clear ho hb hg hat; obtain ⟨Ao72, co72, eo72⟩ := Kd.R_slice HO591.out; subst eo72; have hcz73_0 : w71.cell? ⟨gb576, 0, none⟩ = some (.int .i64 2) := (blk_cell BK576.out 0).trans rfl; have hcz73_1 : w71.cell? ⟨gb576, 1, none⟩ = some (.int .u32 0) := (blk_cell BK576.out 1).trans rfl; have hcz73_2 : w71.cell? ⟨gb576, 2, none⟩ = some (.slice none 0 0) := (blk_cell BK576.out 2).trans rfl; have hcz73_3 : w71.cell? ⟨gb576, 3, none⟩ = some (u577003) := (blk_cell BK576.out 3).trans rfl; have hfz73_0 := blk_frozen BK576.out 0; have hfz73_1 := blk_frozen BK576.out 1; have hfz73_2 := blk_frozen BK576.out 2; have hfz73_3 := blk_frozen BK576.out 3))
            go_roundg k2
            case measure => have := HJ3.out; have := HK2.out; omega
            case rel => exact ⟨(wrap64 (x52_2 + 1)), (y589), (x579001_2), (rd l2 x52_2), (.slice Ao72 y589.length co72), y12_, H', ⟨by have := HJ3.out; have := HK2.out; omega⟩, ⟨by (with_reducible repeat (first | apply Kd.R_alloc | apply Kd.R_drewN | apply Kd.R_drew)); exact Kd.R_mono (Kd.R_far (p := ⟨gb576, 3, none⟩) (Kd.R_types HO591.out BK576.out (by decide)) (fun _ hk => hk.2) (.slice Ao72 y589.length co72)) (fun _ hk => ⟨hk.1.1, hk.1.2⟩)⟩, ⟨y35_⟩, ⟨y28_⟩, ⟨y33_⟩, ⟨y4_⟩⟩
           ·rw [if_neg c65] at H
            exact absurd H (by simp)
          ·rw [if_neg c64] at H
           have c64b0 : decide (x52_2 < (l2.length : Int)) = false := decide_eq_false c64
           clear c64
           by_cases c74 : x577003_2.length < 4398046511104
           ·rw [if_pos c74] at H
            have LMc74 := Aside0.mk c74
            clear c74
            obtain ⟨y592, hy592⟩ : ∃ y_ : List (S45), y_ = (x577003_2 ++ [(⟨a0_0, (⟨x579001_2, x579002_2, a0_3⟩ : S43)⟩ : S45)]) := ⟨_, rfl⟩
            replace H : (manometerlaw13_RecordNear.l0 k2 l1 l2 t577 l1 (l1.length : Int) (wrap64 (x52_2 + 1)) 2 0 y592 a0_0 x579001_2 x579002_2 a0_3) = some r := by first | (rw [hy592]; with_reducible exact H) | (have H2_ := (Option.bind_some _ _).symm.trans H; rw [hy592]; with_reducible exact H2_) | (have H2_ := (Option.bind_some _ _).symm.trans H; with_reducible exact H2_) | with_reducible exact H | (rw [hy592]; exact H) | exact H
            have Ny592 := Aside0.mk hy592
            clear hy592
            have H' := Aside0.mk H
            clear H
            have p580 : 0 ≤ (x52_2 : Int) := of_decide_eq_true y5_
            have q580 : x52_2 < (l1.length : Int) := of_decide_eq_true y5_
            obtain ⟨ad580, e580, hx580_0⟩ := Kd.at_bool HR1.out x52_2 p580 q580
            (try rw [← Nbq43.out] at hx580_0)
            cases e580
            replace hx580_0 := (HB.out.cell (World.block_lt_of_cell? w _ hx580_0)).trans hx580_0
            replace p580 := eq_true p580
            replace q580 := eq_true q580
            have hnb75 := NB576_570.out
            have hnc75 := NB570_576.out
            have hnb76 := NB576_578.out
            have hnc76 := NB578_576.out
            have hcz77_0 : wr.cell? ⟨gb576, 0, none⟩ = some (.int .i64 2) := (blk_cell BK576.out 0).trans rfl
            have hcz77_1 : wr.cell? ⟨gb576, 1, none⟩ = some (.int .u32 0) := (blk_cell BK576.out 1).trans rfl
            have hcz77_2 : wr.cell? ⟨gb576, 2, none⟩ = some (.slice none 0 0) := (blk_cell BK576.out 2).trans rfl
            have hcz77_3 : wr.cell? ⟨gb576, 3, none⟩ = some (u577003) := (blk_cell BK576.out 3).trans rfl
            have hfz77_0 := blk_frozen BK576.out 0
            have hfz77_1 := blk_frozen BK576.out 1
            have hfz77_2 := blk_frozen BK576.out 2
            have hfz77_3 := blk_frozen BK576.out 3
            have hnb78 := NB578_570.out
            have hnc78 := NB570_578.out
            have hcz79_0 : wr.cell? ⟨gb578, 0, none⟩ = some (.int .u32 a0_0) := (blk_cell BK578.out 0).trans rfl
            have hcz79_1 : wr.cell? ⟨gb578, 1, none⟩ = some (.int .i64 x579001_2) := (blk_cell BK578.out 1).trans rfl
            have hcz79_2 : wr.cell? ⟨gb578, 2, none⟩ = some (.int .u64 x579002_2) := (blk_cell BK578.out 2).trans rfl
            have hcz79_3 : wr.cell? ⟨gb578, 3, none⟩ = some (.int .u64 a0_3) := (blk_cell BK578.out 3).trans rfl
            have hfz79_0 := blk_frozen BK578.out 0
            have hfz79_1 := blk_frozen BK578.out 1
            have hfz79_2 := blk_frozen BK578.out 2
            have hfz79_3 := blk_frozen BK578.out 3
            go_wp2_with (first | ((with_reducible refine gate_builtin (b := .append) (xs := #[.tmp 75, .tmp 77]) rfl ?_); (try (refine gate_guard (by rfl) ?_; dsimp only)); at_builtin; refine Kd.R_append k45 (w0 := w) w.heap.size rfl (.tmp 75) (.tmp 77) 27 45 (.agg #[(.int .u32 0), (.int .i64 0), (.int .u64 0), (.int .u64 0)]) 32 rfl Tryd.underlying27 info45 rfl (by decide) (by omega) u577003 x577003_2 (⟨a0_0, (⟨x579001_2, x579002_2, a0_3⟩ : S43)⟩ : S45) [.int .u32 a0_0, .int .i64 x579001_2, .int .u64 x579002_2, .int .u64 a0_3] (fun k_ => k_ ≠ gb570 ∧ k_ ≠ gb578) (fun _ => False) rfl rfl ?aP (fun _ hk => hk.elim) ?aF ?aO ?aB ?aS ?aL ?_; (case aP => exact k45_mkM _ _ _ (⟨a0_0, (⟨x579001_2, x579002_2, a0_3⟩ : S43)⟩ : S45)); (case aB => exact y4_); (case aF => exact (fun k_ hk => ⟨Kd.freshB (g := gb570) (o := .cells #[.int .u32 a0_0, .int .i64 a0_1, .int .u64 a0_2, .int .u64 a0_3] 45 (0, 0)) y10_ k_ hk, Kd.freshB (g := gb578) (o := .cells #[.int .u32 a0_0, .int .i64 x579001_2, .int .u64 x579002_2, .int .u64 a0_3] 45 (0, 0)) y31_ k_ hk⟩)); (case aO => exact y37_); (case aS => exact (below_size y4_)); (case aL => have := LMc74.out; omega); intro v593 w80 ho hb hg hat; rw [← Ny592.out] at ho; have n0_ := Aside0.mk (blk_grown (g := gb570) (o := .cells #[.int .u32 a0_0, .int .i64 a0_1, .int .u64 a0_2, .int .u64 a0_3] 45 (0, 0)) y10_ hg (Kd.R_away HO_577003.out (fun _ hk => hk.1))); have n1_ := Aside0.mk (blk_grown (g := gb576) (o := .cells #[.int .i64 2, .int .u32 0, .slice none 0 0, u577003] 29 (0, 0)) y26_ hg (Kd.R_ne HO_577003.out BK576.out (by decide))); have n2_ := Aside0.mk (blk_grown (g := gb578) (o := .cells #[.int .u32 a0_0, .int .i64 x579001_2, .int .u64 x579002_2, .int .u64 a0_3] 45 (0, 0)) y31_ hg (Kd.R_away HO_577003.out (fun _ hk => hk.2))); have n3_ := Aside0.mk (hb); have n4_ := Aside0.mk (ho); clear BK570; clear BK576; clear BK578; clear HB; clear HO_577003; have BK570 := n0_; have BK576 := n1_; have BK578 := n2_; have HB := n3_; have HO594 := n4_; clear n0_ n1_ n2_ n3_ n4_; clear ho hb hg hat; obtain ⟨Ao81, co81, eo81⟩ := Kd.R_slice HO594.out; subst eo81; have hcz82_0 : w80.cell? ⟨gb576, 0, none⟩ = some (.int .i64 2) := (blk_cell BK576.out 0).trans rfl; have hcz82_1 : w80.cell? ⟨gb576, 1, none⟩ = some (.int .u32 0) := (blk_cell BK576.out 1).trans rfl; have hcz82_2 : w80.cell? ⟨gb576, 2, none⟩ = some (.slice none 0 0) := (blk_cell BK576.out 2).trans rfl; have hcz82_3 : w80.cell? ⟨gb576, 3, none⟩ = some (u577003) := (blk_cell BK576.out 3).trans rfl; have hfz82_0 := blk_frozen BK576.out 0; have hfz82_1 := blk_frozen BK576.out 1; have hfz82_2 := blk_frozen BK576.out 2; have hfz82_3 := blk_frozen BK576.out 3))
            go_roundg k2
            case measure => have := HJ3.out; have := HK2.out; omega
            case rel => exact ⟨(wrap64 (x52_2 + 1)), (y592), (x579001_2), (x579002_2), (.slice Ao81 y592.length co81), y12_, H', ⟨by have := HJ3.out; have := HK2.out; omega⟩, ⟨by (with_reducible repeat (first | apply Kd.R_alloc | apply Kd.R_drewN | apply Kd.R_drew)); exact Kd.R_mono (Kd.R_far (p := ⟨gb576, 3, none⟩) (Kd.R_types HO594.out BK576.out (by decide)) (fun _ hk => hk.2) (.slice Ao81 y592.length co81)) (fun _ hk => ⟨hk.1.1, hk.1.2⟩)⟩, ⟨y35_⟩, ⟨y28_⟩, ⟨y33_⟩, ⟨y4_⟩⟩
           ·rw [if_neg c74] at H
            exact absurd H (by simp)
        ·rw [if_neg c42] at H
         exact absurd H (by simp)
       ·rw [if_neg c41] at H
        exact absurd H (by simp)
      ·rw [if_neg c40] at H
       have c40b0 : decide (x52_2 < (l1.length : Int)) = false := decide_eq_false c40
       clear c40
       replace H := Option.bind_eq_some_iff.mp H
       obtain ⟨t579, A830, H⟩ := H
       replace H : (if (x577003_2.length : Int) > 127 then (if t577 > 0 then (if t579 ≥ (wrap64 (t577 + (wrap64 (8 * (l1.length : Int))))) then (some (decide (t579 ≤ (wrap64 ((wrap64 (t577 + (wrap64 (11 * (l1.length : Int))))) + 1))))) else (some false)) else (some false)) else (if t577 > 0 then (if t579 ≥ (wrap64 (t577 + (wrap64 (8 * (l1.length : Int))))) then (some (decide (t579 ≤ (wrap64 ((wrap64 (t577 + (wrap64 (11 * (l1.length : Int))))) + 0))))) else (some false)) else (some false))) = some r := H
       have A83 := Aside0.mk A830
       clear A830
       by_cases c84 : (x577003_2.length : Int) > 127
       ·rw [if_pos c84] at H
        have c84b0 : decide (127 < (x577003_2.length : Int)) = true := decide_eq_true c84
        have c84b1 : decide (127 < x577003_2.length) = true := decide_eq_true (by omega)
        clear c84
        by_cases c85 : t577 > 0
        ·rw [if_pos c85] at H
         have c85b0 : decide (0 < t577) = true := decide_eq_true c85
         clear c85
         by_cases c86 : t579 ≥ (wrap64 (t577 + (wrap64 (8 * (l1.length : Int)))))
         ·rw [if_pos c86] at H
          have c86b0 : decide ((wrap64 (t577 + (wrap64 (8 * (l1.length : Int))))) ≤ t579) = true := decide_eq_true c86
          clear c86
          obtain rfl := Option.some.inj H
          have hnb87 := NB576_570.out
          have hnc87 := NB570_576.out
          have hnb88 := NB576_578.out
          have hnc88 := NB578_576.out
          have hcz89_0 : wr.cell? ⟨gb576, 0, none⟩ = some (.int .i64 2) := (blk_cell BK576.out 0).trans rfl
          have hcz89_1 : wr.cell? ⟨gb576, 1, none⟩ = some (.int .u32 0) := (blk_cell BK576.out 1).trans rfl
          have hcz89_2 : wr.cell? ⟨gb576, 2, none⟩ = some (.slice none 0 0) := (blk_cell BK576.out 2).trans rfl
          have hcz89_3 : wr.cell? ⟨gb576, 3, none⟩ = some (u577003) := (blk_cell BK576.out 3).trans rfl
          have hfz89_0 := blk_frozen BK576.out 0
          have hfz89_1 := blk_frozen BK576.out 1
          have hfz89_2 := blk_frozen BK576.out 2
          have hfz89_3 := blk_frozen BK576.out 3
          obtain ⟨Ao90, co90, eo90⟩ := Kd.R_slice HO_577003.out
          subst eo90
          go_wp2_with (first | ((with_reducible refine gate_callee (f := 18) rfl ?_); refine goesL_ (some 82) rfl rfl Tryd.func18 (by kernel_rfl) rfl #[.agg #[.int .i64 2, .int .u32 0, .slice none 0 0, .slice Ao90 x577003_2.length co90]] rfl y2_ ?_; (refine (record_Size.calls k2 2 0 _ _ ([] : List (S52)) _ _ x577003_2 t579 _ ?side1 ?side2 ?side3 ?side4 ?side5 A83.out).mono ?_); (case side1 => exact ⟨Tab_below hT.out y4_⟩); (case side2 => exact Kd.C_nil _ _); (case side3 => exact Nat.le_refl _); (case side4 => repeat (first | exact (Kd.R_reads' HO_577003.out).2.2 | (with_reducible refine Kd.C_alloc ?_ _) | (with_reducible refine Kd.C_drewN ?_ _) | (with_reducible refine Kd.C_drew ?_))); (case side5 => exact (Kd.R_reads' HO_577003.out).2.1); rintro e w91 ⟨rfl, hb⟩; refine ⟨_, rfl, ?_⟩; have n0_ := Aside0.mk (Kd.R_below y37_ hb); have n1_ := Aside0.mk (blk_below (g := gb570) (o := .cells #[.int .u32 a0_0, .int .i64 a0_1, .int .u64 a0_2, .int .u64 a0_3] 45 (0, 0)) y10_ hb); have n2_ := Aside0.mk (blk_below (g := gb576) (o := .cells #[.int .i64 2, .int .u32 0, .slice none 0 0, .slice Ao90 x577003_2.length co90] 29 (0, 0)) y26_ hb); have n3_ := Aside0.mk (blk_below (g := gb578) (o := .cells #[.int .u32 a0_0, .int .i64 x579001_2, .int .u64 x579002_2, .int .u64 a0_3] 45 (0, 0)) y31_ hb); have n4_ := Aside0.mk (below_step y4_ hb); clear HO_577003; clear BK570; clear BK576; clear BK578; clear HB; have HO_577003 := n0_; have BK570 := n1_; have BK576 := n2_; have BK578 := n3_; have HB := n4_; clear n0_ n1_ n2_ n3_ n4_; (try clear hb); (try clear hb2); (try clear hk); (try clear hi); have hcz92_0 : w91.cell? ⟨gb576, 0, none⟩ = some (.int .i64 2) := (blk_cell BK576.out 0).trans rfl; have hcz92_1 : w91.cell? ⟨gb576, 1, none⟩ = some (.int .u32 0) := (blk_cell BK576.out 1).trans rfl; have hcz92_2 : w91.cell? ⟨gb576, 2, none⟩ = some (.slice none 0 0) := (blk_cell BK576.out 2).trans rfl; have hcz92_3 : w91.cell? ⟨gb576, 3, none⟩ = some (.slice Ao90 x577003_2.length co90) := (blk_cell BK576.out 3).trans rfl; have hfz92_0 := blk_frozen BK576.out 0; have hfz92_1 := blk_frozen BK576.out 1; have hfz92_2 := blk_frozen BK576.out 2; have hfz92_3 := blk_frozen BK576.out 3))
          go_ret
          exact ⟨y7_, y4_⟩
         ·rw [if_neg c86] at H
          have c86b0 : decide ((wrap64 (t577 + (wrap64 (8 * (l1.length : Int))))) ≤ t579) = false := decide_eq_false c86
          clear c86
          obtain rfl := Option.some.inj H
          have hnb93 := NB576_570.out
          have hnc93 := NB570_576.out
          have hnb94 := NB576_578.out
          have hnc94 := NB578_576.out
          have hcz95_0 : wr.cell? ⟨gb576, 0, none⟩ = some (.int .i64 2) := (blk_cell BK576.out 0).trans rfl
          have hcz95_1 : wr.cell? ⟨gb576, 1, none⟩ = some (.int .u32 0) := (blk_cell BK576.out 1).trans rfl
          have hcz95_2 : wr.cell? ⟨gb576, 2, none⟩ = some (.slice none 0 0) := (blk_cell BK576.out 2).trans rfl
          have hcz95_3 : wr.cell? ⟨gb576, 3, none⟩ = some (u577003) := (blk_cell BK576.out 3).trans rfl
          have hfz95_0 := blk_frozen BK576.out 0
          have hfz95_1 := blk_frozen BK576.out 1
          have hfz95_2 := blk_frozen BK576.out 2
          have hfz95_3 := blk_frozen BK576.out 3
          obtain ⟨Ao96, co96, eo96⟩ := Kd.R_slice HO_577003.out
          subst eo96
          go_wp2_with (first | ((with_reducible refine gate_callee (f := 18) rfl ?_); refine goesL_ (some 82) rfl rfl Tryd.func18 (by kernel_rfl) rfl #[.agg #[.int .i64 2, .int .u32 0, .slice none 0 0, .slice Ao96 x577003_2.length co96]] rfl y2_ ?_; (refine (record_Size.calls k2 2 0 _ _ ([] : List (S52)) _ _ x577003_2 t579 _ ?side1 ?side2 ?side3 ?side4 ?side5 A83.out).mono ?_); (case side1 => exact ⟨Tab_below hT.out y4_⟩); (case side2 => exact Kd.C_nil _ _); (case side3 => exact Nat.le_refl _); (case side4 => repeat (first | exact (Kd.R_reads' HO_577003.out).2.2 | (with_reducible refine Kd.C_alloc ?_ _) | (with_reducible refine Kd.C_drewN ?_ _) | (with_reducible refine Kd.C_drew ?_))); (case side5 => exact (Kd.R_reads' HO_577003.out).2.1); rintro e w97 ⟨rfl, hb⟩; refine ⟨_, rfl, ?_⟩; have n0_ := Aside0.mk (Kd.R_below y37_ hb); have n1_ := Aside0.mk (blk_below (g := gb570) (o := .cells #[.int .u32 a0_0, .int .i64 a0_1, .int .u64 a0_2, .int .u64 a0_3] 45 (0, 0)) y10_ hb); have n2_ := Aside0.mk (blk_below (g := gb576) (o := .cells #[.int .i64 2, .int .u32 0, .slice none 0 0, .slice Ao96 x577003_2.length co96] 29 (0, 0)) y26_ hb); have n3_ := Aside0.mk (blk_below (g := gb578) (o := .cells #[.int .u32 a0_0, .int .i64 x579001_2, .int .u64 x579002_2, .int .u64 a0_3] 45 (0, 0)) y31_ hb); have n4_ := Aside0.mk (below_step y4_ hb); clear HO_577003; clear BK570; clear BK576; clear BK578; clear HB; have HO_577003 := n0_; have BK570 := n1_; have BK576 := n2_; have BK578 := n3_; have HB := n4_; clear n0_ n1_ n2_ n3_ n4_; (try clear hb); (try clear hb2); (try clear hk); (try clear hi); have hcz98_0 : w97.cell? ⟨gb576, 0, none⟩ = some (.int .i64 2) := (blk_cell BK576.out 0).trans rfl; have hcz98_1 : w97.cell? ⟨gb576, 1, none⟩ = some (.int .u32 0) := (blk_cell BK576.out 1).trans rfl; have hcz98_2 : w97.cell? ⟨gb576, 2, none⟩ = some (.slice none 0 0) := (blk_cell BK576.out 2).trans rfl; have hcz98_3 : w97.cell? ⟨gb576, 3, none⟩ = some (.slice Ao96 x577003_2.length co96) := (blk_cell BK576.out 3).trans rfl; have hfz98_0 := blk_frozen BK576.out 0; have hfz98_1 := blk_frozen BK576.out 1; have hfz98_2 := blk_frozen BK576.out 2; have hfz98_3 := blk_frozen BK576.out 3))
          go_ret
          exact ⟨y7_, y4_⟩
        ·rw [if_neg c85] at H
         have c85b0 : decide (0 < t577) = false := decide_eq_false c85
         clear c85
         obtain rfl := Option.some.inj H
         have hnb99 := NB576_570.out
         have hnc99 := NB570_576.out
         have hnb100 := NB576_578.out
         have hnc100 := NB578_576.out
         have hcz101_0 : wr.cell? ⟨gb576, 0, none⟩ = some (.int .i64 2) := (blk_cell BK576.out 0).trans rfl
         have hcz101_1 : wr.cell? ⟨gb576, 1, none⟩ = some (.int .u32 0) := (blk_cell BK576.out 1).trans rfl
         have hcz101_2 : wr.cell? ⟨gb576, 2, none⟩ = some (.slice none 0 0) := (blk_cell BK576.out 2).trans rfl
         have hcz101_3 : wr.cell? ⟨gb576, 3, none⟩ = some (u577003) := (blk_cell BK576.out 3).trans rfl
         have hfz101_0 := blk_frozen BK576.out 0
         have hfz101_1 := blk_frozen BK576.out 1
         have hfz101_2 := blk_frozen BK576.out 2
         have hfz101_3 := blk_frozen BK576.out 3
         obtain ⟨Ao102, co102, eo102⟩ := Kd.R_slice HO_577003.out
         subst eo102
         go_wp2_with (first | ((with_reducible refine gate_callee (f := 18) rfl ?_); refine goesL_ (some 82) rfl rfl Tryd.func18 (by kernel_rfl) rfl #[.agg #[.int .i64 2, .int .u32 0, .slice none 0 0, .slice Ao102 x577003_2.length co102]] rfl y2_ ?_; (refine (record_Size.calls k2 2 0 _ _ ([] : List (S52)) _ _ x577003_2 t579 _ ?side1 ?side2 ?side3 ?side4 ?side5 A83.out).mono ?_); (case side1 => exact ⟨Tab_below hT.out y4_⟩); (case side2 => exact Kd.C_nil _ _); (case side3 => exact Nat.le_refl _); (case side4 => repeat (first | exact (Kd.R_reads' HO_577003.out).2.2 | (with_reducible refine Kd.C_alloc ?_ _) | (with_reducible refine Kd.C_drewN ?_ _) | (with_reducible refine Kd.C_drew ?_))); (case side5 => exact (Kd.R_reads' HO_577003.out).2.1); rintro e w103 ⟨rfl, hb⟩; refine ⟨_, rfl, ?_⟩; have n0_ := Aside0.mk (Kd.R_below y37_ hb); have n1_ := Aside0.mk (blk_below (g := gb570) (o := .cells #[.int .u32 a0_0, .int .i64 a0_1, .int .u64 a0_2, .int .u64 a0_3] 45 (0, 0)) y10_ hb); have n2_ := Aside0.mk (blk_below (g := gb576) (o := .cells #[.int .i64 2, .int .u32 0, .slice none 0 0, .slice Ao102 x577003_2.length co102] 29 (0, 0)) y26_ hb); have n3_ := Aside0.mk (blk_below (g := gb578) (o := .cells #[.int .u32 a0_0, .int .i64 x579001_2, .int .u64 x579002_2, .int .u64 a0_3] 45 (0, 0)) y31_ hb); have n4_ := Aside0.mk (below_step y4_ hb); clear HO_577003; clear BK570; clear BK576; clear BK578; clear HB; have HO_577003 := n0_; have BK570 := n1_; have BK576 := n2_; have BK578 := n3_; have HB := n4_; clear n0_ n1_ n2_ n3_ n4_; (try clear hb); (try clear hb2); (try clear hk); (try clear hi); have hcz104_0 : w103.cell? ⟨gb576, 0, none⟩ = some (.int .i64 2) := (blk_cell BK576.out 0).trans rfl; have hcz104_1 : w103.cell? ⟨gb576, 1, none⟩ = some (.int .u32 0) := (blk_cell BK576.out 1).trans rfl; have hcz104_2 : w103.cell? ⟨gb576, 2, none⟩ = some (.slice none 0 0) := (blk_cell BK576.out 2).trans rfl; have hcz104_3 : w103.cell? ⟨gb576, 3, none⟩ = some (.slice Ao102 x577003_2.length co102) := (blk_cell BK576.out 3).trans rfl; have hfz104_0 := blk_frozen BK576.out 0; have hfz104_1 := blk_frozen BK576.out 1; have hfz104_2 := blk_frozen BK576.out 2; have hfz104_3 := blk_frozen BK576.out 3))
         go_ret
         exact ⟨y7_, y4_⟩
       ·rw [if_neg c84] at H
        have c84b0 : decide (127 < (x577003_2.length : Int)) = false := decide_eq_false c84
        have c84b1 : decide (127 < x577003_2.length) = false := decide_eq_false (by omega)
        clear c84
        by_cases c105 : t577 > 0
        ·rw [if_pos c105] at H
         have c105b0 : decide (0 < t577) = true := decide_eq_true c105
         clear c105
         by_cases c106 : t579 ≥ (wrap64 (t577 + (wrap64 (8 * (l1.length : Int)))))
         ·rw [if_pos c106] at H
          have c106b0 : decide ((wrap64 (t577 + (wrap64 (8 * (l1.length : Int))))) ≤ t579) = true := decide_eq_true c106
          clear c106
          obtain rfl := Option.some.inj H
          have hnb107 := NB576_570.out
          have hnc107 := NB570_576.out
          have hnb108 := NB576_578.out
          have hnc108 := NB578_576.out
          have hcz109_0 : wr.cell? ⟨gb576, 0, none⟩ = some (.int .i64 2) := (blk_cell BK576.out 0).trans rfl
          have hcz109_1 : wr.cell? ⟨gb576, 1, none⟩ = some (.int .u32 0) := (blk_cell BK576.out 1).trans rfl
          have hcz109_2 : wr.cell? ⟨gb576, 2, none⟩ = some (.slice none 0 0) := (blk_cell BK576.out 2).trans rfl
          have hcz109_3 : wr.cell? ⟨gb576, 3, none⟩ = some (u577003) := (blk_cell BK576.out 3).trans rfl
          have hfz109_0 := blk_frozen BK576.out 0
          have hfz109_1 := blk_frozen BK576.out 1
          have hfz109_2 := blk_frozen BK576.out 2
          have hfz109_3 := blk_frozen BK576.out 3
          obtain ⟨Ao110, co110, eo110⟩ := Kd.R_slice HO_577003.out
          subst eo110
          go_wp2_with (first | ((with_reducible refine gate_callee (f := 18) rfl ?_); refine goesL_ (some 82) rfl rfl Tryd.func18 (by kernel_rfl) rfl #[.agg #[.int .i64 2, .int .u32 0, .slice none 0 0, .slice Ao110 x577003_2.length co110]] rfl y2_ ?_; (refine (record_Size.calls k2 2 0 _ _ ([] : List (S52)) _ _ x577003_2 t579 _ ?side1 ?side2 ?side3 ?side4 ?side5 A83.out).mono ?_); (case side1 => exact ⟨Tab_below hT.out y4_⟩); (case side2 => exact Kd.C_nil _ _); (case side3 => exact Nat.le_refl _); (case side4 => repeat (first | exact (Kd.R_reads' HO_577003.out).2.2 | (with_reducible refine Kd.C_alloc ?_ _) | (with_reducible refine Kd.C_drewN ?_ _) | (with_reducible refine Kd.C_drew ?_))); (case side5 => exact (Kd.R_reads' HO_577003.out).2.1); rintro e w111 ⟨rfl, hb⟩; refine ⟨_, rfl, ?_⟩; have n0_ := Aside0.mk (Kd.R_below y37_ hb); have n1_ := Aside0.mk (blk_below (g := gb570) (o := .cells #[.int .u32 a0_0, .int .i64 a0_1, .int .u64 a0_2, .int .u64 a0_3] 45 (0, 0)) y10_ hb); have n2_ := Aside0.mk (blk_below (g := gb576) (o := .cells #[.int .i64 2, .int .u32 0, .slice none 0 0, .slice Ao110 x577003_2.length co110] 29 (0, 0)) y26_ hb); have n3_ := Aside0.mk (blk_below (g := gb578) (o := .cells #[.int .u32 a0_0, .int .i64 x579001_2, .int .u64 x579002_2, .int .u64 a0_3] 45 (0, 0)) y31_ hb); have n4_ := Aside0.mk (below_step y4_ hb); clear HO_577003; clear BK570; clear BK576; clear BK578; clear HB; have HO_577003 := n0_; have BK570 := n1_; have BK576 := n2_; have BK578 := n3_; have HB := n4_; clear n0_ n1_ n2_ n3_ n4_; (try clear hb); (try clear hb2); (try clear hk); (try clear hi); have hcz112_0 : w111.cell? ⟨gb576, 0, none⟩ = some (.int .i64 2) := (blk_cell BK576.out 0).trans rfl; have hcz112_1 : w111.cell? ⟨gb576, 1, none⟩ = some (.int .u32 0) := (blk_cell BK576.out 1).trans rfl; have hcz112_2 : w111.cell? ⟨gb576, 2, none⟩ = some (.slice none 0 0) := (blk_cell BK576.out 2).trans rfl; have hcz112_3 : w111.cell? ⟨gb576, 3, none⟩ = some (.slice Ao110 x577003_2.length co110) := (blk_cell BK576.out 3).trans rfl; have hfz112_0 := blk_frozen BK576.out 0; have hfz112_1 := blk_frozen BK576.out 1; have hfz112_2 := blk_frozen BK576.out 2; have hfz112_3 := blk_frozen BK576.out 3))
          go_ret
          exact ⟨y7_, y4_⟩
         ·rw [if_neg c106] at H
          have c106b0 : decide ((wrap64 (t577 + (wrap64 (8 * (l1.length : Int))))) ≤ t579) = false := decide_eq_false c106
          clear c106
          obtain rfl := Option.some.inj H
          have hnb113 := NB576_570.out
          have hnc113 := NB570_576.out
          have hnb114 := NB576_578.out
          have hnc114 := NB578_576.out
          have hcz115_0 : wr.cell? ⟨gb576, 0, none⟩ = some (.int .i64 2) := (blk_cell BK576.out 0).trans rfl
          have hcz115_1 : wr.cell? ⟨gb576, 1, none⟩ = some (.int .u32 0) := (blk_cell BK576.out 1).trans rfl
          have hcz115_2 : wr.cell? ⟨gb576, 2, none⟩ = some (.slice none 0 0) := (blk_cell BK576.out 2).trans rfl
          have hcz115_3 : wr.cell? ⟨gb576, 3, none⟩ = some (u577003) := (blk_cell BK576.out 3).trans rfl
          have hfz115_0 := blk_frozen BK576.out 0
          have hfz115_1 := blk_frozen BK576.out 1
          have hfz115_2 := blk_frozen BK576.out 2
          have hfz115_3 := blk_frozen BK576.out 3
          obtain ⟨Ao116, co116, eo116⟩ := Kd.R_slice HO_577003.out
          subst eo116
          go_wp2_with (first | ((with_reducible refine gate_callee (f := 18) rfl ?_); refine goesL_ (some 82) rfl rfl Tryd.func18 (by kernel_rfl) rfl #[.agg #[.int .i64 2, .int .u32 0, .slice none 0 0, .slice Ao116 x577003_2.length co116]] rfl y2_ ?_; (refine (record_Size.calls k2 2 0 _ _ ([] : List (S52)) _ _ x577003_2 t579 _ ?side1 ?side2 ?side3 ?side4 ?side5 A83.out).mono ?_); (case side1 => exact ⟨Tab_below hT.out y4_⟩); (case side2 => exact Kd.C_nil _ _); (case side3 => exact Nat.le_refl _); (case side4 => repeat (first | exact (Kd.R_reads' HO_577003.out).2.2 | (with_reducible refine Kd.C_alloc ?_ _) | (with_reducible refine Kd.C_drewN ?_ _) | (with_reducible refine Kd.C_drew ?_))); (case side5 => exact (Kd.R_reads' HO_577003.out).2.1); rintro e w117 ⟨rfl, hb⟩; refine ⟨_, rfl, ?_⟩; have n0_ := Aside0.mk (Kd.R_below y37_ hb); have n1_ := Aside0.mk (blk_below (g := gb570) (o := .cells #[.int .u32 a0_0, .int .i64 a0_1, .int .u64 a0_2, .int .u64 a0_3] 45 (0, 0)) y10_ hb); have n2_ := Aside0.mk (blk_below (g := gb576) (o := .cells #[.int .i64 2, .int .u32 0, .slice none 0 0, .slice Ao116 x577003_2.length co116] 29 (0, 0)) y26_ hb); have n3_ := Aside0.mk (blk_below (g := gb578) (o := .cells #[.int .u32 a0_0, .int .i64 x579001_2, .int .u64 x579002_2, .int .u64 a0_3] 45 (0, 0)) y31_ hb); have n4_ := Aside0.mk (below_step y4_ hb); clear HO_577003; clear BK570; clear BK576; clear BK578; clear HB; have HO_577003 := n0_; have BK570 := n1_; have BK576 := n2_; have BK578 := n3_; have HB := n4_; clear n0_ n1_ n2_ n3_ n4_; (try clear hb); (try clear hb2); (try clear hk); (try clear hi); have hcz118_0 : w117.cell? ⟨gb576, 0, none⟩ = some (.int .i64 2) := (blk_cell BK576.out 0).trans rfl; have hcz118_1 : w117.cell? ⟨gb576, 1, none⟩ = some (.int .u32 0) := (blk_cell BK576.out 1).trans rfl; have hcz118_2 : w117.cell? ⟨gb576, 2, none⟩ = some (.slice none 0 0) := (blk_cell BK576.out 2).trans rfl; have hcz118_3 : w117.cell? ⟨gb576, 3, none⟩ = some (.slice Ao116 x577003_2.length co116) := (blk_cell BK576.out 3).trans rfl; have hfz118_0 := blk_frozen BK576.out 0; have hfz118_1 := blk_frozen BK576.out 1; have hfz118_2 := blk_frozen BK576.out 2; have hfz118_3 := blk_frozen BK576.out 3))
          go_ret
          exact ⟨y7_, y4_⟩
        ·rw [if_neg c105] at H
         have c105b0 : decide (0 < t577) = false := decide_eq_false c105
         clear c105
         obtain rfl := Option.some.inj H
         have hnb119 := NB576_570.out
         have hnc119 := NB570_576.out
         have hnb120 := NB576_578.out
         have hnc120 := NB578_576.out
         have hcz121_0 : wr.cell? ⟨gb576, 0, none⟩ = some (.int .i64 2) := (blk_cell BK576.out 0).trans rfl
         have hcz121_1 : wr.cell? ⟨gb576, 1, none⟩ = some (.int .u32 0) := (blk_cell BK576.out 1).trans rfl
         have hcz121_2 : wr.cell? ⟨gb576, 2, none⟩ = some (.slice none 0 0) := (blk_cell BK576.out 2).trans rfl
         have hcz121_3 : wr.cell? ⟨gb576, 3, none⟩ = some (u577003) := (blk_cell BK576.out 3).trans rfl
         have hfz121_0 := blk_frozen BK576.out 0
         have hfz121_1 := blk_frozen BK576.out 1
         have hfz121_2 := blk_frozen BK576.out 2
         have hfz121_3 := blk_frozen BK576.out 3
         obtain ⟨Ao122, co122, eo122⟩ := Kd.R_slice HO_577003.out
         subst eo122
         go_wp2_with (first | ((with_reducible refine gate_callee (f := 18) rfl ?_); refine goesL_ (some 82) rfl rfl Tryd.func18 (by kernel_rfl) rfl #[.agg #[.int .i64 2, .int .u32 0, .slice none 0 0, .slice Ao122 x577003_2.length co122]] rfl y2_ ?_; (refine (record_Size.calls k2 2 0 _ _ ([] : List (S52)) _ _ x577003_2 t579 _ ?side1 ?side2 ?side3 ?side4 ?side5 A83.out).mono ?_); (case side1 => exact ⟨Tab_below hT.out y4_⟩); (case side2 => exact Kd.C_nil _ _); (case side3 => exact Nat.le_refl _); (case side4 => repeat (first | exact (Kd.R_reads' HO_577003.out).2.2 | (with_reducible refine Kd.C_alloc ?_ _) | (with_reducible refine Kd.C_drewN ?_ _) | (with_reducible refine Kd.C_drew ?_))); (case side5 => exact (Kd.R_reads' HO_577003.out).2.1); rintro e w123 ⟨rfl, hb⟩; refine ⟨_, rfl, ?_⟩; have n0_ := Aside0.mk (Kd.R_below y37_ hb); have n1_ := Aside0.mk (blk_below (g := gb570) (o := .cells #[.int .u32 a0_0, .int .i64 a0_1, .int .u64 a0_2, .int .u64 a0_3] 45 (0, 0)) y10_ hb); have n2_ := Aside0.mk (blk_below (g := gb576) (o := .cells #[.int .i64 2, .int .u32 0, .slice none 0 0, .slice Ao122 x577003_2.length co122] 29 (0, 0)) y26_ hb); have n3_ := Aside0.mk (blk_below (g := gb578) (o := .cells #[.int .u32 a0_0, .int .i64 x579001_2, .int .u64 x579002_2, .int .u64 a0_3] 45 (0, 0)) y31_ hb); have n4_ := Aside0.mk (below_step y4_ hb); clear HO_577003; clear BK570; clear BK576; clear BK578; clear HB; have HO_577003 := n0_; have BK570 := n1_; have BK576 := n2_; have BK578 := n3_; have HB := n4_; clear n0_ n1_ n2_ n3_ n4_; (try clear hb); (try clear hb2); (try clear hk); (try clear hi); have hcz124_0 : w123.cell? ⟨gb576, 0, none⟩ = some (.int .i64 2) := (blk_cell BK576.out 0).trans rfl; have hcz124_1 : w123.cell? ⟨gb576, 1, none⟩ = some (.int .u32 0) := (blk_cell BK576.out 1).trans rfl; have hcz124_2 : w123.cell? ⟨gb576, 2, none⟩ = some (.slice none 0 0) := (blk_cell BK576.out 2).trans rfl; have hcz124_3 : w123.cell? ⟨gb576, 3, none⟩ = some (.slice Ao122 x577003_2.length co122) := (blk_cell BK576.out 3).trans rfl; have hfz124_0 := blk_frozen BK576.out 0; have hfz124_1 := blk_frozen BK576.out 1; have hfz124_2 := blk_frozen BK576.out 2; have hfz124_3 := blk_frozen BK576.out 3))
         go_ret
         exact ⟨y7_, y4_⟩
end Go.Proofs.YtdckhaejhfkkbaaDoor.PRT
