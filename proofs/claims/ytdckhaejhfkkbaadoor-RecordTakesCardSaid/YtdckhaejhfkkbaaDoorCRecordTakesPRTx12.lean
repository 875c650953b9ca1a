import Derived.Test.YtdckhaejhfkkbaaDoorCRecordTakesPRTx0
import Derived.Test.YtdckhaejhfkkbaaDoorCRecordTakesPRTx5
import Derived.Test.YtdckhaejhfkkbaaDoorCRecordTakesPRTx9
import Derived.Test.YtdckhaejhfkkbaaDoorCRecordTakesPRTx11
import Derived.Test.YtdckhaejhfkkbaaDoorCRecordTakesQ2
import Derived.Test.YtdckhaejhfkkbaaDoorCRecordTakesPRTx21
import Derived.Test.YtdckhaejhfkkbaaDoorCRecordTakesY
namespace Go.Proofs.YtdckhaejhfkkbaaDoor.PRT
open Go.RowKit Go.Proofs.YtdckhaejhfkkbaaDoorW.PrintWords Go.Proofs.YtdckhaejhfkkbaaDoorW.PrintLast Go.Proofs.YtdckhaejhfkkbaaDoorW.PrintMore
attribute [local go_sem] max2_int min2_int max_two min_two max_three min_three max_four min_four
set_option linter.unusedVariables false
set_option linter.unusedSimpArgs false
def manometerref13_series.j0 : Nat → List Int → Int → Int → Bool → Option (Int × Int × (List (S52)) × (List (S45)) × Int)
 | 0, _, _, _, _ => none
 | k + 1, x0, x4, x5, x24 => if x24 = true then (some (0, 0, ([] : List (S52)), ([] : List (S45)), 1)) else (if 0 ≤ x5 then (if x5 ≤ (x0.length : Int) then ((manometerref05_Take.f k (x0.drop (x5 : Int).toNat)).bind fun bt293 => (if bt293.2.2 = 0 then (if (wrap64 (x5 + bt293.2.1)) = (x0.length : Int) then (some (1, (x4) % 4294967296, bt293.1, ([] : List (S45)), 0)) else (some (0, 0, ([] : List (S52)), ([] : List (S45)), 8))) else (some (0, 0, ([] : List (S52)), ([] : List (S45)), bt293.2.2)))) else (none)) else (none))
def manometerref13_series.f (k : Nat) (l0 : List Int) : Option (Int × Int × (List (S52)) × (List (S45)) × Int) := (manometerref01_Uvarint.f k l0).bind fun bt289 => (if bt289.2.2 = 0 then (if bt289.1 < 1 then (manometerref13_series.j0 k l0 bt289.1 bt289.2.1 true) else (manometerref13_series.j0 k l0 bt289.1 bt289.2.1 (decide (bt289.1 > 4294967295)))) else (some (0, 0, ([] : List (S52)), ([] : List (S45)), bt289.2.2)))
set_option maxHeartbeats 8000000 in
set_option maxRecDepth 100000 in
theorem manometerref13_series.calls (k : Nat) (A0 : Option Addr) (c0 : Nat) (l0 : List Int) (r1 : Int) (r2 : Int) (r3 : List (S52)) (r4 : List (S45)) (r5 : Int) (w : World) (hr0 : Kd.C (Kd.int .u8) w A0 l0.length l0) (hc0 : l0.length ≤ c0) (h : manometerref13_series.f k l0 = some (r1, r2, r3, r4, r5)) :
  Calls Tryd.prog 23 #[.slice A0 l0.length c0] w fun e w' => ∃ v2_ v3_ : Value, e = .returned (.tuple #[.agg #[.int .i64 r1, .int .u32 r2, v2_, v3_], .int .i64 r5]) ∧ Kd.R k52 52 w' w.heap.size (fun _ => True) v2_ r3 ∧ Kd.R k45 45 w' w.heap.size (fun _ => True) v3_ r4 ∧ Below w.heap.size w w' := by
 have hu29 := Tryd.underlying29
 have HR0 := Aside0.mk hr0
 have HC0 := Aside0.mk hc0
 clear hr0 hc0
 have HB := Aside0.mk (Below.refl w.heap.size w)
 have H : ((manometerref01_Uvarint.f k l0).bind fun bt289 => (if bt289.2.2 = 0 then (if bt289.1 < 1 then (manometerref13_series.j0 k l0 bt289.1 bt289.2.1 true) else (manometerref13_series.j0 k l0 bt289.1 bt289.2.1 (decide (bt289.1 > 4294967295)))) else (some (0, 0, ([] : List (S52)), ([] : List (S45)), bt289.2.2)))) = some (r1, r2, r3, r4, r5) := h
 clear h
 replace H := Option.bind_eq_some_iff.mp H
 obtain ⟨⟨t289, t290, t291⟩, A20, H⟩ := H
 replace H : (if t291 = 0 then (if t289 < 1 then (manometerref13_series.j0 k l0 t289 t290 true) else (manometerref13_series.j0 k l0 t289 t290 (decide (t289 > 4294967295)))) else (some (0, 0, ([] : List (S52)), ([] : List (S45)), t291))) = some (r1, r2, r3, r4, r5) := H
 have A2 := Aside0.mk A20
 clear A20
 by_cases c3 : t291 = 0
 ·rw [if_pos c3] at H
  have c3b0 : (t291 == 0) = true := beq_iff_eq.mpr c3
  have c3b1 : (t291 != 0) = false := bne_eq_false_iff_eq.mpr c3
  clear c3
  have HC4 := Aside0.mk H
  clear H
  go_enter Tryd.func23, Tryd.ntmps23
  go_upto_region 4 with (first | ((with_reducible refine gate_dst (N := 2) rfl ?_); refine box_event ?hg (N := 2) ?hd (cs := #[.int .i64 0, .int .u32 0, .slice none 0 0, .slice none 0 0]) (t := 29) ?hr ?_; (case hd => rfl); (case hg => rfl); (case hr => first | (go_simp; done) | (go_simp; rfl)); intro gb288 hg w5 hbox hb; have n0_ := Aside0.mk (below_step y1_ hb); have n1_ := Aside0.mk (hbox); have n2_ := Aside0.mk ((y12_ : w.heap.size ≤ gb288)); have n3_ := Aside0.mk ((y12_ : w.heap.size ≤ gb288)); clear HB; have HB := n0_; have BK288 := n1_; have GW288 := n2_; have GE288 := n3_; clear n0_ n1_ n2_ n3_; clear hb hbox hg) | ((with_reducible refine gate_callee (f := 24) rfl ?_); refine goesL_ (some 11) rfl rfl Tryd.func24 (by kernel_rfl) rfl #[.slice A0 l0.length c0] rfl y3_ ?_; (with_reducible refine (manometerref01_Uvarint.calls k _ _ l0 t289 t290 t291 _ ?side1 ?side2 A2.out).mono ?_); (case side1 => repeat (first | exact (Kd.C_below HR0.out HB.out) | (with_reducible refine Kd.C_alloc ?_ _) | (with_reducible refine Kd.C_drewN ?_ _) | (with_reducible refine Kd.C_drew ?_))); (case side2 => exact HC0.out); rintro e w' ⟨rfl, ⟨nd, rfl⟩⟩; refine ⟨_, rfl, ?_⟩))
  (try simp only [Act.put, List.setIfInBounds_toArray, List.set_cons_zero, List.set_cons_succ])
  go_cut [24] (fun v24 wc => ∃ (kq : Nat) (x24_3 : Bool), v24 = .bool x24_3 ∧ Aside0 (manometerref13_series.j0 kq l0 t289 t290 x24_3 = some (r1, r2, r3, r4, r5)) ∧ Aside0 (kq ≤ k) ∧ Aside0 (wc.heap[gb288]? = some (.cells #[.int .i64 0, .int .u32 0, (.slice none 0 0), (.slice none 0 0)] 29 (0, 0))) ∧ Aside0 (Below w.heap.size w wc))
  case first =>
   have H := HC4.out
   clear HC4
   by_cases c6 : t289 < 1
   ·rw [if_pos c6] at H
    have c6b0 : decide (t289 < 1) = true := decide_eq_true c6
    clear c6
    (first | rw [c6b0] | (simp only [i64_w, i32_w]; rw [c6b0]) | skip)
    have H' := Aside0.mk H
    clear H
    go_wp2
    go_meet
    case rel => exact ⟨_, (true), y7_, H', ⟨y65_⟩, ⟨y61_⟩, ⟨y24_⟩⟩
   ·rw [if_neg c6] at H
    have c6b0 : decide (t289 < 1) = false := decide_eq_false c6
    clear c6
    (first | rw [c6b0] | (simp only [i64_w, i32_w]; rw [c6b0]) | skip)
    have H' := Aside0.mk H
    clear H
    go_wp2
    go_meet
    case rel => exact ⟨_, (decide (t289 > 4294967295)), y7_, H', ⟨y65_⟩, ⟨y61_⟩, ⟨y24_⟩⟩
  case rest =>
   clear HC4
   try clear c2
   try clear p2
   try clear c3
   try clear c3b0
   try clear c3b1
   try clear c6
   try clear c6b0
   obtain ⟨kq, x24_3, rfl, HA, HJ3, BK288, HB⟩ := hcut
   cases kq with
   | zero => exact absurd HA.out (by simp [manometerref13_series.j0])
   | succ kj3 =>
    have H := HA.out
    clear HA
    simp only [manometerref13_series.j0] at H
    by_cases c7 : x24_3 = true
    ·subst c7
     have H1 : (some (0, 0, ([] : List (S52)), ([] : List (S45)), 1)) = some (r1, r2, r3, r4, r5) := by rw [if_pos rfl] at H; exact H
     clear H
     have H := H1
     clear H1
     simp only [Option.some.injEq, Prod.mk.injEq] at H
     obtain ⟨rfl, rfl, rfl, rfl, rfl⟩ := H
     have hcz8_0 : wc.cell? ⟨gb288, 0, none⟩ = some (.int .i64 0) := (blk_cell BK288.out 0).trans rfl
     have hcz8_1 : wc.cell? ⟨gb288, 1, none⟩ = some (.int .u32 0) := (blk_cell BK288.out 1).trans rfl
     have hcz8_2 : wc.cell? ⟨gb288, 2, none⟩ = some (.slice none 0 0) := (blk_cell BK288.out 2).trans rfl
     have hcz8_3 : wc.cell? ⟨gb288, 3, none⟩ = some (.slice none 0 0) := (blk_cell BK288.out 3).trans rfl
     have hfz8_0 := blk_frozen BK288.out 0
     have hfz8_1 := blk_frozen BK288.out 1
     have hfz8_2 := blk_frozen BK288.out 2
     have hfz8_3 := blk_frozen BK288.out 3
     go_wp2
     refine bodyPost_ret (results_ct rfl _ _ gb288 29 #[.int .i64 0, .int .u32 0, .slice none 0 0, .slice none 0 0] (0, 0) _ rfl y21_ Tryd.underlying29 rfl (by kernel_rfl)) rfl ?_
     exact ⟨_, _, y4_, y6_, y6_, y24_⟩
    ·replace c7 := Bool.eq_false_iff.mpr c7
     subst c7
     have H1 : (if 0 ≤ t290 then (if t290 ≤ (l0.length : Int) then ((manometerref05_Take.f kj3 (l0.drop (t290 : Int).toNat)).bind fun bt293 => (if bt293.2.2 = 0 then (if (wrap64 (t290 + bt293.2.1)) = (l0.length : Int) then (some (1, (t289) % 4294967296, bt293.1, ([] : List (S45)), 0)) else (some (0, 0, ([] : List (S52)), ([] : List (S45)), 8))) else (some (0, 0, ([] : List (S52)), ([] : List (S45)), bt293.2.2)))) else (none)) else (none)) = some (r1, r2, r3, r4, r5) := by rw [if_neg (show ¬ (false = true) by decide)] at H; exact H
     clear H
     have H := H1
     clear H1
     by_cases c9 : 0 ≤ t290
     ·rw [if_pos c9] at H
      have c9b0 := eq_true c9
      have c9b1 : decide (0 ≤ t290) = true := decide_eq_true c9
      clear c9
      by_cases c10 : t290 ≤ (l0.length : Int)
      ·rw [if_pos c10] at H
       have c10b0 := eq_true c10
       have c10b1 : decide (t290 ≤ (l0.length : Int)) = true := decide_eq_true c10
       clear c10
       replace H := Option.bind_eq_some_iff.mp H
       obtain ⟨⟨t293, t296, t297⟩, A110, H⟩ := H
       replace H : (if t297 = 0 then (if (wrap64 (t290 + t296)) = (l0.length : Int) then (some (1, (t289) % 4294967296, t293, ([] : List (S45)), 0)) else (some (0, 0, ([] : List (S52)), ([] : List (S45)), 8))) else (some (0, 0, ([] : List (S52)), ([] : List (S45)), t297))) = some (r1, r2, r3, r4, r5) := H
       have A11 := Aside0.mk A110
       clear A110
       by_cases c12 : t297 = 0
       ·rw [if_pos c12] at H
        have c12b0 : (t297 == 0) = true := beq_iff_eq.mpr c12
        have c12b1 : (t297 != 0) = false := bne_eq_false_iff_eq.mpr c12
        clear c12
        by_cases c13 : (wrap64 (t290 + t296)) = (l0.length : Int)
        ·rw [if_pos c13] at H
         have c13b0 : ((wrap64 (t290 + t296)) == (l0.length : Int)) = true := beq_iff_eq.mpr c13
         have c13b1 : ((wrap64 (t290 + t296)) != (l0.length : Int)) = false := bne_eq_false_iff_eq.mpr c13
         clear c13
         simp only [Option.some.injEq, Prod.mk.injEq] at H
         obtain ⟨rfl, rfl, rfl, rfl, rfl⟩ := H
         obtain ⟨i014, hi014, _, hsz14, _⟩ := info_parts info5
         obtain ⟨A14, hcut14, hA14, hC14⟩ := print_drop_of (P := Tryd.prog) (Value.int .u8) 0 22 5 .i64 Tryd.underlying22 hi014 hsz14 A0 c0 l0 t290 (of_decide_eq_true y2_) (of_decide_eq_true y2_) HC0.out
         have HR292 := Aside0.mk (Kd.C_of_reads (h1 := fun _ => rfl) (hA14 _ (Kd.reads_of_C HR0.out)))
         have HC292 := Aside0.mk hC14
         clear hA14 hC14 hi014 hsz14
         go_wp2_with (first | ((with_reducible refine gate_callee (f := 42) rfl ?_); refine goesL_ (some 30) rfl rfl Tryd.func42 (by kernel_rfl) rfl #[.slice A14 (l0.drop (t290 : Int).toNat).length (c0 - t290.toNat)] rfl y85_ ?_; (with_reducible refine (manometerref05_Take.calls kj3 (fun k_ => k_ < w.heap.size) _ _ (l0.drop (t290 : Int).toNat) t293 t296 t297 _ ?side1 A11.out).mono ?_); (case side1 => exact Kd.V_mk HC292.out (Kd.F_below (Kd.C_F (Kd.heap_int .u8) HR292.out) y24_)); rintro e w15 ⟨v294, rfl, ho0, hb⟩; refine ⟨_, rfl, ?_⟩; have n0_ := Aside0.mk (Kd.R_lower (Kd.R_mono (ok' := fun k_ => True) ho0 (fun _ hk_ => trivial)) (below_size y24_)); have n1_ := Aside0.mk (blk_below (g := gb288) (o := .cells #[.int .i64 0, .int .u32 0, .slice none 0 0, .slice none 0 0] 29 (0, 0)) y61_ hb); have n2_ := Aside0.mk (below_step y24_ hb); clear BK288; clear HB; have HO295 := n0_; have BK288 := n1_; have HB := n2_; clear n0_ n1_ n2_; (try clear hb); (try clear hb2); (try clear hk); (try clear hi); (try clear ho0); obtain ⟨Ao16, co16, eo16⟩ := Kd.R_slice HO295.out; subst eo16; have hcz17_0 : w15.cell? ⟨gb288, 0, none⟩ = some (.int .i64 0) := (blk_cell BK288.out 0).trans rfl; have hcz17_1 : w15.cell? ⟨gb288, 1, none⟩ = some (.int .u32 0) := (blk_cell BK288.out 1).trans rfl; have hcz17_2 : w15.cell? ⟨gb288, 2, none⟩ = some (.slice none 0 0) := (blk_cell BK288.out 2).trans rfl; have hcz17_3 : w15.cell? ⟨gb288, 3, none⟩ = some (.slice none 0 0) := (blk_cell BK288.out 3).trans rfl; have hfz17_0 := blk_frozen BK288.out 0; have hfz17_1 := blk_frozen BK288.out 1; have hfz17_2 := blk_frozen BK288.out 2; have hfz17_3 := blk_frozen BK288.out 3))
         refine bodyPost_ret (results_ct rfl _ _ gb288 29 #[.int .i64 1, .int .u32 ((t289) % 4294967296), .slice Ao16 t293.length co16, .slice none 0 0] (0, 0) _ rfl (by (with_reducible repeat (first | refine blk_drewN ?_ _ | refine blk_drew ?_ | refine blk_alloc ?_ _)); refine blk_put (cs := #[.int .i64 1, .int .u32 ((t289) % 4294967296), .slice Ao16 t293.length co16, .slice none 0 0]) ?_ 3 _ rfl; (with_reducible repeat (first | refine blk_drewN ?_ _ | refine blk_drew ?_ | refine blk_alloc ?_ _)); refine blk_put (cs := #[.int .i64 1, .int .u32 ((t289) % 4294967296), .slice none 0 0, .slice none 0 0]) ?_ 2 _ rfl; (with_reducible repeat (first | refine blk_drewN ?_ _ | refine blk_drew ?_ | refine blk_alloc ?_ _)); refine blk_put (cs := #[.int .i64 1, .int .u32 0, .slice none 0 0, .slice none 0 0]) ?_ 1 _ rfl; (with_reducible repeat (first | refine blk_drewN ?_ _ | refine blk_drew ?_ | refine blk_alloc ?_ _)); refine blk_put (cs := #[.int .i64 0, .int .u32 0, .slice none 0 0, .slice none 0 0]) ?_ 0 _ rfl; (with_reducible repeat (first | refine blk_drewN ?_ _ | refine blk_drew ?_ | refine blk_alloc ?_ _)); exact BK288.out) Tryd.underlying29 rfl (by kernel_rfl)) rfl ?_
         exact ⟨_, _, y4_, by (with_reducible repeat (first | apply Kd.R_alloc | apply Kd.R_drewN | apply Kd.R_drew)); exact Kd.R_mono (Kd.R_far (p := ⟨gb288, 3, none⟩) (Kd.R_far (p := ⟨gb288, 2, none⟩) (Kd.R_far (p := ⟨gb288, 1, none⟩) (Kd.R_far (p := ⟨gb288, 0, none⟩) (Kd.R_types HO295.out BK288.out (by decide)) (fun _ hk => hk.2) (.int .i64 1)) (fun _ hk => hk.2) (.int .u32 ((t289) % 4294967296))) (fun _ hk => hk.2) (.slice Ao16 t293.length co16)) (fun _ hk => hk.2) (.slice none 0 0)) (fun _ hk => trivial), y6_, y24_⟩
        ·rw [if_neg c13] at H
         have c13b0 : ((wrap64 (t290 + t296)) == (l0.length : Int)) = false := beq_eq_false_iff_ne.mpr c13
         have c13b1 : ((wrap64 (t290 + t296)) != (l0.length : Int)) = true := bne_iff_ne.mpr c13
         simp only [Option.some.injEq, Prod.mk.injEq] at H
         obtain ⟨rfl, rfl, rfl, rfl, rfl⟩ := H
         obtain ⟨i018, hi018, _, hsz18, _⟩ := info_parts info5
         obtain ⟨A18, hcut18, hA18, hC18⟩ := print_drop_of (P := Tryd.prog) (Value.int .u8) 0 22 5 .i64 Tryd.underlying22 hi018 hsz18 A0 c0 l0 t290 (of_decide_eq_true y2_) (of_decide_eq_true y2_) HC0.out
         have HR292 := Aside0.mk (Kd.C_of_reads (h1 := fun _ => rfl) (hA18 _ (Kd.reads_of_C HR0.out)))
         have HC292 := Aside0.mk hC18
         clear hA18 hC18 hi018 hsz18
         go_wp2_with (first | ((with_reducible refine gate_callee (f := 42) rfl ?_); refine goesL_ (some 30) rfl rfl Tryd.func42 (by kernel_rfl) rfl #[.slice A18 (l0.drop (t290 : Int).toNat).length (c0 - t290.toNat)] rfl y85_ ?_; (with_reducible refine (manometerref05_Take.calls kj3 (fun k_ => k_ < w.heap.size) _ _ (l0.drop (t290 : Int).toNat) t293 t296 t297 _ ?side1 A11.out).mono ?_); (case side1 => exact Kd.V_mk HC292.out (Kd.F_below (Kd.C_F (Kd.heap_int .u8) HR292.out) y24_)); rintro e w19 ⟨v294, rfl, ho0, hb⟩; refine ⟨_, rfl, ?_⟩; have n0_ := Aside0.mk (Kd.R_lower (Kd.R_mono (ok' := fun k_ => True) ho0 (fun _ hk_ => trivial)) (below_size y24_)); have n1_ := Aside0.mk (blk_below (g := gb288) (o := .cells #[.int .i64 0, .int .u32 0, .slice none 0 0, .slice none 0 0] 29 (0, 0)) y61_ hb); have n2_ := Aside0.mk (below_step y24_ hb); clear BK288; clear HB; have HO295 := n0_; have BK288 := n1_; have HB := n2_; clear n0_ n1_ n2_; (try clear hb); (try clear hb2); (try clear hk); (try clear hi); (try clear ho0); have hcz20_0 : w19.cell? ⟨gb288, 0, none⟩ = some (.int .i64 0) := (blk_cell BK288.out 0).trans rfl; have hcz20_1 : w19.cell? ⟨gb288, 1, none⟩ = some (.int .u32 0) := (blk_cell BK288.out 1).trans rfl; have hcz20_2 : w19.cell? ⟨gb288, 2, none⟩ = some (.slice none 0 0) := (blk_cell BK288.out 2).trans rfl; have hcz20_3 : w19.cell? ⟨gb288, 3, none⟩ = some (.slice none 0 0) := (blk_cell BK288.out 3).trans rfl; have hfz20_0 := blk_frozen BK288.out 0; have hfz20_1 := blk_frozen BK288.out 1; have hfz20_2 := blk_frozen BK288.out 2; have hfz20_3 := blk_frozen BK288.out 3))
         refine bodyPost_ret (results_ct rfl _ _ gb288 29 #[.int .i64 0, .int .u32 0, .slice none 0 0, .slice none 0 0] (0, 0) _ rfl y21_ Tryd.underlying29 rfl (by kernel_rfl)) rfl ?_
         exact ⟨_, _, y4_, y6_, y6_, y24_⟩
       ·rw [if_neg c12] at H
        have c12b0 : (t297 == 0) = false := beq_eq_false_iff_ne.mpr c12
        have c12b1 : (t297 != 0) = true := bne_iff_ne.mpr c12
        simp only [Option.some.injEq, Prod.mk.injEq] at H
        obtain ⟨rfl, rfl, rfl, rfl, rfl⟩ := H
        obtain ⟨i021, hi021, _, hsz21, _⟩ := info_parts info5
        obtain ⟨A21, hcut21, hA21, hC21⟩ := print_drop_of (P := Tryd.prog) (Value.int .u8) 0 22 5 .i64 Tryd.underlying22 hi021 hsz21 A0 c0 l0 t290 (of_decide_eq_true y2_) (of_decide_eq_true y2_) HC0.out
        have HR292 := Aside0.mk (Kd.C_of_reads (h1 := fun _ => rfl) (hA21 _ (Kd.reads_of_C HR0.out)))
        have HC292 := Aside0.mk hC21
        clear hA21 hC21 hi021 hsz21
        go_wp2_with (first | ((with_reducible refine gate_callee (f := 42) rfl ?_); refine goesL_ (some 30) rfl rfl Tryd.func42 (by kernel_rfl) rfl #[.slice A21 (l0.drop (t290 : Int).toNat).length (c0 - t290.toNat)] rfl y85_ ?_; (with_reducible refine (manometerref05_Take.calls kj3 (fun k_ => k_ < w.heap.size) _ _ (l0.drop (t290 : Int).toNat) t293 t296 t297 _ ?side1 A11.out).mono ?_); (case side1 => exact Kd.V_mk HC292.out (Kd.F_below (Kd.C_F (Kd.heap_int .u8) HR292.out) y24_)); rintro e w22 ⟨v294, rfl, ho0, hb⟩; refine ⟨_, rfl, ?_⟩; have n0_ := Aside0.mk (Kd.R_lower (Kd.R_mono (ok' := fun k_ => True) ho0 (fun _ hk_ => trivial)) (below_size y24_)); have n1_ := Aside0.mk (blk_below (g := gb288) (o := .cells #[.int .i64 0, .int .u32 0, .slice none 0 0, .slice none 0 0] 29 (0, 0)) y61_ hb); have n2_ := Aside0.mk (below_step y24_ hb); clear BK288; clear HB; have HO295 := n0_; have BK288 := n1_; have HB := n2_; clear n0_ n1_ n2_; (try clear hb); (try clear hb2); (try clear hk); (try clear hi); (try clear ho0); have hcz23_0 : w22.cell? ⟨gb288, 0, none⟩ = some (.int .i64 0) := (blk_cell BK288.out 0).trans rfl; have hcz23_1 : w22.cell? ⟨gb288, 1, none⟩ = some (.int .u32 0) := (blk_cell BK288.out 1).trans rfl; have hcz23_2 : w22.cell? ⟨gb288, 2, none⟩ = some (.slice none 0 0) := (blk_cell BK288.out 2).trans rfl; have hcz23_3 : w22.cell? ⟨gb288, 3, none⟩ = some (.slice none 0 0) := (blk_cell BK288.out 3).trans rfl; have hfz23_0 := blk_frozen BK288.out 0; have hfz23_1 := blk_frozen BK288.out 1; have hfz23_2 := blk_frozen BK288.out 2; have hfz23_3 := blk_frozen BK288.out 3))
        refine bodyPost_ret (results_ct rfl _ _ gb288 29 #[.int .i64 0, .int .u32 0, .slice none 0 0, .slice none 0 0] (0, 0) _ rfl y21_ Tryd.underlying29 rfl (by kernel_rfl)) rfl ?_
        exact ⟨_, _, y4_, y6_, y6_, y24_⟩
      ·rw [if_neg c10] at H
       exact absurd H (by simp)
     ·rw [if_neg c9] at H
      exact absurd H (by simp)
 ·rw [if_neg c3] at H
  have c3b0 : (t291 == 0) = false := beq_eq_false_iff_ne.mpr c3
  have c3b1 : (t291 != 0) = true := bne_iff_ne.mpr c3
  simp only [Option.some.injEq, Prod.mk.injEq] at H
  obtain ⟨rfl, rfl, rfl, rfl, rfl⟩ := H
  go_enter Tryd.func23, Tryd.ntmps23
  go_wp2_with (first | ((with_reducible refine gate_dst (N := 2) rfl ?_); refine box_event ?hg (N := 2) ?hd (cs := #[.int .i64 0, .int .u32 0, .slice none 0 0, .slice none 0 0]) (t := 29) ?hr ?_; (case hd => rfl); (case hg => rfl); (case hr => first | (go_simp; done) | (go_simp; rfl)); intro gb288 hg w24 hbox hb; have n0_ := Aside0.mk (below_step y1_ hb); have n1_ := Aside0.mk (hbox); have n2_ := Aside0.mk ((y12_ : w.heap.size ≤ gb288)); have n3_ := Aside0.mk ((y12_ : w.heap.size ≤ gb288)); clear HB; have HB := n0_; have BK288 := n1_; have GW288 := n2_; have GE288 := n3_; clear n0_ n1_ n2_ n3_; clear hb hbox hg) | ((with_reducible refine gate_callee (f := 24) rfl ?_); refine goesL_ (some 11) rfl rfl Tryd.func24 (by kernel_rfl) rfl #[.slice A0 l0.length c0] rfl y3_ ?_; (with_reducible refine (manometerref01_Uvarint.calls k _ _ l0 t289 t290 t291 _ ?side1 ?side2 A2.out).mono ?_); (case side1 => repeat (first | exact (Kd.C_below HR0.out HB.out) | (with_reducible refine Kd.C_alloc ?_ _) | (with_reducible refine Kd.C_drewN ?_ _) | (with_reducible refine Kd.C_drew ?_))); (case side2 => exact HC0.out); rintro e w' ⟨rfl, ⟨nd, rfl⟩⟩; refine ⟨_, rfl, ?_⟩; (try (rw [drewN_self w24]; generalize hq_ : World.drewN w24 _ = w24; have n0_ : Aside0 (w24.heap[gb288]? = some (.cells #[.int .i64 0, .int .u32 0, .slice none 0 0, .slice none 0 0] 29 (0, 0))) := ⟨by rw [← hq_]; exact y61_⟩; have n1_ : Aside0 (Below w.heap.size w w24) := ⟨by rw [← hq_]; exact y24_⟩; clear BK288 HB hq_; have BK288 := n0_; have HB := n1_; clear n0_ n1_)); have hcz25_0 : w24.cell? ⟨gb288, 0, none⟩ = some (.int .i64 0) := (blk_cell BK288.out 0).trans rfl; have hcz25_1 : w24.cell? ⟨gb288, 1, none⟩ = some (.int .u32 0) := (blk_cell BK288.out 1).trans rfl; have hcz25_2 : w24.cell? ⟨gb288, 2, none⟩ = some (.slice none 0 0) := (blk_cell BK288.out 2).trans rfl; have hcz25_3 : w24.cell? ⟨gb288, 3, none⟩ = some (.slice none 0 0) := (blk_cell BK288.out 3).trans rfl; have hfz25_0 := blk_frozen BK288.out 0; have hfz25_1 := blk_frozen BK288.out 1; have hfz25_2 := blk_frozen BK288.out 2; have hfz25_3 := blk_frozen BK288.out 3))
  refine bodyPost_ret (results_ct rfl _ _ gb288 29 #[.int .i64 0, .int .u32 0, .slice none 0 0, .slice none 0 0] (0, 0) _ rfl y21_ Tryd.underlying29 rfl (by kernel_rfl)) rfl ?_
  exact ⟨_, _, y4_, y6_, y6_, y24_⟩
def manometerref01_Zag.f (a0 : Int) : Option (Int) := if (Int.tmod a0 2) = 1 then (some (wrap64 ((wrap64 (-(wrap64 (IntKind.u64.wrap (Int.tdiv a0 2))))) - 1))) else (some (wrap64 (IntKind.u64.wrap (Int.tdiv a0 2))))
set_option maxHeartbeats 8000000 in
set_option maxRecDepth 100000 in
theorem manometerref01_Zag.calls (a0 : Int) (r : Int) (w : World) (h : manometerref01_Zag.f a0 = some r) :
  Calls Tryd.prog 57 #[.int .u64 a0] w fun e w' => e = .returned (.int .i64 r) ∧ Drawn0 w w' := by
 have H : (if (Int.tmod a0 2) = 1 then (some (wrap64 ((wrap64 (-(wrap64 (IntKind.u64.wrap (Int.tdiv a0 2))))) - 1))) else (some (wrap64 (IntKind.u64.wrap (Int.tdiv a0 2))))) = some r := h
 clear h
 by_cases c2 : (Int.tmod a0 2) = 1
 ·rw [if_pos c2] at H
  have c2b0 : ((Int.tmod a0 2) == 1) = true := beq_iff_eq.mpr c2
  have c2b1 : ((Int.tmod a0 2) != 1) = false := bne_eq_false_iff_eq.mpr c2
  clear c2
  obtain rfl := Option.some.inj H
  go_enter Tryd.func57, Tryd.ntmps57
  go_wp2
  go_ret
  exact ⟨y17_, y8_⟩
 ·rw [if_neg c2] at H
  have c2b0 : ((Int.tmod a0 2) == 1) = false := beq_eq_false_iff_ne.mpr c2
  have c2b1 : ((Int.tmod a0 2) != 1) = true := bne_iff_ne.mpr c2
  obtain rfl := Option.some.inj H
  go_enter Tryd.func57, Tryd.ntmps57
  go_wp2
  go_ret
  exact ⟨y17_, y8_⟩
def manometerref01_Varint.f (k : Nat) (l0 : List Int) : Option (Int × Int × Int) := (manometerref01_Uvarint.f k l0).bind fun bt298 => (if bt298.2.2 = 0 then ((manometerref01_Zag.f bt298.1).bind fun t301 => (some (t301, bt298.2.1, 0))) else (some (0, 0, bt298.2.2)))
set_option maxHeartbeats 8000000 in
set_option maxRecDepth 100000 in
theorem manometerref01_Varint.calls (k : Nat) (A0 : Option Addr) (c0 : Nat) (l0 : List Int) (r1 : Int) (r2 : Int) (r3 : Int) (w : World) (hr0 : Kd.C (Kd.int .u8) w A0 l0.length l0) (hc0 : l0.length ≤ c0) (h : manometerref01_Varint.f k l0 = some (r1, r2, r3)) :
  Calls Tryd.prog 43 #[.slice A0 l0.length c0] w fun e w' => e = .returned (.tuple #[.int .i64 r1, .int .i64 r2, .int .i64 r3]) ∧ Drawn0 w w' := by
 have HR0 := Aside0.mk hr0
 have HC0 := Aside0.mk hc0
 clear hr0 hc0
 have H : ((manometerref01_Uvarint.f k l0).bind fun bt298 => (if bt298.2.2 = 0 then ((manometerref01_Zag.f bt298.1).bind fun t301 => (some (t301, bt298.2.1, 0))) else (some (0, 0, bt298.2.2)))) = some (r1, r2, r3) := h
 clear h
 replace H := Option.bind_eq_some_iff.mp H
 obtain ⟨⟨t298, t299, t300⟩, A20, H⟩ := H
 replace H : (if t300 = 0 then ((manometerref01_Zag.f t298).bind fun t301 => (some (t301, t299, 0))) else (some (0, 0, t300))) = some (r1, r2, r3) := H
 have A2 := Aside0.mk A20
 clear A20
 by_cases c3 : t300 = 0
 ·rw [if_pos c3] at H
  have c3b0 : (t300 == 0) = true := beq_iff_eq.mpr c3
  have c3b1 : (t300 != 0) = false := bne_eq_false_iff_eq.mpr c3
  clear c3
  replace H := Option.bind_eq_some_iff.mp H
  obtain ⟨t301, A40, H⟩ := H
  replace H : (some (t301, t299, 0)) = some (r1, r2, r3) := H
  have A4 := Aside0.mk A40
  clear A40
  simp only [Option.some.injEq, Prod.mk.injEq] at H
  obtain ⟨rfl, rfl, rfl⟩ := H
  go_enter Tryd.func43, Tryd.ntmps43
  go_wp2_with (first | ((with_reducible refine gate_callee (f := 24) rfl ?_); refine goesL_ (some 10) rfl rfl Tryd.func24 (by kernel_rfl) rfl #[.slice A0 l0.length c0] rfl y3_ ?_; (with_reducible refine (manometerref01_Uvarint.calls k _ _ l0 t298 t299 t300 _ ?side1 ?side2 A2.out).mono ?_); (case side1 => repeat (first | exact HR0.out | (with_reducible refine Kd.C_alloc ?_ _) | (with_reducible refine Kd.C_drewN ?_ _) | (with_reducible refine Kd.C_drew ?_))); (case side2 => exact HC0.out); rintro e w' ⟨rfl, ⟨nd, rfl⟩⟩; refine ⟨_, rfl, ?_⟩) | ((with_reducible refine gate_callee (f := 57) rfl ?_); refine goesL_ (some 18) rfl rfl Tryd.func57 (by kernel_rfl) rfl #[.int .u64 t298] rfl y3_ ?_; (with_reducible refine (manometerref01_Zag.calls t298 t301 _ A4.out).mono ?_); rintro e w' ⟨rfl, ⟨nd, rfl⟩⟩; refine ⟨_, rfl, ?_⟩))
  go_ret3
  exact ⟨y17_, y8_⟩
 ·rw [if_neg c3] at H
  have c3b0 : (t300 == 0) = false := beq_eq_false_iff_ne.mpr c3
  have c3b1 : (t300 != 0) = true := bne_iff_ne.mpr c3
  simp only [Option.some.injEq, Prod.mk.injEq] at H
  obtain ⟨rfl, rfl, rfl⟩ := H
  go_enter Tryd.func43, Tryd.ntmps43
  go_wp2_with (first | ((with_reducible refine gate_callee (f := 24) rfl ?_); refine goesL_ (some 10) rfl rfl Tryd.func24 (by kernel_rfl) rfl #[.slice A0 l0.length c0] rfl y3_ ?_; (with_reducible refine (manometerref01_Uvarint.calls k _ _ l0 t298 t299 t300 _ ?side1 ?side2 A2.out).mono ?_); (case side1 => repeat (first | exact HR0.out | (with_reducible refine Kd.C_alloc ?_ _) | (with_reducible refine Kd.C_drewN ?_ _) | (with_reducible refine Kd.C_drew ?_))); (case side2 => exact HC0.out); rintro e w' ⟨rfl, ⟨nd, rfl⟩⟩; refine ⟨_, rfl, ?_⟩))
  go_ret3
  exact ⟨y17_, y8_⟩
def manometerref01_Number.l0 : Nat → Int → List Bool → Int → Int → Option (Int)
 | 0, _, _, _, _ => none
 | k + 1, x3, x6, x7, x8 => if x8 < x7 then (if 0 ≤ x8 then (if x8 < (x6.length : Int) then (if rdOf false x6 x8 = true then (manometerref01_Number.l0 k (IntKind.u64.wrap ((IntKind.u64.wrap (x3 * 2)) + 1)) x6 x7 (wrap64 (x8 + 1))) else (manometerref01_Number.l0 k (IntKind.u64.wrap (x3 * 2)) x6 x7 (wrap64 (x8 + 1)))) else (none)) else (none)) else (some x3)
def manometerref01_Number.f (k : Nat) (l0 : List Bool) : Option (Int) := manometerref01_Number.l0 k 0 l0 (l0.length : Int) 0
set_option maxHeartbeats 8000000 in
set_option maxRecDepth 100000 in
theorem manometerref01_Number.calls (k : Nat) (A0 : Option Addr) (c0 : Nat) (l0 : List Bool) (r : Int) (w : World) (hr0 : Kd.C Kd.bool w A0 l0.length l0) (hc0 : l0.length ≤ c0) (h : manometerref01_Number.f k l0 = some r) :
  Calls Tryd.prog 58 #[.slice A0 l0.length c0] w fun e w' => e = .returned (.int .u64 r) ∧ Drawn0 w w' := by
 have HR0 := Aside0.mk hr0
 have HC0 := Aside0.mk hc0
 clear hr0 hc0
 have H : (manometerref01_Number.l0 k 0 l0 (l0.length : Int) 0) = some r := h
 clear h
 have H' := Aside0.mk H
 clear H
 go_enter Tryd.func58, Tryd.ntmps58
 go_wp2
 go_loopg [3, 8] k (fun kq v3 v8 w' => ∃ (x3_1 : Int) (x8_1 : Int), v3 = .int .u64 x3_1 ∧ v8 = .int .i64 x8_1 ∧ Aside0 (manometerref01_Number.l0 kq x3_1 l0 (l0.length : Int) x8_1 = some r) ∧ Aside0 (kq ≤ k) ∧ Drawn0 w w')
 case atStart => exact ⟨(0), (0), y7_, y7_, H', ⟨Nat.le_refl _⟩, y8_⟩
 case round =>
  clear H'
  obtain ⟨x3_1, x8_1, rfl, rfl, HA, HK1, ⟨m1, rfl⟩⟩ := hrel
  cases gk with
  | zero => exact absurd HA.out (by simp [manometerref01_Number.l0])
  | succ k1 =>
   have H := HA.out
   clear HA
   simp only [manometerref01_Number.l0] at H
   by_cases c2 : x8_1 < (l0.length : Int)
   ·rw [if_pos c2] at H
    have c2b0 : decide (x8_1 < (l0.length : Int)) = true := decide_eq_true c2
    clear c2
    by_cases c3 : 0 ≤ x8_1
    ·rw [if_pos c3] at H
     have c3b0 : decide (0 ≤ x8_1) = true := decide_eq_true c3
     clear c3
     by_cases c4 : x8_1 < (l0.length : Int)
     ·rw [if_pos c4] at H
      have c4b0 : decide (x8_1 < (l0.length : Int)) = true := decide_eq_true c4
      clear c4
      obtain ⟨bq5, hbq5⟩ : ∃ b_ : Bool, b_ = (rdOf false l0 x8_1) := ⟨_, rfl⟩
      replace H : (if bq5 = true then (manometerref01_Number.l0 k1 (IntKind.u64.wrap ((IntKind.u64.wrap (x3_1 * 2)) + 1)) l0 (l0.length : Int) (wrap64 (x8_1 + 1))) else (manometerref01_Number.l0 k1 (IntKind.u64.wrap (x3_1 * 2)) l0 (l0.length : Int) (wrap64 (x8_1 + 1)))) = some r := by rw [← hbq5] at H; exact H
      have Nbq5 := Aside0.mk hbq5
      clear hbq5
      by_cases c6 : bq5 = true
      ·subst c6
       have H1 : (manometerref01_Number.l0 k1 (IntKind.u64.wrap ((IntKind.u64.wrap (x3_1 * 2)) + 1)) l0 (l0.length : Int) (wrap64 (x8_1 + 1))) = some r := by rw [if_pos rfl] at H; exact H
       clear H
       have H := H1
       clear H1
       have H' := Aside0.mk H
       clear H
       have p302 : 0 ≤ (x8_1 : Int) := of_decide_eq_true y2_
       have q302 : x8_1 < (l0.length : Int) := of_decide_eq_true y2_
       obtain ⟨ad302, e302, hx302_0⟩ := Kd.at_bool HR0.out x8_1 p302 q302
       (try rw [← Nbq5.out] at hx302_0)
       cases e302
       replace p302 := eq_true p302
       replace q302 := eq_true q302
       go_wp2
       go_roundg k1
       case measure => have := HK1.out; omega
       case rel => exact ⟨(IntKind.u64.wrap ((IntKind.u64.wrap (x3_1 * 2)) + 1)), (wrap64 (x8_1 + 1)), y7_, y7_, H', ⟨y109_⟩, y8_⟩
      ·replace c6 := Bool.eq_false_iff.mpr c6
       subst c6
       have H1 : (manometerref01_Number.l0 k1 (IntKind.u64.wrap (x3_1 * 2)) l0 (l0.length : Int) (wrap64 (x8_1 + 1))) = some r := by rw [if_neg (show ¬ (false = true) by decide)] at H; exact H
       clear H
       have H := H1
       clear H1
       have H' := Aside0.mk H
       clear H
       have p302 : 0 ≤ (x8_1 : Int) := of_decide_eq_true y2_
       have q302 : x8_1 < (l0.length : Int) := of_decide_eq_true y2_
       obtain ⟨ad302, e302, hx302_0⟩ := Kd.at_bool HR0.out x8_1 p302 q302
       (try rw [← Nbq5.out] at hx302_0)
       cases e302
       replace p302 := eq_true p302
       replace q302 := eq_true q302
       go_wp2
       go_roundg k1
       case measure => have := HK1.out; omega
       case rel => exact ⟨(IntKind.u64.wrap (x3_1 * 2)), (wrap64 (x8_1 + 1)), y7_, y7_, H', ⟨y109_⟩, y8_⟩
     ·rw [if_neg c4] at H
      exact absurd H (by simp)
    ·rw [if_neg c3] at H
     exact absurd H (by simp)
   ·rw [if_neg c2] at H
    have c2b0 : decide (x8_1 < (l0.length : Int)) = false := decide_eq_false c2
    clear c2
    obtain rfl := Option.some.inj H
    go_wp2
    go_ret
    exact ⟨y17_, y8_⟩
def manometerref01_Bits.l0 : Nat → List Int → List Bool → Int → Int → Option (List Bool)
 | 0, _, _, _, _ => none
 | k + 1, x0, x5, x8, x9 => if x9 < x8 then (if 0 ≤ (wrap64 (Int.tdiv x9 8)) then (if (wrap64 (Int.tdiv x9 8)) < (x0.length : Int) then (if 0 ≤ (IntKind.u64.wrap (wrap64 (7 - (Int.tmod x9 8)))) then (if x5.length < 140737488355328 then (manometerref01_Bits.l0 k x0 (x5 ++ [((Go.bits .and .u8 (shr .u8 (rd x0 (wrap64 (Int.tdiv x9 8))) (IntKind.u64.wrap (wrap64 (7 - (Int.tmod x9 8))))) 1) == 1)]) x8 (wrap64 (x9 + 1))) else (none)) else (none)) else (none)) else (none)) else (some x5)
def manometerref01_Bits.f (k : Nat) (l0 : List Int) (a1 : Int) : Option (List Bool) := manometerref01_Bits.l0 k l0 (([] : List Bool)) a1 0
set_option maxHeartbeats 8000000 in
set_option maxRecDepth 100000 in
theorem manometerref01_Bits.calls (k : Nat) (A0 : Option Addr) (c0 : Nat) (l0 : List Int) (a1 : Int) (r : List Bool) (w : World) (hr0 : Kd.C (Kd.int .u8) w A0 l0.length l0) (hc0 : l0.length ≤ c0) (h : manometerref01_Bits.f k l0 a1 = some r) :
  Calls Tryd.prog 59 #[.slice A0 l0.length c0, .int .i64 a1] w fun e w' => ∃ v0_ : Value, e = .returned (v0_) ∧ Kd.R Kd.bool 4 w' w.heap.size (fun _ => True) v0_ r ∧ Below w.heap.size w w' := by
 have HR0 := Aside0.mk hr0
 have HC0 := Aside0.mk hc0
 clear hr0 hc0
 have HB := Aside0.mk (Below.refl w.heap.size w)
 have H : (manometerref01_Bits.l0 k l0 (([] : List Bool)) a1 0) = some r := h
 clear h
 obtain ⟨y303, hy303⟩ : ∃ y_ : List Bool, y_ = (([] : List Bool)) := ⟨_, rfl⟩
 replace H : (manometerref01_Bits.l0 k l0 y303 a1 0) = some r := by first | (rw [hy303]; with_reducible exact H) | (have H2_ := (Option.bind_some _ _).symm.trans H; rw [hy303]; with_reducible exact H2_) | (have H2_ := (Option.bind_some _ _).symm.trans H; with_reducible exact H2_) | with_reducible exact H | (rw [hy303]; exact H) | exact H
 have Ny303 := Aside0.mk hy303
 clear hy303
 have H' := Aside0.mk H
 clear H
 go_enter Tryd.func59, Tryd.ntmps59
 go_wp2_with (first | ((with_reducible refine gate_dst (N := 7) rfl ?_); refine Kd.R_lit Kd.bool _ 4 ?hg (N := 7) ?hd (xs := ([] : List Bool)) (inner := []) (ok := fun _ => True) (okp := fun _ => True) ?hr ?hp (fun _ hk => hk) trivial (Below.refl _ _) (Nat.le_refl _) (by simp) ?_; (case hd => rfl); (case hg => rfl); (case hr => first | (go_simp; done) | (go_simp; rfl)); (case hp => exact (Reps.none _ _)); intro v304 w3 ho4 hb hg_ hnew_; clear hg_ hnew_; (first | rw [← Ny303.out] at ho4 | (simp only [Int.reduceToNat] at ho4; rw [← Ny303.out] at ho4)); have n0_ := Aside0.mk (Kd.R_lower ho4 (below_size y1_)); have n1_ := Aside0.mk (below_step y1_ hb); clear HB; have HO305 := n0_; have HB := n1_; clear n0_ n1_; clear hb ho4))
 go_loopg [5, 9] k (fun kq v5 v9 w' => ∃ (x5_1 : List Bool) (x9_1 : Int), v9 = .int .i64 x9_1 ∧ Aside0 (manometerref01_Bits.l0 kq l0 x5_1 a1 x9_1 = some r) ∧ Aside0 (kq ≤ k) ∧ Aside0 (Kd.R Kd.bool 4 w' w.heap.size (fun _ => True) v5 x5_1) ∧ Aside0 (Below w.heap.size w w'))
 case atStart => exact ⟨(y303), (0), y7_, H', ⟨Nat.le_refl _⟩, ⟨by (with_reducible repeat (first | apply Kd.R_alloc | apply Kd.R_drewN | apply Kd.R_drew)); exact HO305.out⟩, ⟨y1_⟩⟩
 case round =>
  clear H'
  try clear p2
  obtain ⟨x5_1, x9_1, rfl, HA, HK1, HO_5, HB⟩ := hrel
  cases gk with
  | zero => exact absurd HA.out (by simp [manometerref01_Bits.l0])
  | succ k1 =>
   have H := HA.out
   clear HA
   simp only [manometerref01_Bits.l0] at H
   by_cases c5 : x9_1 < a1
   ·rw [if_pos c5] at H
    have c5b0 : decide (x9_1 < a1) = true := decide_eq_true c5
    clear c5
    obtain ⟨ji6, hji6⟩ : ∃ j_ : Int, (wrap64 (Int.tdiv x9_1 8)) = j_ := ⟨_, rfl⟩
    replace H : (if 0 ≤ (ji6) then (if (ji6) < (l0.length : Int) then (if 0 ≤ (IntKind.u64.wrap (wrap64 (7 - (Int.tmod x9_1 8)))) then (if x5_1.length < 140737488355328 then (manometerref01_Bits.l0 k1 l0 (x5_1 ++ [((Go.bits .and .u8 (shr .u8 (rd l0 (ji6)) (IntKind.u64.wrap (wrap64 (7 - (Int.tmod x9_1 8))))) 1) == 1)]) a1 (wrap64 (x9_1 + 1))) else (none)) else (none)) else (none)) else (none)) = some r := by first | (rw [hji6] at H; exact H) | (simp only [hji6] at H ⊢; exact H)
    have hji6w : (IntKind.i64.wrap (Int.tdiv x9_1 8)) = ji6 := (i64_w _).trans hji6
    by_cases c7 : 0 ≤ (ji6)
    ·rw [if_pos c7] at H
     have c7b0 : decide (0 ≤ (ji6)) = true := decide_eq_true c7
     clear c7
     by_cases c8 : (ji6) < (l0.length : Int)
     ·rw [if_pos c8] at H
      have c8b0 : decide ((ji6) < (l0.length : Int)) = true := decide_eq_true c8
      clear c8
      obtain ⟨ji9, hji9⟩ : ∃ j_ : Int, (IntKind.u64.wrap (wrap64 (7 - (Int.tmod x9_1 8)))) = j_ := ⟨_, rfl⟩
      replace H : (if 0 ≤ (ji9) then (if x5_1.length < 140737488355328 then (manometerref01_Bits.l0 k1 l0 (x5_1 ++ [((Go.bits .and .u8 (shr .u8 (rd l0 (ji6)) (ji9)) 1) == 1)]) a1 (wrap64 (x9_1 + 1))) else (none)) else (none)) = some r := by first | (rw [hji9] at H; exact H) | (simp only [hji9] at H ⊢; exact H)
      by_cases c10 : 0 ≤ (ji9)
      ·rw [if_pos c10] at H
       have c10b0 := eq_true c10
       have c10b1 : decide (0 ≤ (ji9)) = true := decide_eq_true c10
       clear c10
       obtain ⟨ji11, hji11⟩ : ∃ j_ : Int, (shr .u8 (rd l0 (ji6)) (ji9)) = j_ := ⟨_, rfl⟩
       replace H : (if x5_1.length < 140737488355328 then (manometerref01_Bits.l0 k1 l0 (x5_1 ++ [((Go.bits .and .u8 (ji11) 1) == 1)]) a1 (wrap64 (x9_1 + 1))) else (none)) = some r := by first | (rw [hji11] at H; exact H) | (simp only [hji11] at H ⊢; exact H)
       have hji11_ : ((rd l0 (ji6)) / 2 ^ min (ji9).toNat 8) = ji11 := hji11
       have hji11z : (ji9) ≤ 8 → ((rd l0 (ji6)) / 2 ^ (ji9).toNat) = ji11 := shr_small hji11
       by_cases c12 : x5_1.length < 140737488355328
       ·rw [if_pos c12] at H
        have LMc12 := Aside0.mk c12
        clear c12
        obtain ⟨y307, hy307⟩ : ∃ y_ : List Bool, y_ = (x5_1 ++ [((Go.bits .and .u8 (ji11) 1) == 1)]) := ⟨_, rfl⟩
        replace H : (manometerref01_Bits.l0 k1 l0 y307 a1 (wrap64 (x9_1 + 1))) = some r := by first | (rw [hy307]; with_reducible exact H) | (have H2_ := (Option.bind_some _ _).symm.trans H; rw [hy307]; with_reducible exact H2_) | (have H2_ := (Option.bind_some _ _).symm.trans H; with_reducible exact H2_) | with_reducible exact H | (rw [hy307]; exact H) | exact H
        have Ny307 := Aside0.mk hy307
        clear hy307
        have H' := Aside0.mk H
        clear H
        have p306 : 0 ≤ ((ji6) : Int) := of_decide_eq_true y2_
        have q306 : (ji6) < (l0.length : Int) := of_decide_eq_true y2_
        obtain ⟨ad306, e306, hx306_0⟩ := Kd.at_int HR0.out (ji6) p306 q306
        cases e306
        replace hx306_0 := (HB.out.cell (World.block_lt_of_cell? w _ hx306_0)).trans hx306_0
        replace p306 := eq_true p306
        replace q306 := eq_true q306
        go_wp2_with (first | ((with_reducible refine gate_builtin (b := .append) (xs := #[.tmp 12, .tmp 25]) rfl ?_); at_builtin; refine Kd.R_append Kd.bool (w0 := w) w.heap.size rfl (.tmp 12) (.tmp 25) 46 4 (.bool false) 1 rfl Tryd.underlying46 info4 rfl (by decide) (by omega) u5 x5_1 ((Go.bits .and .u8 (ji11) 1) == 1) [.bool ((Go.bits .and .u8 (ji11) 1) == 1)] (fun _ => True) (fun _ => False) rfl rfl ?aP (fun _ hk => hk.elim) ?aF ?aO ?aB ?aS ?aL ?_; (case aP => exact rfl); (case aB => exact y1_); (case aF => exact (fun _ _ => trivial)); (case aO => exact y107_); (case aS => exact (below_size y1_)); (case aL => have := LMc12.out; omega); intro v308 w13 ho hb hg hat; rw [← Ny307.out] at ho; have n0_ := Aside0.mk (hb); have n1_ := Aside0.mk (ho); clear HB; clear HO_5; have HB := n0_; have HO309 := n1_; clear n0_ n1_; clear ho hb hg hat))
        go_roundg k1
        case measure => have := HK1.out; omega
        case rel => exact ⟨(y307), (wrap64 (x9_1 + 1)), y7_, H', ⟨y109_⟩, ⟨by (with_reducible repeat (first | apply Kd.R_alloc | apply Kd.R_drewN | apply Kd.R_drew)); exact HO309.out⟩, ⟨y1_⟩⟩
       ·rw [if_neg c12] at H
        exact absurd H (by simp)
      ·rw [if_neg c10] at H
       exact absurd H (by simp)
     ·rw [if_neg c8] at H
      exact absurd H (by simp)
    ·rw [if_neg c7] at H
     exact absurd H (by simp)
   ·rw [if_neg c5] at H
    have c5b0 : decide (x9_1 < a1) = false := decide_eq_false c5
    clear c5
    obtain rfl := Option.some.inj H
    go_wp2
    go_ret
    exact ⟨_, y4_, y107_, y1_⟩
def manometerref01_Of.f (k : Nat) (l0 : List Int) : Option (Int) := (manometerref01_Bits.f k l0 (wrap64 (8 * (l0.length : Int)))).bind fun t310 => ((manometerref01_Number.f k t310).bind fun t313 => (some t313))
set_option maxHeartbeats 8000000 in
set_option maxRecDepth 100000 in
theorem manometerref01_Of.calls (k : Nat) (A0 : Option Addr) (c0 : Nat) (l0 : List Int) (r : Int) (w : World) (hr0 : Kd.C (Kd.int .u8) w A0 l0.length l0) (hc0 : l0.length ≤ c0) (h : manometerref01_Of.f k l0 = some r) :
  Calls Tryd.prog 44 #[.slice A0 l0.length c0] w fun e w' => e = .returned (.int .u64 r) ∧ Below w.heap.size w w' := by
 have HR0 := Aside0.mk hr0
 have HC0 := Aside0.mk hc0
 clear hr0 hc0
 have HB := Aside0.mk (Below.refl w.heap.size w)
 have H : ((manometerref01_Bits.f k l0 (wrap64 (8 * (l0.length : Int)))).bind fun t310 => ((manometerref01_Number.f k t310).bind fun t313 => (some t313))) = some r := h
 clear h
 replace H := Option.bind_eq_some_iff.mp H
 obtain ⟨t310, A20, H⟩ := H
 replace H : ((manometerref01_Number.f k t310).bind fun t313 => (some t313)) = some r := H
 have A2 := Aside0.mk A20
 clear A20
 replace H := Option.bind_eq_some_iff.mp H
 obtain ⟨t313, A30, H⟩ := H
 replace H : (some t313) = some r := H
 have A3 := Aside0.mk A30
 clear A30
 obtain rfl := Option.some.inj H
 go_enter Tryd.func44, Tryd.ntmps44
 go_wp2_with (first | ((with_reducible refine gate_callee (f := 59) rfl ?_); refine goesL_ (some 7) rfl rfl Tryd.func59 (by kernel_rfl) rfl #[.slice A0 l0.length c0, .int .i64 (wrap64 (8 * (l0.length : Int)))] rfl y3_ ?_; (with_reducible refine (manometerref01_Bits.calls k _ _ l0 (wrap64 (8 * (l0.length : Int))) t310 _ ?side1 ?side2 A2.out).mono ?_); (case side1 => repeat (first | exact HR0.out | (with_reducible refine Kd.C_alloc ?_ _) | (with_reducible refine Kd.C_drewN ?_ _) | (with_reducible refine Kd.C_drew ?_))); (case side2 => exact HC0.out); rintro e w4 ⟨v311, rfl, ho0, hb⟩; refine ⟨_, rfl, ?_⟩; have n0_ := Aside0.mk (Kd.R_lower ho0 (below_size y1_)); have n1_ := Aside0.mk (below_step y1_ hb); clear HB; have HO312 := n0_; have HB := n1_; clear n0_ n1_; (try clear hb); (try clear hb2); (try clear hk); (try clear hi); (try clear ho0); obtain ⟨Ao5, co5, eo5⟩ := Kd.R_slice HO312.out; subst eo5) | ((with_reducible refine gate_callee (f := 58) rfl ?_); refine goesL_ (some 8) rfl rfl Tryd.func58 (by kernel_rfl) rfl #[.slice Ao5 t310.length co5] rfl y3_ ?_; (with_reducible refine (manometerref01_Number.calls k _ _ t310 t313 _ ?side1 ?side2 A3.out).mono ?_); (case side1 => repeat (first | exact (Kd.R_reads' HO312.out).2.2 | (with_reducible refine Kd.C_alloc ?_ _) | (with_reducible refine Kd.C_drewN ?_ _) | (with_reducible refine Kd.C_drew ?_))); (case side2 => exact (Kd.R_reads' HO312.out).2.1); rintro e w' ⟨rfl, ⟨nd, rfl⟩⟩; refine ⟨_, rfl, ?_⟩))
 go_ret
 exact ⟨y4_, y1_⟩
end Go.Proofs.YtdckhaejhfkkbaaDoor.PRT
