import Derived.Test.YtdckhaejhfkkbaaDoorCRecordPutsPRTx0
import Derived.Test.YtdckhaejhfkkbaaDoorCRecordPutsPRTx8
import Derived.Test.YtdckhaejhfkkbaaDoorCRecordPutsPRTx16
import Derived.Test.YtdckhaejhfkkbaaDoorCRecordPutsPRTx17
import Derived.Test.YtdckhaejhfkkbaaDoorCRecordPutsG0
import Derived.Test.YtdckhaejhfkkbaaDoorCRecordPutsPRTx21
namespace Go.Proofs.YtdckhaejhfkkbaaDoor.PRT
open Go.RowKit Go.Proofs.YtdckhaejhfkkbaaDoorW.PrintWords Go.Proofs.YtdckhaejhfkkbaaDoorW.PrintLast Go.Proofs.YtdckhaejhfkkbaaDoorW.PrintMore
attribute [local go_sem] max2_int min2_int max_two min_two max_three min_three max_four min_four
set_option linter.unusedVariables false
set_option linter.unusedSimpArgs false
def manometerref01_Big.f (k : Nat) (a0 : Int) : Option (List Int) := (manometerref01_Put.f k ([] : List Bool) a0 64).bind fun t495 => ((manometerref01_Bytes.f k t495).bind fun t498 => (some t498))
set_option maxHeartbeats 8000000 in
set_option maxRecDepth 100000 in
theorem manometerref01_Big.calls (k : Nat) (a0 : Int) (r : List Int) (w : World) (h : manometerref01_Big.f k a0 = some r) :
  Calls Tryd.prog 34 #[.int .u64 a0] w fun e w' => ∃ v0_ : Value, e = .returned (v0_) ∧ Kd.R (Kd.int .u8) 5 w' w.heap.size (fun _ => True) v0_ r ∧ Below w.heap.size w w' := by
 have HB := Aside0.mk (Below.refl w.heap.size w)
 have H : ((manometerref01_Put.f k ([] : List Bool) a0 64).bind fun t495 => ((manometerref01_Bytes.f k t495).bind fun t498 => (some t498))) = some r := h
 clear h
 replace H := Option.bind_eq_some_iff.mp H
 obtain ⟨t495, A20, H⟩ := H
 replace H : ((manometerref01_Bytes.f k t495).bind fun t498 => (some t498)) = some r := H
 have A2 := Aside0.mk A20
 clear A20
 replace H := Option.bind_eq_some_iff.mp H
 obtain ⟨t498, A30, H⟩ := H
 replace H : (some t498) = some r := H
 have A3 := Aside0.mk A30
 clear A30
 obtain rfl := Option.some.inj H
 go_enter Tryd.func34, Tryd.ntmps34
 go_wp2_with (first | ((with_reducible refine gate_callee (f := 50) rfl ?_); refine goesL_ (some 4) rfl rfl Tryd.func50 (by kernel_rfl) rfl #[.slice none 0 0, .int .u64 a0, .int .i64 64] rfl y2_ ?_; (refine (manometerref01_Put.calls k (fun k_ => some k_ = (.slice none 0 0 : Value).ownBlock) (.slice none 0 0) ([] : List Bool) a0 64 t495 w _ ?side1 ?side2 A2.out).mono ?_); (case side1 => repeat (first | (with_reducible first | exact HB.out | apply below_alloc | apply pw_below_drewN | apply below_drew1) | exact HB.out)); (case side2 => exact Kd.R_nil _ _ _ _ _); rintro e w4 ⟨v496, rfl, ho0, hb, hkp⟩; refine ⟨_, rfl, ?_⟩; have n0_ := Aside0.mk (Kd.R_mono (ok' := fun k_ => True) ho0 (fun k_ hk_ => trivial)); have n1_ := Aside0.mk (hb); clear HB; have HO497 := n0_; have HB := n1_; clear n0_ n1_; (try clear hb); (try clear hkp); (try clear ho0); obtain ⟨Ao5, co5, eo5⟩ := Kd.R_slice HO497.out; subst eo5) | ((with_reducible refine gate_callee (f := 49) rfl ?_); refine goesL_ (some 5) rfl rfl Tryd.func49 (by kernel_rfl) rfl #[.slice Ao5 t495.length co5] rfl y2_ ?_; (with_reducible refine (manometerref01_Bytes.calls k _ _ t495 t498 _ ?side1 ?side2 A3.out).mono ?_); (case side1 => repeat (first | exact (Kd.R_reads' HO497.out).2.2 | (with_reducible refine Kd.C_alloc ?_ _) | (with_reducible refine Kd.C_drewN ?_ _) | (with_reducible refine Kd.C_drew ?_))); (case side2 => exact (Kd.R_reads' HO497.out).2.1); rintro e w6 ⟨v499, rfl, ho0, hb⟩; refine ⟨_, rfl, ?_⟩; have n0_ := Aside0.mk (Kd.R_below (by (with_reducible repeat (first | apply Kd.R_alloc | apply Kd.R_drewN | apply Kd.R_drew)); exact HO497.out) hb); have n1_ := Aside0.mk (Kd.R_lower ho0 (below_size y1_)); have n2_ := Aside0.mk (below_step y1_ hb); clear HO497; clear HB; have HO497 := n0_; have HO500 := n1_; have HB := n2_; clear n0_ n1_ n2_; (try clear hb); (try clear hb2); (try clear hk); (try clear hi); (try clear ho0)))
 go_ret
 exact ⟨_, y6_, by (with_reducible repeat (first | apply Kd.R_alloc | apply Kd.R_drewN | apply Kd.R_drew)); exact HO500.out, y1_⟩
def manometerref13_Put.l0 : Nat → List Int → List (S45) → Int → Int → Int → Int → Int → Int → Option (List Int × Int)
 | 0, _, _, _, _, _, _, _, _ => none
 | k + 1, x5, x49, x50, x51, x529000, x529001, x529002, x529003 => if x51 < x50 then (if 0 ≤ x51 then (if x51 < (x49.length : Int) then ((manometerref01_PutVarint.f k (wrap64 ((wrap64 ((rd_T45 x49 x51).f0)) - (wrap64 (x529000))))).bind fun t531 => ((manometerref01_PutVarint.f k (wrap64 (IntKind.u64.wrap ((IntKind.u64.wrap ((rd_T45 x49 x51).f1.f0)) - (IntKind.u64.wrap (x529001)))))).bind fun t534 => ((manometerref01_PutVarint.f k (wrap64 (IntKind.u64.wrap (((rd_T45 x49 x51).f1.f2) - x529003)))).bind fun t537 => ((manometerref01_Big.f k ((rd_T45 x49 x51).f1.f1)).bind fun t540 => ((manometerref01_Join.f k (([x5, t531, t534, t537, t540] : List (List Int)))).bind fun t546 => (manometerref13_Put.l0 k t546 x49 x50 (wrap64 (x51 + 1)) ((rd_T45 x49 x51).f0) ((rd_T45 x49 x51).f1.f0) ((rd_T45 x49 x51).f1.f1) ((rd_T45 x49 x51).f1.f2))))))) else (none)) else (none)) else (some (x5, 0))
def manometerref13_Put.f (k : Nat) (a0_0 : Int) (a0_1 : Int) (l0_2 : List (S52)) (l0_3 : List (S45)) : Option (List Int × Int) := (manometerref13_Check.f k a0_0 a0_1 l0_2 l0_3).bind fun t502 => (if t502 = 0 then ((some (([(a0_0) % 256] : List Int) : List Int)).bind fun y503 => (if a0_0 = 1 then ((manometerref05_Put.f k l0_2).bind fun bt506 => ((manometerref01_PutUvarint.f k (IntKind.u64.wrap (a0_1))).bind fun t510 => ((manometerref01_Join.f k (([y503, t510, bt506.1] : List (List Int)))).bind fun t516 => (some (t516, 0))))) else ((manometerref01_PutUvarint.f k (IntKind.u64.wrap ((l0_3.length : Int)))).bind fun t519 => ((manometerref01_Join.f k (([y503, t519] : List (List Int)))).bind fun t525 => (manometerref13_Put.l0 k t525 l0_3 (l0_3.length : Int) 0 0 0 0 0))))) else (some (([] : List Int), t502)))
def manometerref13_Put.T16 : Bool × List (List Nat × List Nat) := (true, [([], []), ([], []), ([1], [1]), ([], []), ([3, 2], [3]), ([], []), ([5, 4], [5]), ([], []), ([7], [7]), ([8], [8]), ([9, 6], [9]), ([0, 2, 4, 6, 10], [0, 2, 4, 6, 10]), ([11, 10], [11]), ([12, 12, 0, 1, 2, 3, 4, 5, 6, 7, 8, 9, 10, 11, 12], [0, 12])])
def manometerref13_Put.B16 : List Nat := [0, 0, 2, 0, 14, 0, 62, 0, 128, 384, 1022, 2047, 4095, 8191]
theorem manometerref13_Put.tab16 : rtab .any (opsOf Tryd.f14 16) = manometerref13_Put.T16 := by kernel_rfl
theorem manometerref13_Put.bits16 : waitsOk manometerref13_Put.T16.2 manometerref13_Put.B16 = true := by kernel_rfl
set_option maxHeartbeats 8000000 in
set_option maxRecDepth 100000 in
theorem manometerref13_Put.calls (k : Nat) (a0_0 : Int) (a0_1 : Int) (A0_2 : Option Addr) (c0_2 : Nat) (l0_2 : List (S52)) (A0_3 : Option Addr) (c0_3 : Nat) (l0_3 : List (S45)) (r1 : List Int) (r2 : Int) (w : World) (hr0_2 : Kd.C k52 w A0_2 l0_2.length l0_2) (hc0_2 : l0_2.length ≤ c0_2) (hr0_3 : Kd.C k45 w A0_3 l0_3.length l0_3) (hc0_3 : l0_3.length ≤ c0_3) (h : manometerref13_Put.f k a0_0 a0_1 l0_2 l0_3 = some (r1, r2)) :
  Calls Tryd.prog 14 #[.agg #[.int .i64 a0_0, .int .u32 a0_1, .slice A0_2 l0_2.length c0_2, .slice A0_3 l0_3.length c0_3]] w fun e w' => ∃ v0_ : Value, e = .returned (.tuple #[v0_, .int .i64 r2]) ∧ Kd.R (Kd.int .u8) 5 w' w.heap.size (fun _ => True) v0_ r1 ∧ Below w.heap.size w w' := by
 have hu29 := Tryd.underlying29
 have hu45 := Tryd.underlying45
 have HR0_2 := Aside0.mk hr0_2
 have HC0_2 := Aside0.mk hc0_2
 clear hr0_2 hc0_2
 have HR0_3 := Aside0.mk hr0_3
 have HC0_3 := Aside0.mk hc0_3
 clear hr0_3 hc0_3
 have HB := Aside0.mk (Below.refl w.heap.size w)
 have H : ((manometerref13_Check.f k a0_0 a0_1 l0_2 l0_3).bind fun t502 => (if t502 = 0 then ((some (([(a0_0) % 256] : List Int) : List Int)).bind fun y503 => (if a0_0 = 1 then ((manometerref05_Put.f k l0_2).bind fun bt506 => ((manometerref01_PutUvarint.f k (IntKind.u64.wrap (a0_1))).bind fun t510 => ((manometerref01_Join.f k (([y503, t510, bt506.1] : List (List Int)))).bind fun t516 => (some (t516, 0))))) else ((manometerref01_PutUvarint.f k (IntKind.u64.wrap ((l0_3.length : Int)))).bind fun t519 => ((manometerref01_Join.f k (([y503, t519] : List (List Int)))).bind fun t525 => (manometerref13_Put.l0 k t525 l0_3 (l0_3.length : Int) 0 0 0 0 0))))) else (some (([] : List Int), t502)))) = some (r1, r2) := h
 clear h
 replace H := Option.bind_eq_some_iff.mp H
 obtain ⟨t502, A20, H⟩ := H
 replace H : (if t502 = 0 then ((some (([(a0_0) % 256] : List Int) : List Int)).bind fun y503 => (if a0_0 = 1 then ((manometerref05_Put.f k l0_2).bind fun bt506 => ((manometerref01_PutUvarint.f k (IntKind.u64.wrap (a0_1))).bind fun t510 => ((manometerref01_Join.f k (([y503, t510, bt506.1] : List (List Int)))).bind fun t516 => (some (t516, 0))))) else ((manometerref01_PutUvarint.f k (IntKind.u64.wrap ((l0_3.length : Int)))).bind fun t519 => ((manometerref01_Join.f k (([y503, t519] : List (List Int)))).bind fun t525 => (manometerref13_Put.l0 k t525 l0_3 (l0_3.length : Int) 0 0 0 0 0))))) else (some (([] : List Int), t502))) = some (r1, r2) := H
 have A2 := Aside0.mk A20
 clear A20
 by_cases c3 : t502 = 0
 ·rw [if_pos c3] at H
  have c3b0 : (t502 == 0) = true := beq_iff_eq.mpr c3
  have c3b1 : (t502 != 0) = false := bne_eq_false_iff_eq.mpr c3
  clear c3
  obtain ⟨y503, hy503⟩ : ∃ y_ : List Int, y_ = (([(a0_0) % 256] : List Int)) := ⟨_, rfl⟩
  replace H : (if a0_0 = 1 then ((manometerref05_Put.f k l0_2).bind fun bt506 => ((manometerref01_PutUvarint.f k (IntKind.u64.wrap (a0_1))).bind fun t510 => ((manometerref01_Join.f k (([y503, t510, bt506.1] : List (List Int)))).bind fun t516 => (some (t516, 0))))) else ((manometerref01_PutUvarint.f k (IntKind.u64.wrap ((l0_3.length : Int)))).bind fun t519 => ((manometerref01_Join.f k (([y503, t519] : List (List Int)))).bind fun t525 => (manometerref13_Put.l0 k t525 l0_3 (l0_3.length : Int) 0 0 0 0 0)))) = some (r1, r2) := by first | (rw [hy503]; with_reducible exact H) | (have H2_ := (Option.bind_some _ _).symm.trans H; rw [hy503]; with_reducible exact H2_) | (have H2_ := (Option.bind_some _ _).symm.trans H; with_reducible exact H2_) | with_reducible exact H | (rw [hy503]; exact H) | exact H
  have Ny503 := Aside0.mk hy503
  clear hy503
  by_cases c4 : a0_0 = 1
  ·rw [if_pos c4] at H
   have c4b0 : (a0_0 == 1) = true := beq_iff_eq.mpr c4
   have c4b1 : (a0_0 != 1) = false := bne_eq_false_iff_eq.mpr c4
   clear c4
   replace H := Option.bind_eq_some_iff.mp H
   obtain ⟨⟨t506, t507⟩, A50, H⟩ := H
   replace H : ((manometerref01_PutUvarint.f k (IntKind.u64.wrap (a0_1))).bind fun t510 => ((manometerref01_Join.f k (([y503, t510, t506] : List (List Int)))).bind fun t516 => (some (t516, 0)))) = some (r1, r2) := H
   have A5 := Aside0.mk A50
   clear A50
   replace H := Option.bind_eq_some_iff.mp H
   obtain ⟨t510, A60, H⟩ := H
   replace H : ((manometerref01_Join.f k (([y503, t510, t506] : List (List Int)))).bind fun t516 => (some (t516, 0))) = some (r1, r2) := H
   have A6 := Aside0.mk A60
   clear A60
   obtain ⟨y513, hy513⟩ : ∃ y_ : List (List Int), y_ = (([y503, t510, t506] : List (List Int))) := ⟨_, rfl⟩
   replace H : ((manometerref01_Join.f k y513).bind fun t516 => (some (t516, 0))) = some (r1, r2) := by first | (rw [hy513]; with_reducible exact H) | (have H2_ := (Option.bind_some _ _).symm.trans H; rw [hy513]; with_reducible exact H2_) | (have H2_ := (Option.bind_some _ _).symm.trans H; with_reducible exact H2_) | with_reducible exact H | (rw [hy513]; exact H) | exact H
   have Ny513 := Aside0.mk hy513
   clear hy513
   replace H := Option.bind_eq_some_iff.mp H
   obtain ⟨t516, A70, H⟩ := H
   replace H : (some (t516, 0)) = some (r1, r2) := H
   have A7 := Aside0.mk A70
   clear A70
   simp only [Option.some.injEq, Prod.mk.injEq] at H
   obtain ⟨rfl, rfl⟩ := H
   go_enter Tryd.func14, Tryd.ntmps14
   go_wp2_with (first | ((with_reducible refine gate_dst (N := 1) rfl ?_); refine box_event ?hg (N := 1) ?hd (cs := #[.int .i64 a0_0, .int .u32 a0_1, .slice A0_2 l0_2.length c0_2, .slice A0_3 l0_3.length c0_3]) (t := 29) ?hr ?_; (case hd => rfl); (case hg => rfl); (case hr => first | (go_simp; done) | (go_simp; rfl)); intro gb501 hg w8 hbox hb; have n0_ := Aside0.mk (below_step y1_ hb); have n1_ := Aside0.mk (hbox); have n2_ := Aside0.mk ((y13_ : w.heap.size ≤ gb501)); have n3_ := Aside0.mk ((y13_ : w.heap.size ≤ gb501)); clear HB; have HB := n0_; have BK501 := n1_; have GW501 := n2_; have GE501 := n3_; clear n0_ n1_ n2_ n3_; clear hb hbox hg; have hcz9_0 : w8.cell? ⟨gb501, 0, none⟩ = some (.int .i64 a0_0) := (blk_cell BK501.out 0).trans rfl; have hcz9_1 : w8.cell? ⟨gb501, 1, none⟩ = some (.int .u32 a0_1) := (blk_cell BK501.out 1).trans rfl; have hcz9_2 : w8.cell? ⟨gb501, 2, none⟩ = some (.slice A0_2 l0_2.length c0_2) := (blk_cell BK501.out 2).trans rfl; have hcz9_3 : w8.cell? ⟨gb501, 3, none⟩ = some (.slice A0_3 l0_3.length c0_3) := (blk_cell BK501.out 3).trans rfl; have hfz9_0 := blk_frozen BK501.out 0; have hfz9_1 := blk_frozen BK501.out 1; have hfz9_2 := blk_frozen BK501.out 2; have hfz9_3 := blk_frozen BK501.out 3) | ((with_reducible refine gate_callee (f := 17) rfl ?_); refine goesL_ (some 15) rfl rfl Tryd.func17 (by kernel_rfl) rfl #[.agg #[.int .i64 a0_0, .int .u32 a0_1, .slice A0_2 l0_2.length c0_2, .slice A0_3 l0_3.length c0_3]] rfl y2_ ?_; (with_reducible refine (manometerref13_Check.calls k a0_0 a0_1 _ _ l0_2 _ _ l0_3 t502 _ ?side1 ?side2 ?side3 ?side4 A2.out).mono ?_); (case side1 => repeat (first | exact (Kd.C_below HR0_2.out HB.out) | (with_reducible refine Kd.C_alloc ?_ _) | (with_reducible refine Kd.C_drewN ?_ _) | (with_reducible refine Kd.C_drew ?_))); (case side2 => exact HC0_2.out); (case side3 => repeat (first | exact (Kd.C_below HR0_3.out HB.out) | (with_reducible refine Kd.C_alloc ?_ _) | (with_reducible refine Kd.C_drewN ?_ _) | (with_reducible refine Kd.C_drew ?_))); (case side4 => exact HC0_3.out); rintro e w10 ⟨rfl, hb⟩; refine ⟨_, rfl, ?_⟩; have n0_ := Aside0.mk (blk_below (g := gb501) (o := .cells #[.int .i64 a0_0, .int .u32 a0_1, .slice A0_2 l0_2.length c0_2, .slice A0_3 l0_3.length c0_3] 29 (0, 0)) y14_ hb); have n1_ := Aside0.mk (below_step y10_ hb); clear BK501; clear HB; have BK501 := n0_; have HB := n1_; clear n0_ n1_; (try clear hb); (try clear hb2); (try clear hk); (try clear hi); have hcz11_0 : w10.cell? ⟨gb501, 0, none⟩ = some (.int .i64 a0_0) := (blk_cell BK501.out 0).trans rfl; have hcz11_1 : w10.cell? ⟨gb501, 1, none⟩ = some (.int .u32 a0_1) := (blk_cell BK501.out 1).trans rfl; have hcz11_2 : w10.cell? ⟨gb501, 2, none⟩ = some (.slice A0_2 l0_2.length c0_2) := (blk_cell BK501.out 2).trans rfl; have hcz11_3 : w10.cell? ⟨gb501, 3, none⟩ = some (.slice A0_3 l0_3.length c0_3) := (blk_cell BK501.out 3).trans rfl; have hfz11_0 := blk_frozen BK501.out 0; have hfz11_1 := blk_frozen BK501.out 1; have hfz11_2 := blk_frozen BK501.out 2; have hfz11_3 := blk_frozen BK501.out 3) | ((with_reducible refine gate_dst (N := 22) rfl ?_); refine Kd.R_lit (Kd.int .u8) _ 5 ?hg (N := 22) ?hd (xs := ([(a0_0) % 256] : List Int)) (inner := [.int .u8 ((a0_0) % 256)]) (ok := fun _ => True) (okp := fun _ => True) ?hr ?hp (fun _ hk => hk) trivial (Below.refl _ _) (Nat.le_refl _) (by simp) ?_; (case hd => rfl); (case hg => rfl); (case hr => first | (go_simp; done) | (go_simp; rfl)); (case hp => exact (Reps.one (show Kd.M (Kd.int .u8) _ _ _ ((a0_0) % 256) [.int .u8 ((a0_0) % 256)] from rfl) (Reps.none _ _))); intro v504 w12 ho13 hb hg_ hnew_; clear hg_ hnew_; (first | rw [← Ny503.out] at ho13 | (simp only [Int.reduceToNat] at ho13; rw [← Ny503.out] at ho13)); have n0_ := Aside0.mk (Kd.R_lower ho13 (below_size y10_)); have n1_ := Aside0.mk (blk_below (g := gb501) (o := .cells #[.int .i64 a0_0, .int .u32 a0_1, .slice A0_2 l0_2.length c0_2, .slice A0_3 l0_3.length c0_3] 29 (0, 0)) y14_ hb); have n2_ := Aside0.mk (below_step y10_ hb); clear BK501; clear HB; have HO505 := n0_; have BK501 := n1_; have HB := n2_; clear n0_ n1_ n2_; clear hb ho13; have hcz14_0 : w12.cell? ⟨gb501, 0, none⟩ = some (.int .i64 a0_0) := (blk_cell BK501.out 0).trans rfl; have hcz14_1 : w12.cell? ⟨gb501, 1, none⟩ = some (.int .u32 a0_1) := (blk_cell BK501.out 1).trans rfl; have hcz14_2 : w12.cell? ⟨gb501, 2, none⟩ = some (.slice A0_2 l0_2.length c0_2) := (blk_cell BK501.out 2).trans rfl; have hcz14_3 : w12.cell? ⟨gb501, 3, none⟩ = some (.slice A0_3 l0_3.length c0_3) := (blk_cell BK501.out 3).trans rfl; have hfz14_0 := blk_frozen BK501.out 0; have hfz14_1 := blk_frozen BK501.out 1; have hfz14_2 := blk_frozen BK501.out 2; have hfz14_3 := blk_frozen BK501.out 3) | ((with_reducible refine gate_callee (f := 31) rfl ?_); refine goesL_ (some 29) rfl rfl Tryd.func31 (by kernel_rfl) rfl #[.slice A0_2 l0_2.length c0_2] rfl y2_ ?_; (with_reducible refine (manometerref05_Put.calls k _ _ l0_2 t506 t507 _ ?side1 ?side2 A5.out).mono ?_); (case side1 => repeat (first | exact (Kd.C_below HR0_2.out HB.out) | (with_reducible refine Kd.C_alloc ?_ _) | (with_reducible refine Kd.C_drewN ?_ _) | (with_reducible refine Kd.C_drew ?_))); (case side2 => exact HC0_2.out); rintro e w15 ⟨v508, rfl, ho0, hb⟩; refine ⟨_, rfl, ?_⟩; have n0_ := Aside0.mk (Kd.R_elder' y50_ (Kd.R_base ho0) hb); have n1_ := Aside0.mk (Kd.R_lower (Kd.R_new' ho0 (Kd.R_lt y50_)) (below_size y10_)); have n2_ := Aside0.mk (blk_below (g := gb501) (o := .cells #[.int .i64 a0_0, .int .u32 a0_1, .slice A0_2 l0_2.length c0_2, .slice A0_3 l0_3.length c0_3] 29 (0, 0)) y14_ hb); have n3_ := Aside0.mk (below_step y10_ hb); clear HO505; clear BK501; clear HB; have HO505 := n0_; have HO509 := n1_; have BK501 := n2_; have HB := n3_; clear n0_ n1_ n2_ n3_; (try clear hb); (try clear hb2); (try clear hk); (try clear hi); (try clear ho0); have hcz16_0 : w15.cell? ⟨gb501, 0, none⟩ = some (.int .i64 a0_0) := (blk_cell BK501.out 0).trans rfl; have hcz16_1 : w15.cell? ⟨gb501, 1, none⟩ = some (.int .u32 a0_1) := (blk_cell BK501.out 1).trans rfl; have hcz16_2 : w15.cell? ⟨gb501, 2, none⟩ = some (.slice A0_2 l0_2.length c0_2) := (blk_cell BK501.out 2).trans rfl; have hcz16_3 : w15.cell? ⟨gb501, 3, none⟩ = some (.slice A0_3 l0_3.length c0_3) := (blk_cell BK501.out 3).trans rfl; have hfz16_0 := blk_frozen BK501.out 0; have hfz16_1 := blk_frozen BK501.out 1; have hfz16_2 := blk_frozen BK501.out 2; have hfz16_3 := blk_frozen BK501.out 3) | ((with_reducible refine gate_callee (f := 32) rfl ?_); refine goesL_ (some 36) rfl rfl Tryd.func32 (by kernel_rfl) rfl #[.int .u64 (IntKind.u64.wrap (a0_1))] rfl y2_ ?_; (with_reducible refine (manometerref01_PutUvarint.calls k (IntKind.u64.wrap (a0_1)) t510 _ A6.out).mono ?_); rintro e w17 ⟨v511, rfl, ho0, hb⟩; refine ⟨_, rfl, ?_⟩; have n0_ := Aside0.mk (Kd.R_elder' y50_ (Kd.R_base ho0) hb); have n1_ := Aside0.mk (Kd.R_elder' (by (with_reducible repeat (first | apply Kd.R_alloc | apply Kd.R_drewN | apply Kd.R_drew)); exact HO509.out) (Kd.R_base ho0) hb); have n2_ := Aside0.mk (Kd.R_lower (Kd.R_new' (Kd.R_new' ho0 (Kd.R_lt y50_)) (Kd.R_lt (by (with_reducible repeat (first | apply Kd.R_alloc | apply Kd.R_drewN | apply Kd.R_drew)); exact HO509.out))) (below_size y10_)); have n3_ := Aside0.mk (blk_below (g := gb501) (o := .cells #[.int .i64 a0_0, .int .u32 a0_1, .slice A0_2 l0_2.length c0_2, .slice A0_3 l0_3.length c0_3] 29 (0, 0)) y14_ hb); have n4_ := Aside0.mk (below_step y10_ hb); clear HO505; clear HO509; clear BK501; clear HB; have HO505 := n0_; have HO509 := n1_; have HO512 := n2_; have BK501 := n3_; have HB := n4_; clear n0_ n1_ n2_ n3_ n4_; (try clear hb); (try clear hb2); (try clear hk); (try clear hi); (try clear ho0); obtain ⟨Ao18, co18, eo18⟩ := Kd.R_slice HO505.out; subst eo18; obtain ⟨Ao19, co19, eo19⟩ := Kd.R_slice HO512.out; subst eo19; obtain ⟨Ao20, co20, eo20⟩ := Kd.R_slice HO509.out; subst eo20) | ((with_reducible refine gate_dst (N := 38) rfl ?_); refine Kd.N_lit (Kd.slice 5 (Kd.int .u8)) _ 22 ?hg (N' := 38) ?hd (xs := ([y503, t510, t506] : List (List Int))) (inner := [.slice Ao18 y503.length co18, .slice Ao19 t510.length co19, .slice Ao20 t506.length co20]) (ok := (fun k_ => k_ ≠ gb501)) (okp := (fun k_ => k_ ≠ gb501)) ?hr ?hp (fun _ hk => hk) ((show ∀ k_, w17.heap.size ≤ k_ → (fun k_ => k_ ≠ gb501) k_ from fun k_ hk => Kd.freshB (g := gb501) (o := .cells #[.int .i64 a0_0, .int .u32 a0_1, .slice A0_2 l0_2.length c0_2, .slice A0_3 l0_3.length c0_3] 29 (0, 0)) y14_ k_ hk) _ (Nat.le_refl _)) (Below.refl _ _) (Nat.le_refl _) (by simp) ?_; (case hd => rfl); (case hg => rfl); (case hr => first | (go_simp; done) | (go_simp; rfl)); (case hp => exact (Reps.one (show Kd.FK (Kd.slice 5 (Kd.int .u8)) _ _ y503 [.slice Ao18 y503.length co18] from (Kd.FK_slice_mk (Kd.R_reads' (Kd.R_mono (ok' := (fun k_ => k_ ≠ gb501)) (Kd.R_types (HO505.out) BK501.out (by decide)) (fun k_ hk => hk.2))).2.1 (Kd.R_F (Kd.R_mono (ok' := (fun k_ => k_ ≠ gb501)) (Kd.R_types (HO505.out) BK501.out (by decide)) (fun k_ hk => hk.2))))) (Reps.one (show Kd.FK (Kd.slice 5 (Kd.int .u8)) _ _ t510 [.slice Ao19 t510.length co19] from (Kd.FK_slice_mk (Kd.R_reads' (Kd.R_mono (ok' := (fun k_ => k_ ≠ gb501)) (Kd.R_types (HO512.out) BK501.out (by decide)) (fun k_ hk => hk.2))).2.1 (Kd.R_F (Kd.R_mono (ok' := (fun k_ => k_ ≠ gb501)) (Kd.R_types (HO512.out) BK501.out (by decide)) (fun k_ hk => hk.2))))) (Reps.one (show Kd.FK (Kd.slice 5 (Kd.int .u8)) _ _ t506 [.slice Ao20 t506.length co20] from (Kd.FK_slice_mk (Kd.R_reads' (Kd.R_mono (ok' := (fun k_ => k_ ≠ gb501)) (Kd.R_types (HO509.out) BK501.out (by decide)) (fun k_ hk => hk.2))).2.1 (Kd.R_F (Kd.R_mono (ok' := (fun k_ => k_ ≠ gb501)) (Kd.R_types (HO509.out) BK501.out (by decide)) (fun k_ hk => hk.2))))) (Reps.none _ _))))); intro v514 w21 ho22 hb hg_ hnew_; clear hg_ hnew_; (first | rw [← Ny513.out] at ho22 | (simp only [Int.reduceToNat] at ho22; rw [← Ny513.out] at ho22)); have n0_ := Aside0.mk (Kd.N_lower ho22 (below_size y10_)); have n1_ := Aside0.mk (blk_below (g := gb501) (o := .cells #[.int .i64 a0_0, .int .u32 a0_1, .slice A0_2 l0_2.length c0_2, .slice A0_3 l0_3.length c0_3] 29 (0, 0)) y14_ hb); have n2_ := Aside0.mk (below_step y10_ hb); clear BK501; clear HB; clear HO505; clear HO509; clear HO512; have HO515 := n0_; have BK501 := n1_; have HB := n2_; clear n0_ n1_ n2_; clear hb ho22; obtain ⟨Ao23, co23, eo23⟩ := Kd.N_slice HO515.out; subst eo23) | ((with_reducible refine gate_callee (f := 20) rfl ?_); refine goesL_ (some 39) rfl rfl Tryd.func20 (by kernel_rfl) rfl #[.slice Ao23 y513.length co23] rfl y2_ ?_; (with_reducible refine (manometerref01_Join.calls k _ _ y513 t516 _ ?side1 ?side2 A7.out).mono ?_); (case side1 => repeat (first | exact (Kd.N_reads' HO515.out).2.2 | (with_reducible refine Kd.C_alloc ?_ _) | (with_reducible refine Kd.C_drewN ?_ _) | (with_reducible refine Kd.C_drew ?_))); (case side2 => exact (Kd.N_reads' HO515.out).2.1); rintro e w24 ⟨v517, rfl, ho0, hb⟩; refine ⟨_, rfl, ?_⟩; have n0_ := Aside0.mk (Kd.N_elder' (by (with_reducible repeat (first | apply Kd.N_alloc | apply Kd.N_drewN | apply Kd.N_drew)); exact HO515.out) (Kd.R_base ho0) hb); have n1_ := Aside0.mk (Kd.R_lower ho0 (below_size y10_)); have n2_ := Aside0.mk (blk_below (g := gb501) (o := .cells #[.int .i64 a0_0, .int .u32 a0_1, .slice A0_2 l0_2.length c0_2, .slice A0_3 l0_3.length c0_3] 29 (0, 0)) y14_ hb); have n3_ := Aside0.mk (below_step y10_ hb); clear HO515; clear BK501; clear HB; have HO515 := n0_; have HO518 := n1_; have BK501 := n2_; have HB := n3_; clear n0_ n1_ n2_ n3_; (try clear hb); (try clear hb2); (try clear hk); (try clear hi); (try clear ho0)))
   go_ret2
   exact ⟨_, y6_, by (with_reducible repeat (first | apply Kd.R_alloc | apply Kd.R_drewN | apply Kd.R_drew)); exact HO518.out, y10_⟩
  ·rw [if_neg c4] at H
   have c4b0 : (a0_0 == 1) = false := beq_eq_false_iff_ne.mpr c4
   have c4b1 : (a0_0 != 1) = true := bne_iff_ne.mpr c4
   replace H := Option.bind_eq_some_iff.mp H
   obtain ⟨t519, A250, H⟩ := H
   replace H : ((manometerref01_Join.f k (([y503, t519] : List (List Int)))).bind fun t525 => (manometerref13_Put.l0 k t525 l0_3 (l0_3.length : Int) 0 0 0 0 0)) = some (r1, r2) := H
   have A25 := Aside0.mk A250
   clear A250
   obtain ⟨y522, hy522⟩ : ∃ y_ : List (List Int), y_ = (([y503, t519] : List (List Int))) := ⟨_, rfl⟩
   replace H : ((manometerref01_Join.f k y522).bind fun t525 => (manometerref13_Put.l0 k t525 l0_3 (l0_3.length : Int) 0 0 0 0 0)) = some (r1, r2) := by first | (rw [hy522]; with_reducible exact H) | (have H2_ := (Option.bind_some _ _).symm.trans H; rw [hy522]; with_reducible exact H2_) | (have H2_ := (Option.bind_some _ _).symm.trans H; with_reducible exact H2_) | with_reducible exact H | (rw [hy522]; exact H) | exact H
   have Ny522 := Aside0.mk hy522
   clear hy522
   replace H := Option.bind_eq_some_iff.mp H
   obtain ⟨t525, A260, H⟩ := H
   replace H : (manometerref13_Put.l0 k t525 l0_3 (l0_3.length : Int) 0 0 0 0 0) = some (r1, r2) := H
   have A26 := Aside0.mk A260
   clear A260
   have H' := Aside0.mk H
   clear H
   go_enter Tryd.func14, Tryd.ntmps14
   go_wp2_with (first | ((with_reducible refine gate_dst (N := 1) rfl ?_); refine box_event ?hg (N := 1) ?hd (cs := #[.int .i64 a0_0, .int .u32 a0_1, .slice A0_2 l0_2.length c0_2, .slice A0_3 l0_3.length c0_3]) (t := 29) ?hr ?_; (case hd => rfl); (case hg => rfl); (case hr => first | (go_simp; done) | (go_simp; rfl)); intro gb501 hg w27 hbox hb; have n0_ := Aside0.mk (below_step y1_ hb); have n1_ := Aside0.mk (hbox); have n2_ := Aside0.mk ((y13_ : w.heap.size ≤ gb501)); have n3_ := Aside0.mk ((y13_ : w.heap.size ≤ gb501)); clear HB; have HB := n0_; have BK501 := n1_; have GW501 := n2_; have GE501 := n3_; clear n0_ n1_ n2_ n3_; clear hb hbox hg; have hcz28_0 : w27.cell? ⟨gb501, 0, none⟩ = some (.int .i64 a0_0) := (blk_cell BK501.out 0).trans rfl; have hcz28_1 : w27.cell? ⟨gb501, 1, none⟩ = some (.int .u32 a0_1) := (blk_cell BK501.out 1).trans rfl; have hcz28_2 : w27.cell? ⟨gb501, 2, none⟩ = some (.slice A0_2 l0_2.length c0_2) := (blk_cell BK501.out 2).trans rfl; have hcz28_3 : w27.cell? ⟨gb501, 3, none⟩ = some (.slice A0_3 l0_3.length c0_3) := (blk_cell BK501.out 3).trans rfl; have hfz28_0 := blk_frozen BK501.out 0; have hfz28_1 := blk_frozen BK501.out 1; have hfz28_2 := blk_frozen BK501.out 2; have hfz28_3 := blk_frozen BK501.out 3) | ((with_reducible refine gate_callee (f := 17) rfl ?_); refine goesL_ (some 15) rfl rfl Tryd.func17 (by kernel_rfl) rfl #[.agg #[.int .i64 a0_0, .int .u32 a0_1, .slice A0_2 l0_2.length c0_2, .slice A0_3 l0_3.length c0_3]] rfl y2_ ?_; (with_reducible refine (manometerref13_Check.calls k a0_0 a0_1 _ _ l0_2 _ _ l0_3 t502 _ ?side1 ?side2 ?side3 ?side4 A2.out).mono ?_); (case side1 => repeat (first | exact (Kd.C_below HR0_2.out HB.out) | (with_reducible refine Kd.C_alloc ?_ _) | (with_reducible refine Kd.C_drewN ?_ _) | (with_reducible refine Kd.C_drew ?_))); (case side2 => exact HC0_2.out); (case side3 => repeat (first | exact (Kd.C_below HR0_3.out HB.out) | (with_reducible refine Kd.C_alloc ?_ _) | (with_reducible refine Kd.C_drewN ?_ _) | (with_reducible refine Kd.C_drew ?_))); (case side4 => exact HC0_3.out); rintro e w29 ⟨rfl, hb⟩; refine ⟨_, rfl, ?_⟩; have n0_ := Aside0.mk (blk_below (g := gb501) (o := .cells #[.int .i64 a0_0, .int .u32 a0_1, .slice A0_2 l0_2.length c0_2, .slice A0_3 l0_3.length c0_3] 29 (0, 0)) y14_ hb); have n1_ := Aside0.mk (below_step y10_ hb); clear BK501; clear HB; have BK501 := n0_; have HB := n1_; clear n0_ n1_; (try clear hb); (try clear hb2); (try clear hk); (try clear hi); have hcz30_0 : w29.cell? ⟨gb501, 0, none⟩ = some (.int .i64 a0_0) := (blk_cell BK501.out 0).trans rfl; have hcz30_1 : w29.cell? ⟨gb501, 1, none⟩ = some (.int .u32 a0_1) := (blk_cell BK501.out 1).trans rfl; have hcz30_2 : w29.cell? ⟨gb501, 2, none⟩ = some (.slice A0_2 l0_2.length c0_2) := (blk_cell BK501.out 2).trans rfl; have hcz30_3 : w29.cell? ⟨gb501, 3, none⟩ = some (.slice A0_3 l0_3.length c0_3) := (blk_cell BK501.out 3).trans rfl; have hfz30_0 := blk_frozen BK501.out 0; have hfz30_1 := blk_frozen BK501.out 1; have hfz30_2 := blk_frozen BK501.out 2; have hfz30_3 := blk_frozen BK501.out 3) | ((with_reducible refine gate_dst (N := 22) rfl ?_); refine Kd.R_lit (Kd.int .u8) _ 5 ?hg (N := 22) ?hd (xs := ([(a0_0) % 256] : List Int)) (inner := [.int .u8 ((a0_0) % 256)]) (ok := fun _ => True) (okp := fun _ => True) ?hr ?hp (fun _ hk => hk) trivial (Below.refl _ _) (Nat.le_refl _) (by simp) ?_; (case hd => rfl); (case hg => rfl); (case hr => first | (go_simp; done) | (go_simp; rfl)); (case hp => exact (Reps.one (show Kd.M (Kd.int .u8) _ _ _ ((a0_0) % 256) [.int .u8 ((a0_0) % 256)] from rfl) (Reps.none _ _))); intro v504 w31 ho32 hb hg_ hnew_; clear hg_ hnew_; (first | rw [← Ny503.out] at ho32 | (simp only [Int.reduceToNat] at ho32; rw [← Ny503.out] at ho32)); have n0_ := Aside0.mk (Kd.R_lower ho32 (below_size y10_)); have n1_ := Aside0.mk (blk_below (g := gb501) (o := .cells #[.int .i64 a0_0, .int .u32 a0_1, .slice A0_2 l0_2.length c0_2, .slice A0_3 l0_3.length c0_3] 29 (0, 0)) y14_ hb); have n2_ := Aside0.mk (below_step y10_ hb); clear BK501; clear HB; have HO505 := n0_; have BK501 := n1_; have HB := n2_; clear n0_ n1_ n2_; clear hb ho32; have hcz33_0 : w31.cell? ⟨gb501, 0, none⟩ = some (.int .i64 a0_0) := (blk_cell BK501.out 0).trans rfl; have hcz33_1 : w31.cell? ⟨gb501, 1, none⟩ = some (.int .u32 a0_1) := (blk_cell BK501.out 1).trans rfl; have hcz33_2 : w31.cell? ⟨gb501, 2, none⟩ = some (.slice A0_2 l0_2.length c0_2) := (blk_cell BK501.out 2).trans rfl; have hcz33_3 : w31.cell? ⟨gb501, 3, none⟩ = some (.slice A0_3 l0_3.length c0_3) := (blk_cell BK501.out 3).trans rfl; have hfz33_0 := blk_frozen BK501.out 0; have hfz33_1 := blk_frozen BK501.out 1; have hfz33_2 := blk_frozen BK501.out 2; have hfz33_3 := blk_frozen BK501.out 3) | ((with_reducible refine gate_callee (f := 32) rfl ?_); refine goesL_ (some 45) rfl rfl Tryd.func32 (by kernel_rfl) rfl #[.int .u64 (IntKind.u64.wrap ((l0_3.length : Int)))] rfl y2_ ?_; (with_reducible refine (manometerref01_PutUvarint.calls k (IntKind.u64.wrap ((l0_3.length : Int))) t519 _ A25.out).mono ?_); rintro e w34 ⟨v520, rfl, ho0, hb⟩; refine ⟨_, rfl, ?_⟩; have n0_ := Aside0.mk (Kd.R_elder' y50_ (Kd.R_base ho0) hb); have n1_ := Aside0.mk (Kd.R_lower (Kd.R_new' ho0 (Kd.R_lt y50_)) (below_size y10_)); have n2_ := Aside0.mk (blk_below (g := gb501) (o := .cells #[.int .i64 a0_0, .int .u32 a0_1, .slice A0_2 l0_2.length c0_2, .slice A0_3 l0_3.length c0_3] 29 (0, 0)) y14_ hb); have n3_ := Aside0.mk (below_step y10_ hb); clear HO505; clear BK501; clear HB; have HO505 := n0_; have HO521 := n1_; have BK501 := n2_; have HB := n3_; clear n0_ n1_ n2_ n3_; (try clear hb); (try clear hb2); (try clear hk); (try clear hi); (try clear ho0); obtain ⟨Ao35, co35, eo35⟩ := Kd.R_slice HO505.out; subst eo35; obtain ⟨Ao36, co36, eo36⟩ := Kd.R_slice HO521.out; subst eo36) | ((with_reducible refine gate_dst (N := 46) rfl ?_); refine Kd.N_lit (Kd.slice 5 (Kd.int .u8)) _ 22 ?hg (N' := 46) ?hd (xs := ([y503, t519] : List (List Int))) (inner := [.slice Ao35 y503.length co35, .slice Ao36 t519.length co36]) (ok := (fun k_ => k_ ≠ gb501)) (okp := (fun k_ => k_ ≠ gb501)) ?hr ?hp (fun _ hk => hk) ((show ∀ k_, w34.heap.size ≤ k_ → (fun k_ => k_ ≠ gb501) k_ from fun k_ hk => Kd.freshB (g := gb501) (o := .cells #[.int .i64 a0_0, .int .u32 a0_1, .slice A0_2 l0_2.length c0_2, .slice A0_3 l0_3.length c0_3] 29 (0, 0)) y14_ k_ hk) _ (Nat.le_refl _)) (Below.refl _ _) (Nat.le_refl _) (by simp) ?_; (case hd => rfl); (case hg => rfl); (case hr => first | (go_simp; done) | (go_simp; rfl)); (case hp => exact (Reps.one (show Kd.FK (Kd.slice 5 (Kd.int .u8)) _ _ y503 [.slice Ao35 y503.length co35] from (Kd.FK_slice_mk (Kd.R_reads' (Kd.R_mono (ok' := (fun k_ => k_ ≠ gb501)) (Kd.R_types (HO505.out) BK501.out (by decide)) (fun k_ hk => hk.2))).2.1 (Kd.R_F (Kd.R_mono (ok' := (fun k_ => k_ ≠ gb501)) (Kd.R_types (HO505.out) BK501.out (by decide)) (fun k_ hk => hk.2))))) (Reps.one (show Kd.FK (Kd.slice 5 (Kd.int .u8)) _ _ t519 [.slice Ao36 t519.length co36] from (Kd.FK_slice_mk (Kd.R_reads' (Kd.R_mono (ok' := (fun k_ => k_ ≠ gb501)) (Kd.R_types (HO521.out) BK501.out (by decide)) (fun k_ hk => hk.2))).2.1 (Kd.R_F (Kd.R_mono (ok' := (fun k_ => k_ ≠ gb501)) (Kd.R_types (HO521.out) BK501.out (by decide)) (fun k_ hk => hk.2))))) (Reps.none _ _)))); intro v523 w37 ho38 hb hg_ hnew_; clear hg_ hnew_; (first | rw [← Ny522.out] at ho38 | (simp only [Int.reduceToNat] at ho38; rw [← Ny522.out] at ho38)); have n0_ := Aside0.mk (Kd.N_lower ho38 (below_size y10_)); have n1_ := Aside0.mk (blk_below (g := gb501) (o := .cells #[.int .i64 a0_0, .int .u32 a0_1, .slice A0_2 l0_2.length c0_2, .slice A0_3 l0_3.length c0_3] 29 (0, 0)) y14_ hb); have n2_ := Aside0.mk (below_step y10_ hb); clear BK501; clear HB; clear HO505; clear HO521; have HO524 := n0_; have BK501 := n1_; have HB := n2_; clear n0_ n1_ n2_; clear hb ho38; obtain ⟨Ao39, co39, eo39⟩ := Kd.N_slice HO524.out; subst eo39) | ((with_reducible refine gate_callee (f := 20) rfl ?_); refine goesL_ (some 47) rfl rfl Tryd.func20 (by kernel_rfl) rfl #[.slice Ao39 y522.length co39] rfl y2_ ?_; (with_reducible refine (manometerref01_Join.calls k _ _ y522 t525 _ ?side1 ?side2 A26.out).mono ?_); (case side1 => repeat (first | exact (Kd.N_reads' HO524.out).2.2 | (with_reducible refine Kd.C_alloc ?_ _) | (with_reducible refine Kd.C_drewN ?_ _) | (with_reducible refine Kd.C_drew ?_))); (case side2 => exact (Kd.N_reads' HO524.out).2.1); rintro e w40 ⟨v526, rfl, ho0, hb⟩; refine ⟨_, rfl, ?_⟩; have n0_ := Aside0.mk (Kd.N_elder' (by (with_reducible repeat (first | apply Kd.N_alloc | apply Kd.N_drewN | apply Kd.N_drew)); exact HO524.out) (Kd.R_base ho0) hb); have n1_ := Aside0.mk (Kd.R_lower ho0 (below_size y10_)); have n2_ := Aside0.mk (blk_below (g := gb501) (o := .cells #[.int .i64 a0_0, .int .u32 a0_1, .slice A0_2 l0_2.length c0_2, .slice A0_3 l0_3.length c0_3] 29 (0, 0)) y14_ hb); have n3_ := Aside0.mk (below_step y10_ hb); clear HO524; clear BK501; clear HB; have HO524 := n0_; have HO527 := n1_; have BK501 := n2_; have HB := n3_; clear n0_ n1_ n2_ n3_; (try clear hb); (try clear hb2); (try clear hk); (try clear hi); (try clear ho0)) | ((with_reducible refine gate_dst (N := 8) rfl ?_); refine box_event ?hg (N := 8) ?hd (cs := #[.int .u32 0, .int .i64 0, .int .u64 0, .int .u64 0]) (t := 45) ?hr ?_; (case hd => rfl); (case hg => rfl); (case hr => first | (go_simp; done) | (go_simp; rfl)); intro gb528 hg w41 hbox hb; have n0_ := Aside0.mk (Kd.N_below (Kd.N_elderB (by (with_reducible repeat (first | apply Kd.N_alloc | apply Kd.N_drewN | apply Kd.N_drew)); exact HO524.out) gb528 (Nat.le_of_eq hg.symm)) hb); have n1_ := Aside0.mk (Kd.R_below (by (with_reducible repeat (first | apply Kd.R_alloc | apply Kd.R_drewN | apply Kd.R_drew)); exact HO527.out) hb); have n2_ := Aside0.mk (blk_below (g := gb501) (o := .cells #[.int .i64 a0_0, .int .u32 a0_1, .slice A0_2 l0_2.length c0_2, .slice A0_3 l0_3.length c0_3] 29 (0, 0)) y14_ hb); have n3_ := Aside0.mk (below_step y10_ hb); have n4_ := Aside0.mk (hbox); have n5_ := Aside0.mk ((by rw [hg]; exact (below_size y10_) : w.heap.size ≤ gb528)); have n6_ := Aside0.mk ((by rw [hg]; exact (below_size y10_) : w.heap.size ≤ gb528)); have n7_ := Aside0.mk ((by rw [hg]; exact Nat.ne_of_lt (blk_lt (g := gb501) (o := .cells #[.int .i64 a0_0, .int .u32 a0_1, .slice A0_2 l0_2.length c0_2, .slice A0_3 l0_3.length c0_3] 29 (0, 0)) y14_) : gb501 ≠ gb528)); have n8_ := Aside0.mk ((by rw [hg]; exact Nat.ne_of_gt (blk_lt (g := gb501) (o := .cells #[.int .i64 a0_0, .int .u32 a0_1, .slice A0_2 l0_2.length c0_2, .slice A0_3 l0_3.length c0_3] 29 (0, 0)) y14_) : gb528 ≠ gb501)); clear HO524; clear HO527; clear BK501; clear HB; have HO524 := n0_; have HO527 := n1_; have BK501 := n2_; have HB := n3_; have BK528 := n4_; have GW528 := n5_; have GE528 := n6_; have NB501_528 := n7_; have NB528_501 := n8_; clear n0_ n1_ n2_ n3_ n4_ n5_ n6_ n7_ n8_; clear hb hbox hg; have hnb42 := NB501_528.out; have hnc42 := NB528_501.out; have hcz43_0 : w41.cell? ⟨gb501, 0, none⟩ = some (.int .i64 a0_0) := (blk_cell BK501.out 0).trans rfl; have hcz43_1 : w41.cell? ⟨gb501, 1, none⟩ = some (.int .u32 a0_1) := (blk_cell BK501.out 1).trans rfl; have hcz43_2 : w41.cell? ⟨gb501, 2, none⟩ = some (.slice A0_2 l0_2.length c0_2) := (blk_cell BK501.out 2).trans rfl; have hcz43_3 : w41.cell? ⟨gb501, 3, none⟩ = some (.slice A0_3 l0_3.length c0_3) := (blk_cell BK501.out 3).trans rfl; have hfz43_0 := blk_frozen BK501.out 0; have hfz43_1 := blk_frozen BK501.out 1; have hfz43_2 := blk_frozen BK501.out 2; have hfz43_3 := blk_frozen BK501.out 3))
   go_loopg [5, 51] k (fun kq v5 v51 w' => ∃ (x5_1 : List Int) (x51_1 : Int) (x529000_1 : Int) (x529001_1 : Int) (x529002_1 : Int) (x529003_1 : Int), v51 = .int .i64 x51_1 ∧ Aside0 (manometerref13_Put.l0 kq x5_1 l0_3 (l0_3.length : Int) x51_1 x529000_1 x529001_1 x529002_1 x529003_1 = some (r1, r2)) ∧ Aside0 (kq ≤ k) ∧ Aside0 (Kd.R (Kd.int .u8) 5 w' w.heap.size (fun _ => True) v5 x5_1) ∧ Aside0 (w'.heap[gb501]? = some (.cells #[.int .i64 a0_0, .int .u32 a0_1, (.slice A0_2 l0_2.length c0_2), (.slice A0_3 l0_3.length c0_3)] 29 (0, 0))) ∧ Aside0 (w'.heap[gb528]? = some (.cells #[.int .u32 x529000_1, .int .i64 x529001_1, .int .u64 x529002_1, .int .u64 x529003_1] 45 (0, 0))) ∧ Aside0 (Below w.heap.size w w'))
   case atStart => exact ⟨(t525), (0), (0), (0), (0), (0), y8_, H', ⟨Nat.le_refl _⟩, ⟨by (with_reducible repeat (first | apply Kd.R_alloc | apply Kd.R_drewN | apply Kd.R_drew)); exact HO527.out⟩, ⟨y14_⟩, ⟨y34_⟩, ⟨y42_⟩⟩
   case round =>
    clear H'
    try clear c1
    try clear c2
    try clear p2
    try clear c3
    try clear c3b0
    try clear c3b1
    try clear c4
    try clear c4b0
    try clear c4b1
    try clear c14
    try clear c17
    try clear c20
    try clear c31
    try clear c32
    try clear c42
    try clear hcz11_0
    try clear hcz11_1
    try clear hcz11_2
    try clear hcz11_3
    try clear hcz14_0
    try clear hcz14_1
    try clear hcz14_2
    try clear hcz14_3
    try clear hcz16_0
    try clear hcz16_1
    try clear hcz16_2
    try clear hcz16_3
    try clear hcz28_0
    try clear hcz28_1
    try clear hcz28_2
    try clear hcz28_3
    try clear hcz30_0
    try clear hcz30_1
    try clear hcz30_2
    try clear hcz30_3
    try clear hcz33_0
    try clear hcz33_1
    try clear hcz33_2
    try clear hcz33_3
    try clear hcz43_0
    try clear hcz43_1
    try clear hcz43_2
    try clear hcz43_3
    try clear hcz9_0
    try clear hcz9_1
    try clear hcz9_2
    try clear hcz9_3
    try clear hfz11_0
    try clear hfz11_1
    try clear hfz11_2
    try clear hfz11_3
    try clear hfz14_0
    try clear hfz14_1
    try clear hfz14_2
    try clear hfz14_3
    try clear hfz16_0
    try clear hfz16_1
    try clear hfz16_2
    try clear hfz16_3
    try clear hfz28_0
    try clear hfz28_1
    try clear hfz28_2
    try clear hfz28_3
    try clear hfz30_0
    try clear hfz30_1
    try clear hfz30_2
    try clear hfz30_3
    try clear hfz33_0
    try clear hfz33_1
    try clear hfz33_2
    try clear hfz33_3
    try clear hfz43_0
    try clear hfz43_1
    try clear hfz43_2
    try clear hfz43_3
    try clear hfz9_0
    try clear hfz9_1
    try clear hfz9_2
    try clear hfz9_3
    obtain ⟨x5_1, x51_1, x529000_1, x529001_1, x529002_1, x529003_1, rfl, HA, HK1, HO_5, BK501, BK528, HB⟩ := hrel
    cases gk with
    | zero => exact absurd HA.out (by simp [manometerref13_Put.l0])
    | succ k1 =>
     have H := HA.out
     clear HA
     simp only [manometerref13_Put.l0] at H
     by_cases c44 : x51_1 < (l0_3.length : Int)
     ·rw [if_pos c44] at H
      have c44b0 : decide (x51_1 < (l0_3.length : Int)) = true := decide_eq_true c44
      clear c44
      by_cases c45 : 0 ≤ x51_1
      ·rw [if_pos c45] at H
       have c45b0 : decide (0 ≤ x51_1) = true := decide_eq_true c45
       clear c45
       by_cases c46 : x51_1 < (l0_3.length : Int)
       ·rw [if_pos c46] at H
        have c46b0 : decide (x51_1 < (l0_3.length : Int)) = true := decide_eq_true c46
        clear c46
        replace H := Option.bind_eq_some_iff.mp H
        obtain ⟨t531, A470, H⟩ := H
        replace H : ((manometerref01_PutVarint.f k1 (wrap64 (IntKind.u64.wrap ((IntKind.u64.wrap ((rd_T45 l0_3 x51_1).f1.f0)) - (IntKind.u64.wrap (x529001_1)))))).bind fun t534 => ((manometerref01_PutVarint.f k1 (wrap64 (IntKind.u64.wrap (((rd_T45 l0_3 x51_1).f1.f2) - x529003_1)))).bind fun t537 => ((manometerref01_Big.f k1 ((rd_T45 l0_3 x51_1).f1.f1)).bind fun t540 => ((manometerref01_Join.f k1 (([x5_1, t531, t534, t537, t540] : List (List Int)))).bind fun t546 => (manometerref13_Put.l0 k1 t546 l0_3 (l0_3.length : Int) (wrap64 (x51_1 + 1)) ((rd_T45 l0_3 x51_1).f0) ((rd_T45 l0_3 x51_1).f1.f0) ((rd_T45 l0_3 x51_1).f1.f1) ((rd_T45 l0_3 x51_1).f1.f2)))))) = some (r1, r2) := H
        have A47 := Aside0.mk A470
        clear A470
        replace H := Option.bind_eq_some_iff.mp H
        obtain ⟨t534, A480, H⟩ := H
        replace H : ((manometerref01_PutVarint.f k1 (wrap64 (IntKind.u64.wrap (((rd_T45 l0_3 x51_1).f1.f2) - x529003_1)))).bind fun t537 => ((manometerref01_Big.f k1 ((rd_T45 l0_3 x51_1).f1.f1)).bind fun t540 => ((manometerref01_Join.f k1 (([x5_1, t531, t534, t537, t540] : List (List Int)))).bind fun t546 => (manometerref13_Put.l0 k1 t546 l0_3 (l0_3.length : Int) (wrap64 (x51_1 + 1)) ((rd_T45 l0_3 x51_1).f0) ((rd_T45 l0_3 x51_1).f1.f0) ((rd_T45 l0_3 x51_1).f1.f1) ((rd_T45 l0_3 x51_1).f1.f2))))) = some (r1, r2) := H
        have A48 := Aside0.mk A480
        clear A480
        replace H := Option.bind_eq_some_iff.mp H
        obtain ⟨t537, A490, H⟩ := H
        replace H : ((manometerref01_Big.f k1 ((rd_T45 l0_3 x51_1).f1.f1)).bind fun t540 => ((manometerref01_Join.f k1 (([x5_1, t531, t534, t537, t540] : List (List Int)))).bind fun t546 => (manometerref13_Put.l0 k1 t546 l0_3 (l0_3.length : Int) (wrap64 (x51_1 + 1)) ((rd_T45 l0_3 x51_1).f0) ((rd_T45 l0_3 x51_1).f1.f0) ((rd_T45 l0_3 x51_1).f1.f1) ((rd_T45 l0_3 x51_1).f1.f2)))) = some (r1, r2) := H
        have A49 := Aside0.mk A490
        clear A490
        replace H := Option.bind_eq_some_iff.mp H
        obtain ⟨t540, A500, H⟩ := H
        replace H : ((manometerref01_Join.f k1 (([x5_1, t531, t534, t537, t540] : List (List Int)))).bind fun t546 => (manometerref13_Put.l0 k1 t546 l0_3 (l0_3.length : Int) (wrap64 (x51_1 + 1)) ((rd_T45 l0_3 x51_1).f0) ((rd_T45 l0_3 x51_1).f1.f0) ((rd_T45 l0_3 x51_1).f1.f1) ((rd_T45 l0_3 x51_1).f1.f2))) = some (r1, r2) := H
        have A50 := Aside0.mk A500
        clear A500
        obtain ⟨y543, hy543⟩ : ∃ y_ : List (List Int), y_ = (([x5_1, t531, t534, t537, t540] : List (List Int))) := ⟨_, rfl⟩
        replace H : ((manometerref01_Join.f k1 y543).bind fun t546 => (manometerref13_Put.l0 k1 t546 l0_3 (l0_3.length : Int) (wrap64 (x51_1 + 1)) ((rd_T45 l0_3 x51_1).f0) ((rd_T45 l0_3 x51_1).f1.f0) ((rd_T45 l0_3 x51_1).f1.f1) ((rd_T45 l0_3 x51_1).f1.f2))) = some (r1, r2) := by first | (rw [hy543]; with_reducible exact H) | (have H2_ := (Option.bind_some _ _).symm.trans H; rw [hy543]; with_reducible exact H2_) | (have H2_ := (Option.bind_some _ _).symm.trans H; with_reducible exact H2_) | with_reducible exact H | (rw [hy543]; exact H) | exact H
        have Ny543 := Aside0.mk hy543
        clear hy543
        replace H := Option.bind_eq_some_iff.mp H
        obtain ⟨t546, A510, H⟩ := H
        replace H : (manometerref13_Put.l0 k1 t546 l0_3 (l0_3.length : Int) (wrap64 (x51_1 + 1)) ((rd_T45 l0_3 x51_1).f0) ((rd_T45 l0_3 x51_1).f1.f0) ((rd_T45 l0_3 x51_1).f1.f1) ((rd_T45 l0_3 x51_1).f1.f2)) = some (r1, r2) := H
        have A51 := Aside0.mk A510
        clear A510
        have H' := Aside0.mk H
        clear H
        have p529 : 0 ≤ (x51_1 : Int) := of_decide_eq_true y3_
        have q529 : x51_1 < (l0_3.length : Int) := of_decide_eq_true y3_
        obtain ⟨ad529, e529, hx529_0, hx529_1, hx529_2, hx529_3⟩ := at_T45 HR0_3.out x51_1 p529 q529
        cases e529
        replace hx529_0 := (HB.out.cell (World.block_lt_of_cell? w _ hx529_0)).trans hx529_0
        replace hx529_1 := (HB.out.cell (World.block_lt_of_cell? w _ hx529_1)).trans hx529_1
        replace hx529_2 := (HB.out.cell (World.block_lt_of_cell? w _ hx529_2)).trans hx529_2
        replace hx529_3 := (HB.out.cell (World.block_lt_of_cell? w _ hx529_3)).trans hx529_3
        replace p529 := eq_true p529
        replace q529 := eq_true q529
        try go_wp2_with (first | ((with_reducible refine gate_dst (N := 10) rfl ?_); refine box_event ?hg (N := 10) ?hd (cs := #[.int .u32 0, .int .i64 0, .int .u64 0, .int .u64 0]) (t := 45) ?hr ?_; (case hd => rfl); (case hg => rfl); (case hr => first | (go_simp; done) | (go_simp; rfl)); intro gb530 hg w52 hbox hb; have n0_ := Aside0.mk (Kd.R_below y26_ hb); have n1_ := Aside0.mk (blk_below (g := gb501) (o := .cells #[.int .i64 a0_0, .int .u32 a0_1, .slice A0_2 l0_2.length c0_2, .slice (some ad529) l0_3.length c0_3] 29 (0, 0)) y14_ hb); have n2_ := Aside0.mk (blk_below (g := gb528) (o := .cells #[.int .u32 x529000_1, .int .i64 x529001_1, .int .u64 x529002_1, .int .u64 x529003_1] 45 (0, 0)) y34_ hb); have n3_ := Aside0.mk (below_step y42_ hb); have n4_ := Aside0.mk (hbox); have n5_ := Aside0.mk ((by rw [hg]; exact (below_size y42_) : w.heap.size ≤ gb530)); have n6_ := Aside0.mk ((by rw [hg]; exact (below_size y42_) : w.heap.size ≤ gb530)); have n7_ := Aside0.mk ((by rw [hg]; exact Nat.ne_of_lt (blk_lt (g := gb501) (o := .cells #[.int .i64 a0_0, .int .u32 a0_1, .slice A0_2 l0_2.length c0_2, .slice (some ad529) l0_3.length c0_3] 29 (0, 0)) y14_) : gb501 ≠ gb530)); have n8_ := Aside0.mk ((by rw [hg]; exact Nat.ne_of_gt (blk_lt (g := gb501) (o := .cells #[.int .i64 a0_0, .int .u32 a0_1, .slice A0_2 l0_2.length c0_2, .slice (some ad529) l0_3.length c0_3] 29 (0, 0)) y14_) : gb530 ≠ gb501)); have n9_ := Aside0.mk ((by rw [hg]; exact Nat.ne_of_lt (blk_lt (g := gb528) (o := .cells #[.int .u32 x529000_1, .int .i64 x529001_1, .int .u64 x529002_1, .int .u64 x529003_1] 45 (0, 0)) y34_) : gb528 ≠ gb530)); have n10_ := Aside0.mk ((by rw [hg]; exact Nat.ne_of_gt (blk_lt (g := gb528) (o := .cells #[.int .u32 x529000_1, .int .i64 x529001_1, .int .u64 x529002_1, .int .u64 x529003_1] 45 (0, 0)) y34_) : gb530 ≠ gb528)); clear HO_5; clear BK501; clear BK528; clear HB; have HO_5 := n0_; have BK501 := n1_; have BK528 := n2_; have HB := n3_; have BK530 := n4_; have GW530 := n5_; have GE530 := n6_; have NB501_530 := n7_; have NB530_501 := n8_; have NB528_530 := n9_; have NB530_528 := n10_; clear n0_ n1_ n2_ n3_ n4_ n5_ n6_ n7_ n8_ n9_ n10_; clear hb hbox hg; have hnb53 := NB530_501.out; have hnc53 := NB501_530.out; have hnb54 := NB530_528.out; have hnc54 := NB528_530.out; have hcz55_0 : w52.cell? ⟨gb530, 0, none⟩ = some (.int .u32 0) := (blk_cell BK530.out 0).trans rfl; have hcz55_1 : w52.cell? ⟨gb530, 1, none⟩ = some (.int .i64 0) := (blk_cell BK530.out 1).trans rfl; have hcz55_2 : w52.cell? ⟨gb530, 2, none⟩ = some (.int .u64 0) := (blk_cell BK530.out 2).trans rfl; have hcz55_3 : w52.cell? ⟨gb530, 3, none⟩ = some (.int .u64 0) := (blk_cell BK530.out 3).trans rfl; have hfz55_0 := blk_frozen BK530.out 0; have hfz55_1 := blk_frozen BK530.out 1; have hfz55_2 := blk_frozen BK530.out 2; have hfz55_3 := blk_frozen BK530.out 3; have hnb56 := NB528_501.out; have hnc56 := NB501_528.out; have hcz57_0 : w52.cell? ⟨gb528, 0, none⟩ = some (.int .u32 x529000_1) := (blk_cell BK528.out 0).trans rfl; have hcz57_1 : w52.cell? ⟨gb528, 1, none⟩ = some (.int .i64 x529001_1) := (blk_cell BK528.out 1).trans rfl; have hcz57_2 : w52.cell? ⟨gb528, 2, none⟩ = some (.int .u64 x529002_1) := (blk_cell BK528.out 2).trans rfl; have hcz57_3 : w52.cell? ⟨gb528, 3, none⟩ = some (.int .u64 x529003_1) := (blk_cell BK528.out 3).trans rfl; have hfz57_0 := blk_frozen BK528.out 0; have hfz57_1 := blk_frozen BK528.out 1; have hfz57_2 := blk_frozen BK528.out 2; have hfz57_3 := blk_frozen BK528.out 3))
        have n0_ : Aside0 (Kd.R (Kd.int .u8) 5 ((((w52.setCell ⟨gb530, 0, none⟩ (.int .u32 ((rd_T45 l0_3 x51_1).f0))).setCell ⟨gb530, 1, none⟩ (.int .i64 ((rd_T45 l0_3 x51_1).f1.f0))).setCell ⟨gb530, 2, none⟩ (.int .u64 ((rd_T45 l0_3 x51_1).f1.f1))).setCell ⟨gb530, 3, none⟩ (.int .u64 ((rd_T45 l0_3 x51_1).f1.f2))) w.heap.size (fun _ => True) u5 x5_1) := ⟨by (with_reducible repeat (first | apply Kd.R_alloc | apply Kd.R_drewN | apply Kd.R_drew)); exact Kd.R_mono (Kd.R_far (p := ⟨gb530, 3, none⟩) (Kd.R_far (p := ⟨gb530, 2, none⟩) (Kd.R_far (p := ⟨gb530, 1, none⟩) (Kd.R_far (p := ⟨gb530, 0, none⟩) (Kd.R_types HO_5.out BK530.out (by decide)) (fun _ hk => hk.2) (.int .u32 ((rd_T45 l0_3 x51_1).f0))) (fun _ hk => hk.2) (.int .i64 ((rd_T45 l0_3 x51_1).f1.f0))) (fun _ hk => hk.2) (.int .u64 ((rd_T45 l0_3 x51_1).f1.f1))) (fun _ hk => hk.2) (.int .u64 ((rd_T45 l0_3 x51_1).f1.f2))) (fun _ hk => trivial)⟩
        have n1_ : Aside0 (((((w52.setCell ⟨gb530, 0, none⟩ (.int .u32 ((rd_T45 l0_3 x51_1).f0))).setCell ⟨gb530, 1, none⟩ (.int .i64 ((rd_T45 l0_3 x51_1).f1.f0))).setCell ⟨gb530, 2, none⟩ (.int .u64 ((rd_T45 l0_3 x51_1).f1.f1))).setCell ⟨gb530, 3, none⟩ (.int .u64 ((rd_T45 l0_3 x51_1).f1.f2))).heap[gb501]? = some (.cells #[.int .i64 a0_0, .int .u32 a0_1, .slice A0_2 l0_2.length c0_2, .slice (some ad529) l0_3.length c0_3] 29 (0, 0))) := ⟨by (with_reducible repeat (first | refine blk_drewN ?_ _ | refine blk_drew ?_ | refine blk_alloc ?_ _)); refine blk_far ?_ NB501_530.out _; (with_reducible repeat (first | refine blk_drewN ?_ _ | refine blk_drew ?_ | refine blk_alloc ?_ _)); refine blk_far ?_ NB501_530.out _; (with_reducible repeat (first | refine blk_drewN ?_ _ | refine blk_drew ?_ | refine blk_alloc ?_ _)); refine blk_far ?_ NB501_530.out _; (with_reducible repeat (first | refine blk_drewN ?_ _ | refine blk_drew ?_ | refine blk_alloc ?_ _)); refine blk_far ?_ NB501_530.out _; (with_reducible repeat (first | refine blk_drewN ?_ _ | refine blk_drew ?_ | refine blk_alloc ?_ _)); exact BK501.out⟩
        have n2_ : Aside0 (((((w52.setCell ⟨gb530, 0, none⟩ (.int .u32 ((rd_T45 l0_3 x51_1).f0))).setCell ⟨gb530, 1, none⟩ (.int .i64 ((rd_T45 l0_3 x51_1).f1.f0))).setCell ⟨gb530, 2, none⟩ (.int .u64 ((rd_T45 l0_3 x51_1).f1.f1))).setCell ⟨gb530, 3, none⟩ (.int .u64 ((rd_T45 l0_3 x51_1).f1.f2))).heap[gb528]? = some (.cells #[.int .u32 x529000_1, .int .i64 x529001_1, .int .u64 x529002_1, .int .u64 x529003_1] 45 (0, 0))) := ⟨by (with_reducible repeat (first | refine blk_drewN ?_ _ | refine blk_drew ?_ | refine blk_alloc ?_ _)); refine blk_far ?_ NB528_530.out _; (with_reducible repeat (first | refine blk_drewN ?_ _ | refine blk_drew ?_ | refine blk_alloc ?_ _)); refine blk_far ?_ NB528_530.out _; (with_reducible repeat (first | refine blk_drewN ?_ _ | refine blk_drew ?_ | refine blk_alloc ?_ _)); refine blk_far ?_ NB528_530.out _; (with_reducible repeat (first | refine blk_drewN ?_ _ | refine blk_drew ?_ | refine blk_alloc ?_ _)); refine blk_far ?_ NB528_530.out _; (with_reducible repeat (first | refine blk_drewN ?_ _ | refine blk_drew ?_ | refine blk_alloc ?_ _)); exact BK528.out⟩
        have n3_ : Aside0 (((((w52.setCell ⟨gb530, 0, none⟩ (.int .u32 ((rd_T45 l0_3 x51_1).f0))).setCell ⟨gb530, 1, none⟩ (.int .i64 ((rd_T45 l0_3 x51_1).f1.f0))).setCell ⟨gb530, 2, none⟩ (.int .u64 ((rd_T45 l0_3 x51_1).f1.f1))).setCell ⟨gb530, 3, none⟩ (.int .u64 ((rd_T45 l0_3 x51_1).f1.f2))).heap[gb530]? = some (.cells #[.int .u32 ((rd_T45 l0_3 x51_1).f0), .int .i64 ((rd_T45 l0_3 x51_1).f1.f0), .int .u64 ((rd_T45 l0_3 x51_1).f1.f1), .int .u64 ((rd_T45 l0_3 x51_1).f1.f2)] 45 (0, 0))) := ⟨by (with_reducible repeat (first | refine blk_drewN ?_ _ | refine blk_drew ?_ | refine blk_alloc ?_ _)); refine blk_put (cs := #[.int .u32 ((rd_T45 l0_3 x51_1).f0), .int .i64 ((rd_T45 l0_3 x51_1).f1.f0), .int .u64 ((rd_T45 l0_3 x51_1).f1.f1), .int .u64 0]) ?_ 3 _ rfl; (with_reducible repeat (first | refine blk_drewN ?_ _ | refine blk_drew ?_ | refine blk_alloc ?_ _)); refine blk_put (cs := #[.int .u32 ((rd_T45 l0_3 x51_1).f0), .int .i64 ((rd_T45 l0_3 x51_1).f1.f0), .int .u64 0, .int .u64 0]) ?_ 2 _ rfl; (with_reducible repeat (first | refine blk_drewN ?_ _ | refine blk_drew ?_ | refine blk_alloc ?_ _)); refine blk_put (cs := #[.int .u32 ((rd_T45 l0_3 x51_1).f0), .int .i64 0, .int .u64 0, .int .u64 0]) ?_ 1 _ rfl; (with_reducible repeat (first | refine blk_drewN ?_ _ | refine blk_drew ?_ | refine blk_alloc ?_ _)); refine blk_put (cs := #[.int .u32 0, .int .i64 0, .int .u64 0, .int .u64 0]) ?_ 0 _ rfl; (with_reducible repeat (first | refine blk_drewN ?_ _ | refine blk_drew ?_ | refine blk_alloc ?_ _)); exact BK530.out⟩
        have n4_ : Aside0 (Below w.heap.size w ((((w52.setCell ⟨gb530, 0, none⟩ (.int .u32 ((rd_T45 l0_3 x51_1).f0))).setCell ⟨gb530, 1, none⟩ (.int .i64 ((rd_T45 l0_3 x51_1).f1.f0))).setCell ⟨gb530, 2, none⟩ (.int .u64 ((rd_T45 l0_3 x51_1).f1.f1))).setCell ⟨gb530, 3, none⟩ (.int .u64 ((rd_T45 l0_3 x51_1).f1.f2)))) := ⟨y15_⟩
        (try clear HO_5)
        (try clear BK501)
        (try clear BK528)
        (try clear BK530)
        (try clear HB)
        generalize ((((w52.setCell ⟨gb530, 0, none⟩ (.int .u32 ((rd_T45 l0_3 x51_1).f0))).setCell ⟨gb530, 1, none⟩ (.int .i64 ((rd_T45 l0_3 x51_1).f1.f0))).setCell ⟨gb530, 2, none⟩ (.int .u64 ((rd_T45 l0_3 x51_1).f1.f1))).setCell ⟨gb530, 3, none⟩ (.int .u64 ((rd_T45 l0_3 x51_1).f1.f2))) = w58 at n0_ n1_ n2_ n3_ n4_ ⊢
        have HO_5 := n0_
        have BK501 := n1_
        have BK528 := n2_
        have BK530 := n3_
        have HB := n4_
        clear n0_ n1_ n2_ n3_ n4_
        have n0_ := Aside0.mk (Kd.R_drew HO_5.out)
        have n1_ := Aside0.mk (blk_drew BK501.out)
        have n2_ := Aside0.mk (blk_drew BK528.out)
        have n3_ := Aside0.mk (blk_drew BK530.out)
        have n4_ := Aside0.mk (below_drew1 HB.out)
        clear HO_5
        clear BK501
        clear BK528
        clear BK530
        clear HB
        have HO_5 := n0_
        have BK501 := n1_
        have BK528 := n2_
        have BK530 := n3_
        have HB := n4_
        clear n0_ n1_ n2_ n3_ n4_
        refine start_ (n := 14) (S := fun w' => w'.cell? ⟨gb530, 0, none⟩ = some (.int .u32 ((rd_T45 l0_3 x51_1).f0)) ∧ w'.cell? ⟨gb530, 1, none⟩ = some (.int .i64 ((rd_T45 l0_3 x51_1).f1.f0)) ∧ w'.cell? ⟨gb530, 2, none⟩ = some (.int .u64 ((rd_T45 l0_3 x51_1).f1.f1)) ∧ w'.cell? ⟨gb530, 3, none⟩ = some (.int .u64 ((rd_T45 l0_3 x51_1).f1.f2))) (ds := []) #[false, false, false, false, false, false, false, false, false, false, false, false, false, false] (by kernel_rfl) rfl rfl ⟨(blk_cell BK530.out 0).trans rfl, (blk_cell BK530.out 1).trans rfl, (blk_cell BK530.out 2).trans rfl, (blk_cell BK530.out 3).trans rfl⟩ (fun hHeld => ?_); refine with_tabW manometerref13_Put.tab16 manometerref13_Put.bits16 (fun HT_ HW_ => ?_)
        generalize w58.drew = w59 at HO_5 BK501 BK528 BK530 HB hHeld ⊢
        refine pure_ (i := 0) (N := some 80) (v := ?_) (a' := ?_) #[true, false, false, false, false, false, false, false, false, false, false, false, false, false] rfl rfl (any_of HT_.out (by kernel_rfl)) (fun _ _ _ h => h) (Or.inl ⟨by rfl, ?_⟩) ?_ ?_
        rotate_left
        ·intro w'
         go_simp
         with_reducible rfl
        rotate_left
        ·simp only [Act.put, List.setIfInBounds_toArray, List.set_cons_zero, List.set_cons_succ, i64_w, i32_w]
         rfl
        refine pure_ (i := 1) (N := some 81) (v := ?_) (a' := ?_) #[true, true, false, false, false, false, false, false, false, false, false, false, false, false] rfl rfl (any_of HT_.out (by kernel_rfl)) (fun _ _ _ h => h) (Or.inl ⟨by rfl, ?_⟩) ?_ ?_
        rotate_left
        ·intro w'
         go_simp
         with_reducible rfl
        rotate_left
        ·simp only [Act.put, List.setIfInBounds_toArray, List.set_cons_zero, List.set_cons_succ, i64_w, i32_w]
         rfl
        refine pure_ (i := 3) (N := some 83) (v := ?_) (a' := ?_) #[true, true, false, true, false, false, false, false, false, false, false, false, false, false] rfl rfl (any_of HT_.out (by kernel_rfl)) (fun _ _ _ h => h) (Or.inl ⟨by rfl, ?_⟩) ?_ ?_
        rotate_left
        ·intro w'
         go_simp
         with_reducible rfl
        rotate_left
        ·simp only [Act.put, List.setIfInBounds_toArray, List.set_cons_zero, List.set_cons_succ, i64_w, i32_w]
         rfl
        refine pure_ (i := 5) (N := some 85) (v := ?_) (a' := ?_) #[true, true, false, true, false, true, false, false, false, false, false, false, false, false] rfl rfl (any_of HT_.out (by kernel_rfl)) (fun _ _ _ h => h) (Or.inl ⟨by rfl, ?_⟩) ?_ ?_
        rotate_left
        ·intro w'
         go_simp
         with_reducible rfl
        rotate_left
        ·simp only [Act.put, List.setIfInBounds_toArray, List.set_cons_zero, List.set_cons_succ, i64_w, i32_w]
         rfl
        refine pure_ (i := 7) (N := some 87) (v := ?_) (a' := ?_) #[true, true, false, true, false, true, false, true, false, false, false, false, false, false] rfl rfl (any_of HT_.out (by kernel_rfl)) (fun _ _ _ h => h) (Or.inl ⟨by rfl, ?_⟩) ?_ ?_
        rotate_left
        ·intro w'
         go_simp
         with_reducible rfl
        rotate_left
        ·simp only [Act.put, List.setIfInBounds_toArray, List.set_cons_zero, List.set_cons_succ, i64_w, i32_w]
         rfl
        refine pure_ (i := 8) (N := some 88) (v := ?_) (a' := ?_) #[true, true, false, true, false, true, false, true, true, false, false, false, false, false] rfl rfl (any_of HT_.out (by kernel_rfl)) (fun _ _ _ h => h) (Or.inl ⟨by rfl, ?_⟩) ?_ ?_
        rotate_left
        ·intro w'
         go_simp
         with_reducible rfl
        rotate_left
        ·simp only [Act.put, List.setIfInBounds_toArray, List.set_cons_zero, List.set_cons_succ, i64_w, i32_w]
         rfl
        refine take_ (i := 9) (N := some 89) (v := ?_) (a' := ?_) #[true, true, false, true, false, true, false, true, true, true, false, false, false, false] rfl rfl (take_ofW HT_.out HW_.out (by kernel_rfl)) (fun _ _ _ h => h) (Or.inl ⟨by rfl, ?_⟩) hHeld ?_ ?_
        rotate_left
        ·rintro w' ⟨s0, s1, s2, s3⟩
         go_simp
         with_reducible rfl
        rotate_left
        ·simp only [Act.put, List.setIfInBounds_toArray, List.set_cons_zero, List.set_cons_succ, i64_w, i32_w]
         rfl
        refine one_ (i := 2) (N := some 82) #[true, true, true, true, false, true, false, true, true, true, false, false, false, false] rfl rfl (one_of HT_.out (by kernel_rfl)) (by decide) (fun K hK => ?_)
        refine goes_ Tryd.func33 (by kernel_rfl) rfl #[.int .i64 (wrap64 ((wrap64 ((rd_T45 l0_3 x51_1).f0)) - (wrap64 (x529000_1))))] (by rfl) rfl rfl y2_ ?_
        with_reducible refine (manometerref01_PutVarint.calls k1 (wrap64 ((wrap64 ((rd_T45 l0_3 x51_1).f0)) - (wrap64 (x529000_1)))) t531 _ A47.out).mono ?_
        rintro e w60 ⟨v532, rfl, ho0, hb⟩
        refine ⟨_, rfl, ?_⟩
        have n0_ := Aside0.mk (Kd.R_elder' y26_ (Kd.R_base ho0) hb)
        have n1_ := Aside0.mk (Kd.R_lower (Kd.R_new' ho0 (Kd.R_lt y26_)) (below_size y15_))
        have n2_ := Aside0.mk (blk_below (g := gb501) (o := .cells #[.int .i64 a0_0, .int .u32 a0_1, .slice A0_2 l0_2.length c0_2, .slice (some ad529) l0_3.length c0_3] 29 (0, 0)) y14_ hb)
        have n3_ := Aside0.mk (blk_below (g := gb528) (o := .cells #[.int .u32 x529000_1, .int .i64 x529001_1, .int .u64 x529002_1, .int .u64 x529003_1] 45 (0, 0)) y34_ hb)
        have n4_ := Aside0.mk (blk_below (g := gb530) (o := .cells #[.int .u32 ((rd_T45 l0_3 x51_1).f0), .int .i64 ((rd_T45 l0_3 x51_1).f1.f0), .int .u64 ((rd_T45 l0_3 x51_1).f1.f1), .int .u64 ((rd_T45 l0_3 x51_1).f1.f2)] 45 (0, 0)) y44_ hb)
        have n5_ := Aside0.mk (below_step y15_ hb)
        clear HO_5
        clear BK501
        clear BK528
        clear BK530
        clear HB
        have HO_5 := n0_
        have HO533 := n1_
        have BK501 := n2_
        have BK528 := n3_
        have BK530 := n4_
        have HB := n5_
        clear n0_ n1_ n2_ n3_ n4_ n5_
        (try clear hb)
        (try clear hb2)
        (try clear hk)
        (try clear hi)
        (try clear ho0)
        refine hK.out _ _ ⟨(blk_cell BK530.out 0).trans rfl, (blk_cell BK530.out 1).trans rfl, (blk_cell BK530.out 2).trans rfl, (blk_cell BK530.out 3).trans rfl⟩ (fun hHeld => ?_)
        clear hK K
        refine norm_ (a' := ?_) ?_ ?_
        rotate_left
        ·show Act.put _ (some 82) _ = _
         simp only [Act.put, List.setIfInBounds_toArray, List.set_cons_zero, List.set_cons_succ, i64_w, i32_w]
         rfl
        refine one_ (i := 4) (N := some 84) #[true, true, true, true, true, true, false, true, true, true, false, false, false, false] rfl rfl (one_of HT_.out (by kernel_rfl)) (by decide) (fun K hK => ?_)
        refine goes_ Tryd.func33 (by kernel_rfl) rfl #[.int .i64 (wrap64 (IntKind.u64.wrap ((IntKind.u64.wrap ((rd_T45 l0_3 x51_1).f1.f0)) - (IntKind.u64.wrap (x529001_1)))))] (by rfl) rfl rfl y2_ ?_
        with_reducible refine (manometerref01_PutVarint.calls k1 (wrap64 (IntKind.u64.wrap ((IntKind.u64.wrap ((rd_T45 l0_3 x51_1).f1.f0)) - (IntKind.u64.wrap (x529001_1))))) t534 _ A48.out).mono ?_
        rintro e w61 ⟨v535, rfl, ho0, hb⟩
        refine ⟨_, rfl, ?_⟩
        have n0_ := Aside0.mk (Kd.R_elder' y26_ (Kd.R_base ho0) hb)
        have n1_ := Aside0.mk (Kd.R_elder' y49_ (Kd.R_base ho0) hb)
        have n2_ := Aside0.mk (Kd.R_lower (Kd.R_new' (Kd.R_new' ho0 (Kd.R_lt y26_)) (Kd.R_lt y49_)) (below_size y15_))
        have n3_ := Aside0.mk (blk_below (g := gb501) (o := .cells #[.int .i64 a0_0, .int .u32 a0_1, .slice A0_2 l0_2.length c0_2, .slice (some ad529) l0_3.length c0_3] 29 (0, 0)) y14_ hb)
        have n4_ := Aside0.mk (blk_below (g := gb528) (o := .cells #[.int .u32 x529000_1, .int .i64 x529001_1, .int .u64 x529002_1, .int .u64 x529003_1] 45 (0, 0)) y34_ hb)
        have n5_ := Aside0.mk (blk_below (g := gb530) (o := .cells #[.int .u32 ((rd_T45 l0_3 x51_1).f0), .int .i64 ((rd_T45 l0_3 x51_1).f1.f0), .int .u64 ((rd_T45 l0_3 x51_1).f1.f1), .int .u64 ((rd_T45 l0_3 x51_1).f1.f2)] 45 (0, 0)) y44_ hb)
        have n6_ := Aside0.mk (below_step y15_ hb)
        clear HO_5
        clear HO533
        clear BK501
        clear BK528
        clear BK530
        clear HB
        have HO_5 := n0_
        have HO533 := n1_
        have HO536 := n2_
        have BK501 := n3_
        have BK528 := n4_
        have BK530 := n5_
        have HB := n6_
        clear n0_ n1_ n2_ n3_ n4_ n5_ n6_
        (try clear hb)
        (try clear hb2)
        (try clear hk)
        (try clear hi)
        (try clear ho0)
        refine hK.out _ _ ⟨(blk_cell BK530.out 0).trans rfl, (blk_cell BK530.out 1).trans rfl, (blk_cell BK530.out 2).trans rfl, (blk_cell BK530.out 3).trans rfl⟩ (fun hHeld => ?_)
        clear hK K
        refine norm_ (a' := ?_) ?_ ?_
        rotate_left
        ·show Act.put _ (some 84) _ = _
         simp only [Act.put, List.setIfInBounds_toArray, List.set_cons_zero, List.set_cons_succ, i64_w, i32_w]
         rfl
        refine one_ (i := 6) (N := some 86) #[true, true, true, true, true, true, true, true, true, true, false, false, false, false] rfl rfl (one_of HT_.out (by kernel_rfl)) (by decide) (fun K hK => ?_)
        refine goes_ Tryd.func33 (by kernel_rfl) rfl #[.int .i64 (wrap64 (IntKind.u64.wrap (((rd_T45 l0_3 x51_1).f1.f2) - x529003_1)))] (by rfl) rfl rfl y2_ ?_
        with_reducible refine (manometerref01_PutVarint.calls k1 (wrap64 (IntKind.u64.wrap (((rd_T45 l0_3 x51_1).f1.f2) - x529003_1))) t537 _ A49.out).mono ?_
        rintro e w62 ⟨v538, rfl, ho0, hb⟩
        refine ⟨_, rfl, ?_⟩
        have n0_ := Aside0.mk (Kd.R_elder' y26_ (Kd.R_base ho0) hb)
        have n1_ := Aside0.mk (Kd.R_elder' y49_ (Kd.R_base ho0) hb)
        have n2_ := Aside0.mk (Kd.R_elder' y80_ (Kd.R_base ho0) hb)
        have n3_ := Aside0.mk (Kd.R_lower (Kd.R_new' (Kd.R_new' (Kd.R_new' ho0 (Kd.R_lt y26_)) (Kd.R_lt y49_)) (Kd.R_lt y80_)) (below_size y15_))
        have n4_ := Aside0.mk (blk_below (g := gb501) (o := .cells #[.int .i64 a0_0, .int .u32 a0_1, .slice A0_2 l0_2.length c0_2, .slice (some ad529) l0_3.length c0_3] 29 (0, 0)) y14_ hb)
        have n5_ := Aside0.mk (blk_below (g := gb528) (o := .cells #[.int .u32 x529000_1, .int .i64 x529001_1, .int .u64 x529002_1, .int .u64 x529003_1] 45 (0, 0)) y34_ hb)
        have n6_ := Aside0.mk (blk_below (g := gb530) (o := .cells #[.int .u32 ((rd_T45 l0_3 x51_1).f0), .int .i64 ((rd_T45 l0_3 x51_1).f1.f0), .int .u64 ((rd_T45 l0_3 x51_1).f1.f1), .int .u64 ((rd_T45 l0_3 x51_1).f1.f2)] 45 (0, 0)) y44_ hb)
        have n7_ := Aside0.mk (below_step y15_ hb)
        clear HO_5
        clear HO533
        clear HO536
        clear BK501
        clear BK528
        clear BK530
        clear HB
        have HO_5 := n0_
        have HO533 := n1_
        have HO536 := n2_
        have HO539 := n3_
        have BK501 := n4_
        have BK528 := n5_
        have BK530 := n6_
        have HB := n7_
        clear n0_ n1_ n2_ n3_ n4_ n5_ n6_ n7_
        (try clear hb)
        (try clear hb2)
        (try clear hk)
        (try clear hi)
        (try clear ho0)
        refine hK.out _ _ ⟨(blk_cell BK530.out 0).trans rfl, (blk_cell BK530.out 1).trans rfl, (blk_cell BK530.out 2).trans rfl, (blk_cell BK530.out 3).trans rfl⟩ (fun hHeld => ?_)
        clear hK K
        refine norm_ (a' := ?_) ?_ ?_
        rotate_left
        ·show Act.put _ (some 86) _ = _
         simp only [Act.put, List.setIfInBounds_toArray, List.set_cons_zero, List.set_cons_succ, i64_w, i32_w]
         rfl
        refine one_ (i := 10) (N := some 90) #[true, true, true, true, true, true, true, true, true, true, true, false, false, false] rfl rfl (one_of HT_.out (by kernel_rfl)) (by decide) (fun K hK => ?_)
        refine goes_ Tryd.func34 (by kernel_rfl) rfl #[.int .u64 ((rd_T45 l0_3 x51_1).f1.f1)] (by rfl) rfl rfl y2_ ?_
        with_reducible refine (manometerref01_Big.calls k1 ((rd_T45 l0_3 x51_1).f1.f1) t540 _ A50.out).mono ?_
        rintro e w63 ⟨v541, rfl, ho0, hb⟩
        refine ⟨_, rfl, ?_⟩
        have n0_ := Aside0.mk (Kd.R_elder' y26_ (Kd.R_base ho0) hb)
        have n1_ := Aside0.mk (Kd.R_elder' y49_ (Kd.R_base ho0) hb)
        have n2_ := Aside0.mk (Kd.R_elder' y80_ (Kd.R_base ho0) hb)
        have n3_ := Aside0.mk (Kd.R_elder' (by (with_reducible repeat (first | apply Kd.R_alloc | apply Kd.R_drewN | apply Kd.R_drew)); exact HO539.out) (Kd.R_base ho0) hb)
        have n4_ := Aside0.mk (Kd.R_lower (Kd.R_new' (Kd.R_new' (Kd.R_new' (Kd.R_new' ho0 (Kd.R_lt y26_)) (Kd.R_lt y49_)) (Kd.R_lt y80_)) (Kd.R_lt (by (with_reducible repeat (first | apply Kd.R_alloc | apply Kd.R_drewN | apply Kd.R_drew)); exact HO539.out))) (below_size y15_))
        have n5_ := Aside0.mk (blk_below (g := gb501) (o := .cells #[.int .i64 a0_0, .int .u32 a0_1, .slice A0_2 l0_2.length c0_2, .slice (some ad529) l0_3.length c0_3] 29 (0, 0)) y14_ hb)
        have n6_ := Aside0.mk (blk_below (g := gb528) (o := .cells #[.int .u32 x529000_1, .int .i64 x529001_1, .int .u64 x529002_1, .int .u64 x529003_1] 45 (0, 0)) y34_ hb)
        have n7_ := Aside0.mk (blk_below (g := gb530) (o := .cells #[.int .u32 ((rd_T45 l0_3 x51_1).f0), .int .i64 ((rd_T45 l0_3 x51_1).f1.f0), .int .u64 ((rd_T45 l0_3 x51_1).f1.f1), .int .u64 ((rd_T45 l0_3 x51_1).f1.f2)] 45 (0, 0)) y44_ hb)
        have n8_ := Aside0.mk (below_step y15_ hb)
        clear HO_5
        clear HO533
        clear HO536
        clear HO539
        clear BK501
        clear BK528
        clear BK530
        clear HB
        have HO_5 := n0_
        have HO533 := n1_
        have HO536 := n2_
        have HO539 := n3_
        have HO542 := n4_
        have BK501 := n5_
        have BK528 := n6_
        have BK530 := n7_
        have HB := n8_
        clear n0_ n1_ n2_ n3_ n4_ n5_ n6_ n7_ n8_
        (try clear hb)
        (try clear hb2)
        (try clear hk)
        (try clear hi)
        (try clear ho0)
        obtain ⟨Ao64, co64, eo64⟩ := Kd.R_slice HO_5.out
        (first | subst eo64 | (injection eo64 with f1_ f2_ f3_; have f4_ := f1_.symm; have f5_ := f3_.symm; clear f1_ f2_ f3_; subst f4_; subst f5_))
        obtain ⟨Ao65, co65, eo65⟩ := Kd.R_slice HO533.out
        (first | subst eo65 | (injection eo65 with f1_ f2_ f3_; have f4_ := f1_.symm; have f5_ := f3_.symm; clear f1_ f2_ f3_; subst f4_; subst f5_))
        obtain ⟨Ao66, co66, eo66⟩ := Kd.R_slice HO536.out
        (first | subst eo66 | (injection eo66 with f1_ f2_ f3_; have f4_ := f1_.symm; have f5_ := f3_.symm; clear f1_ f2_ f3_; subst f4_; subst f5_))
        obtain ⟨Ao67, co67, eo67⟩ := Kd.R_slice HO539.out
        (first | subst eo67 | (injection eo67 with f1_ f2_ f3_; have f4_ := f1_.symm; have f5_ := f3_.symm; clear f1_ f2_ f3_; subst f4_; subst f5_))
        obtain ⟨Ao68, co68, eo68⟩ := Kd.R_slice HO542.out
        (first | subst eo68 | (injection eo68 with f1_ f2_ f3_; have f4_ := f1_.symm; have f5_ := f3_.symm; clear f1_ f2_ f3_; subst f4_; subst f5_))
        refine hK.out _ _ ⟨(blk_cell BK530.out 0).trans rfl, (blk_cell BK530.out 1).trans rfl, (blk_cell BK530.out 2).trans rfl, (blk_cell BK530.out 3).trans rfl⟩ (fun hHeld => ?_)
        clear hK K
        refine norm_ (a' := ?_) ?_ ?_
        rotate_left
        ·show Act.put _ (some 90) _ = _
         simp only [Act.put, List.setIfInBounds_toArray, List.set_cons_zero, List.set_cons_succ, i64_w, i32_w]
         rfl
        refine one_ (i := 11) (N := some 91) #[true, true, true, true, true, true, true, true, true, true, true, true, false, false] rfl rfl (one_of HT_.out (by kernel_rfl)) (by decide) (fun K hK => ?_)
        refine Kd.N_lit_step (Kd.slice 5 (Kd.int .u8)) _ 22 ?hg (N' := 91) ?hd (xs := ([x5_1, t531, t534, t537, t540] : List (List Int))) (inner := [.slice Ao64 x5_1.length co64, .slice Ao65 t531.length co65, .slice Ao66 t534.length co66, .slice Ao67 t537.length co67, .slice Ao68 t540.length co68]) (ok := (fun k_ => k_ ≠ gb501 ∧ k_ ≠ gb528 ∧ k_ ≠ gb530)) (okp := (fun k_ => k_ ≠ gb501 ∧ k_ ≠ gb528 ∧ k_ ≠ gb530)) ?hr ?hp (fun _ hk => hk) ((show ∀ k_, w63.heap.size ≤ k_ → (fun k_ => k_ ≠ gb501 ∧ k_ ≠ gb528 ∧ k_ ≠ gb530) k_ from fun k_ hk => ⟨Kd.freshB (g := gb501) (o := .cells #[.int .i64 a0_0, .int .u32 a0_1, .slice A0_2 l0_2.length c0_2, .slice (some ad529) l0_3.length c0_3] 29 (0, 0)) y14_ k_ hk, Kd.freshB (g := gb528) (o := .cells #[.int .u32 x529000_1, .int .i64 x529001_1, .int .u64 x529002_1, .int .u64 x529003_1] 45 (0, 0)) y34_ k_ hk, Kd.freshB (g := gb530) (o := .cells #[.int .u32 ((rd_T45 l0_3 x51_1).f0), .int .i64 ((rd_T45 l0_3 x51_1).f1.f0), .int .u64 ((rd_T45 l0_3 x51_1).f1.f1), .int .u64 ((rd_T45 l0_3 x51_1).f1.f2)] 45 (0, 0)) y44_ k_ hk⟩) _ (Nat.le_refl _)) (Below.refl _ _) (Nat.le_refl _) (by simp) ?_; (case hd => rfl); (case hg => rfl); (case hr => first | (go_simp; done) | (go_simp; rfl)); (case hp => exact (Reps.one (show Kd.FK (Kd.slice 5 (Kd.int .u8)) _ _ x5_1 [.slice Ao64 x5_1.length co64] from (Kd.FK_slice_mk (Kd.R_reads' (Kd.R_mono (ok' := (fun k_ => k_ ≠ gb501 ∧ k_ ≠ gb528 ∧ k_ ≠ gb530)) (Kd.R_types (Kd.R_types (Kd.R_types (HO_5.out) BK501.out (by decide)) BK528.out (by decide)) BK530.out (by decide)) (fun k_ hk => ⟨hk.1.1.2, ⟨hk.1.2, hk.2⟩⟩))).2.1 (Kd.R_F (Kd.R_mono (ok' := (fun k_ => k_ ≠ gb501 ∧ k_ ≠ gb528 ∧ k_ ≠ gb530)) (Kd.R_types (Kd.R_types (Kd.R_types (HO_5.out) BK501.out (by decide)) BK528.out (by decide)) BK530.out (by decide)) (fun k_ hk => ⟨hk.1.1.2, ⟨hk.1.2, hk.2⟩⟩))))) (Reps.one (show Kd.FK (Kd.slice 5 (Kd.int .u8)) _ _ t531 [.slice Ao65 t531.length co65] from (Kd.FK_slice_mk (Kd.R_reads' (Kd.R_mono (ok' := (fun k_ => k_ ≠ gb501 ∧ k_ ≠ gb528 ∧ k_ ≠ gb530)) (Kd.R_types (Kd.R_types (Kd.R_types (HO533.out) BK501.out (by decide)) BK528.out (by decide)) BK530.out (by decide)) (fun k_ hk => ⟨hk.1.1.2, ⟨hk.1.2, hk.2⟩⟩))).2.1 (Kd.R_F (Kd.R_mono (ok' := (fun k_ => k_ ≠ gb501 ∧ k_ ≠ gb528 ∧ k_ ≠ gb530)) (Kd.R_types (Kd.R_types (Kd.R_types (HO533.out) BK501.out (by decide)) BK528.out (by decide)) BK530.out (by decide)) (fun k_ hk => ⟨hk.1.1.2, ⟨hk.1.2, hk.2⟩⟩))))) (Reps.one (show Kd.FK (Kd.slice 5 (Kd.int .u8)) _ _ t534 [.slice Ao66 t534.length co66] from (Kd.FK_slice_mk (Kd.R_reads' (Kd.R_mono (ok' := (fun k_ => k_ ≠ gb501 ∧ k_ ≠ gb528 ∧ k_ ≠ gb530)) (Kd.R_types (Kd.R_types (Kd.R_types (HO536.out) BK501.out (by decide)) BK528.out (by decide)) BK530.out (by decide)) (fun k_ hk => ⟨hk.1.1.2, ⟨hk.1.2, hk.2⟩⟩))).2.1 (Kd.R_F (Kd.R_mono (ok' := (fun k_ => k_ ≠ gb501 ∧ k_ ≠ gb528 ∧ k_ ≠ gb530)) (Kd.R_types (Kd.R_types (Kd.R_types (HO536.out) BK501.out (by decide)) BK528.out (by decide)) BK530.out (by decide)) (fun k_ hk => ⟨hk.1.1.2, ⟨hk.1.2, hk.2⟩⟩))))) (Reps.one (show Kd.FK (Kd.slice 5 (Kd.int .u8)) _ _ t537 [.slice Ao67 t537.length co67] from (Kd.FK_slice_mk (Kd.R_reads' (Kd.R_mono (ok' := (fun k_ => k_ ≠ gb501 ∧ k_ ≠ gb528 ∧ k_ ≠ gb530)) (Kd.R_types (Kd.R_types (Kd.R_types (HO539.out) BK501.out (by decide)) BK528.out (by decide)) BK530.out (by decide)) (fun k_ hk => ⟨hk.1.1.2, ⟨hk.1.2, hk.2⟩⟩))).2.1 (Kd.R_F (Kd.R_mono (ok' := (fun k_ => k_ ≠ gb501 ∧ k_ ≠ gb528 ∧ k_ ≠ gb530)) (Kd.R_types (Kd.R_types (Kd.R_types (HO539.out) BK501.out (by decide)) BK528.out (by decide)) BK530.out (by decide)) (fun k_ hk => ⟨hk.1.1.2, ⟨hk.1.2, hk.2⟩⟩))))) (Reps.one (show Kd.FK (Kd.slice 5 (Kd.int .u8)) _ _ t540 [.slice Ao68 t540.length co68] from (Kd.FK_slice_mk (Kd.R_reads' (Kd.R_mono (ok' := (fun k_ => k_ ≠ gb501 ∧ k_ ≠ gb528 ∧ k_ ≠ gb530)) (Kd.R_types (Kd.R_types (Kd.R_types (HO542.out) BK501.out (by decide)) BK528.out (by decide)) BK530.out (by decide)) (fun k_ hk => ⟨hk.1.1.2, ⟨hk.1.2, hk.2⟩⟩))).2.1 (Kd.R_F (Kd.R_mono (ok' := (fun k_ => k_ ≠ gb501 ∧ k_ ≠ gb528 ∧ k_ ≠ gb530)) (Kd.R_types (Kd.R_types (Kd.R_types (HO542.out) BK501.out (by decide)) BK528.out (by decide)) BK530.out (by decide)) (fun k_ hk => ⟨hk.1.1.2, ⟨hk.1.2, hk.2⟩⟩))))) (Reps.none _ _)))))))
        intro v544 w69 ho70 hb hg_ hnew_
        clear hg_ hnew_
        (first | rw [← Ny543.out] at ho70 | (simp only [Int.reduceToNat] at ho70; rw [← Ny543.out] at ho70))
        have n0_ := Aside0.mk (Kd.N_lower ho70 (below_size y15_))
        have n1_ := Aside0.mk (blk_below (g := gb501) (o := .cells #[.int .i64 a0_0, .int .u32 a0_1, .slice A0_2 l0_2.length c0_2, .slice (some ad529) l0_3.length c0_3] 29 (0, 0)) y14_ hb)
        have n2_ := Aside0.mk (blk_below (g := gb528) (o := .cells #[.int .u32 x529000_1, .int .i64 x529001_1, .int .u64 x529002_1, .int .u64 x529003_1] 45 (0, 0)) y34_ hb)
        have n3_ := Aside0.mk (blk_below (g := gb530) (o := .cells #[.int .u32 ((rd_T45 l0_3 x51_1).f0), .int .i64 ((rd_T45 l0_3 x51_1).f1.f0), .int .u64 ((rd_T45 l0_3 x51_1).f1.f1), .int .u64 ((rd_T45 l0_3 x51_1).f1.f2)] 45 (0, 0)) y44_ hb)
        have n4_ := Aside0.mk (below_step y15_ hb)
        clear BK501
        clear BK528
        clear BK530
        clear HB
        clear HO533
        clear HO536
        clear HO539
        clear HO542
        clear HO_5
        have HO545 := n0_
        have BK501 := n1_
        have BK528 := n2_
        have BK530 := n3_
        have HB := n4_
        clear n0_ n1_ n2_ n3_ n4_
        clear hb ho70
        obtain ⟨Ao71, co71, eo71⟩ := Kd.N_slice HO545.out
        (first | subst eo71 | (injection eo71 with f1_ f2_ f3_; have f4_ := f1_.symm; have f5_ := f3_.symm; clear f1_ f2_ f3_; subst f4_; subst f5_))
        refine hK.out _ _ ⟨(blk_cell BK530.out 0).trans rfl, (blk_cell BK530.out 1).trans rfl, (blk_cell BK530.out 2).trans rfl, (blk_cell BK530.out 3).trans rfl⟩ (fun hHeld => ?_)
        clear hK K
        refine norm_ (a' := ?_) ?_ ?_
        rotate_left
        ·show Act.put _ (some 91) _ = _
         simp only [Act.put, List.setIfInBounds_toArray, List.set_cons_zero, List.set_cons_succ, i64_w, i32_w]
         rfl
        refine one_ (i := 12) (N := some 92) #[true, true, true, true, true, true, true, true, true, true, true, true, true, false] rfl rfl (one_of HT_.out (by kernel_rfl)) (by decide) (fun K hK => ?_)
        refine goes_ Tryd.func20 (by kernel_rfl) rfl #[.slice Ao71 y543.length co71] (by rfl) rfl rfl y2_ ?_
        with_reducible refine (manometerref01_Join.calls k1 _ _ y543 t546 _ ?side1 ?side2 A51.out).mono ?_
        (case side1 => repeat (first | exact (Kd.N_reads' HO545.out).2.2 | (with_reducible refine Kd.C_alloc ?_ _) | (with_reducible refine Kd.C_drewN ?_ _) | (with_reducible refine Kd.C_drew ?_)))
        (case side2 => exact (Kd.N_reads' HO545.out).2.1)
        rintro e w72 ⟨v547, rfl, ho0, hb⟩
        refine ⟨_, rfl, ?_⟩
        have n0_ := Aside0.mk (Kd.N_elder' (by (with_reducible repeat (first | apply Kd.N_alloc | apply Kd.N_drewN | apply Kd.N_drew)); exact HO545.out) (Kd.R_base ho0) hb)
        have n1_ := Aside0.mk (Kd.R_lower ho0 (below_size y15_))
        have n2_ := Aside0.mk (blk_below (g := gb501) (o := .cells #[.int .i64 a0_0, .int .u32 a0_1, .slice A0_2 l0_2.length c0_2, .slice (some ad529) l0_3.length c0_3] 29 (0, 0)) y14_ hb)
        have n3_ := Aside0.mk (blk_below (g := gb528) (o := .cells #[.int .u32 x529000_1, .int .i64 x529001_1, .int .u64 x529002_1, .int .u64 x529003_1] 45 (0, 0)) y34_ hb)
        have n4_ := Aside0.mk (blk_below (g := gb530) (o := .cells #[.int .u32 ((rd_T45 l0_3 x51_1).f0), .int .i64 ((rd_T45 l0_3 x51_1).f1.f0), .int .u64 ((rd_T45 l0_3 x51_1).f1.f1), .int .u64 ((rd_T45 l0_3 x51_1).f1.f2)] 45 (0, 0)) y44_ hb)
        have n5_ := Aside0.mk (below_step y15_ hb)
        clear HO545
        clear BK501
        clear BK528
        clear BK530
        clear HB
        have HO545 := n0_
        have HO548 := n1_
        have BK501 := n2_
        have BK528 := n3_
        have BK530 := n4_
        have HB := n5_
        clear n0_ n1_ n2_ n3_ n4_ n5_
        (try clear hb)
        (try clear hb2)
        (try clear hk)
        (try clear hi)
        (try clear ho0)
        refine hK.out _ _ ⟨(blk_cell BK530.out 0).trans rfl, (blk_cell BK530.out 1).trans rfl, (blk_cell BK530.out 2).trans rfl, (blk_cell BK530.out 3).trans rfl⟩ (fun hHeld => ?_)
        clear hK K
        refine norm_ (a' := ?_) ?_ ?_
        rotate_left
        ·show Act.put _ (some 92) _ = _
         simp only [Act.put, List.setIfInBounds_toArray, List.set_cons_zero, List.set_cons_succ, i64_w, i32_w]
         rfl
        refine pure_ (i := 13) (N := some 5) (v := ?_) (a' := ?_) #[true, true, true, true, true, true, true, true, true, true, true, true, true, true] rfl rfl (any_of HT_.out (by kernel_rfl)) (fun _ _ _ h => h) (Or.inl ⟨by rfl, ?_⟩) ?_ ?_
        rotate_left
        ·intro w'
         go_simp
         with_reducible rfl
        rotate_left
        ·simp only [Act.put, List.setIfInBounds_toArray, List.set_cons_zero, List.set_cons_succ, i64_w, i32_w]
         rfl
        refine done_ (done_of HT_.out (by kernel_rfl)) ?_
        have hcz73_0 : w72.cell? ⟨gb530, 0, none⟩ = some (.int .u32 ((rd_T45 l0_3 x51_1).f0)) := (blk_cell BK530.out 0).trans rfl
        have hcz73_1 : w72.cell? ⟨gb530, 1, none⟩ = some (.int .i64 ((rd_T45 l0_3 x51_1).f1.f0)) := (blk_cell BK530.out 1).trans rfl
        have hcz73_2 : w72.cell? ⟨gb530, 2, none⟩ = some (.int .u64 ((rd_T45 l0_3 x51_1).f1.f1)) := (blk_cell BK530.out 2).trans rfl
        have hcz73_3 : w72.cell? ⟨gb530, 3, none⟩ = some (.int .u64 ((rd_T45 l0_3 x51_1).f1.f2)) := (blk_cell BK530.out 3).trans rfl
        have hfz73_0 := blk_frozen BK530.out 0
        have hfz73_1 := blk_frozen BK530.out 1
        have hfz73_2 := blk_frozen BK530.out 2
        have hfz73_3 := blk_frozen BK530.out 3
        have hcz74_0 : w72.cell? ⟨gb528, 0, none⟩ = some (.int .u32 x529000_1) := (blk_cell BK528.out 0).trans rfl
        have hcz74_1 : w72.cell? ⟨gb528, 1, none⟩ = some (.int .i64 x529001_1) := (blk_cell BK528.out 1).trans rfl
        have hcz74_2 : w72.cell? ⟨gb528, 2, none⟩ = some (.int .u64 x529002_1) := (blk_cell BK528.out 2).trans rfl
        have hcz74_3 : w72.cell? ⟨gb528, 3, none⟩ = some (.int .u64 x529003_1) := (blk_cell BK528.out 3).trans rfl
        have hfz74_0 := blk_frozen BK528.out 0
        have hfz74_1 := blk_frozen BK528.out 1
        have hfz74_2 := blk_frozen BK528.out 2
        have hfz74_3 := blk_frozen BK528.out 3
        try go_wp2
        go_roundg k1
        case measure => have := HK1.out; omega
        case rel => exact ⟨(t546), (wrap64 (x51_1 + 1)), ((rd_T45 l0_3 x51_1).f0), ((rd_T45 l0_3 x51_1).f1.f0), ((rd_T45 l0_3 x51_1).f1.f1), ((rd_T45 l0_3 x51_1).f1.f2), y8_, H', ⟨y79_⟩, ⟨by (with_reducible repeat (first | apply Kd.R_alloc | apply Kd.R_drewN | apply Kd.R_drew)); exact Kd.R_mono (Kd.R_far (p := ⟨gb528, 3, none⟩) (Kd.R_far (p := ⟨gb528, 2, none⟩) (Kd.R_far (p := ⟨gb528, 1, none⟩) (Kd.R_far (p := ⟨gb528, 0, none⟩) (Kd.R_types HO548.out BK528.out (by decide)) (fun _ hk => hk.2) (.int .u32 ((rd_T45 l0_3 x51_1).f0))) (fun _ hk => hk.2) (.int .i64 ((rd_T45 l0_3 x51_1).f1.f0))) (fun _ hk => hk.2) (.int .u64 ((rd_T45 l0_3 x51_1).f1.f1))) (fun _ hk => hk.2) (.int .u64 ((rd_T45 l0_3 x51_1).f1.f2))) (fun _ hk => trivial)⟩, ⟨by (with_reducible repeat (first | refine blk_drewN ?_ _ | refine blk_drew ?_ | refine blk_alloc ?_ _)); refine blk_far ?_ NB501_528.out _; (with_reducible repeat (first | refine blk_drewN ?_ _ | refine blk_drew ?_ | refine blk_alloc ?_ _)); refine blk_far ?_ NB501_528.out _; (with_reducible repeat (first | refine blk_drewN ?_ _ | refine blk_drew ?_ | refine blk_alloc ?_ _)); refine blk_far ?_ NB501_528.out _; (with_reducible repeat (first | refine blk_drewN ?_ _ | refine blk_drew ?_ | refine blk_alloc ?_ _)); refine blk_far ?_ NB501_528.out _; (with_reducible repeat (first | refine blk_drewN ?_ _ | refine blk_drew ?_ | refine blk_alloc ?_ _)); exact BK501.out⟩, ⟨by (with_reducible repeat (first | refine blk_drewN ?_ _ | refine blk_drew ?_ | refine blk_alloc ?_ _)); refine blk_put (cs := #[.int .u32 ((rd_T45 l0_3 x51_1).f0), .int .i64 ((rd_T45 l0_3 x51_1).f1.f0), .int .u64 ((rd_T45 l0_3 x51_1).f1.f1), .int .u64 x529003_1]) ?_ 3 _ rfl; (with_reducible repeat (first | refine blk_drewN ?_ _ | refine blk_drew ?_ | refine blk_alloc ?_ _)); refine blk_put (cs := #[.int .u32 ((rd_T45 l0_3 x51_1).f0), .int .i64 ((rd_T45 l0_3 x51_1).f1.f0), .int .u64 x529002_1, .int .u64 x529003_1]) ?_ 2 _ rfl; (with_reducible repeat (first | refine blk_drewN ?_ _ | refine blk_drew ?_ | refine blk_alloc ?_ _)); refine blk_put (cs := #[.int .u32 ((rd_T45 l0_3 x51_1).f0), .int .i64 x529001_1, .int .u64 x529002_1, .int .u64 x529003_1]) ?_ 1 _ rfl; (with_reducible repeat (first | refine blk_drewN ?_ _ | refine blk_drew ?_ | refine blk_alloc ?_ _)); refine blk_put (cs := #[.int .u32 x529000_1, .int .i64 x529001_1, .int .u64 x529002_1, .int .u64 x529003_1]) ?_ 0 _ rfl; (with_reducible repeat (first | refine blk_drewN ?_ _ | refine blk_drew ?_ | refine blk_alloc ?_ _)); exact BK528.out⟩, ⟨y15_⟩⟩
       ·rw [if_neg c46] at H
        exact absurd H (by simp)
      ·rw [if_neg c45] at H
       exact absurd H (by simp)
     ·rw [if_neg c44] at H
      have c44b0 : decide (x51_1 < (l0_3.length : Int)) = false := decide_eq_false c44
      clear c44
      simp only [Option.some.injEq, Prod.mk.injEq] at H
      obtain ⟨rfl, rfl⟩ := H
      go_wp2
      go_ret2
      exact ⟨_, y6_, y26_, y42_⟩
 ·rw [if_neg c3] at H
  have c3b0 : (t502 == 0) = false := beq_eq_false_iff_ne.mpr c3
  have c3b1 : (t502 != 0) = true := bne_iff_ne.mpr c3
  simp only [Option.some.injEq, Prod.mk.injEq] at H
  obtain ⟨rfl, rfl⟩ := H
  go_enter Tryd.func14, Tryd.ntmps14
  go_wp2_with (first | ((with_reducible refine gate_dst (N := 1) rfl ?_); refine box_event ?hg (N := 1) ?hd (cs := #[.int .i64 a0_0, .int .u32 a0_1, .slice A0_2 l0_2.length c0_2, .slice A0_3 l0_3.length c0_3]) (t := 29) ?hr ?_; (case hd => rfl); (case hg => rfl); (case hr => first | (go_simp; done) | (go_simp; rfl)); intro gb501 hg w75 hbox hb; have n0_ := Aside0.mk (below_step y1_ hb); have n1_ := Aside0.mk (hbox); have n2_ := Aside0.mk ((y13_ : w.heap.size ≤ gb501)); have n3_ := Aside0.mk ((y13_ : w.heap.size ≤ gb501)); clear HB; have HB := n0_; have BK501 := n1_; have GW501 := n2_; have GE501 := n3_; clear n0_ n1_ n2_ n3_; clear hb hbox hg; have hcz76_0 : w75.cell? ⟨gb501, 0, none⟩ = some (.int .i64 a0_0) := (blk_cell BK501.out 0).trans rfl; have hcz76_1 : w75.cell? ⟨gb501, 1, none⟩ = some (.int .u32 a0_1) := (blk_cell BK501.out 1).trans rfl; have hcz76_2 : w75.cell? ⟨gb501, 2, none⟩ = some (.slice A0_2 l0_2.length c0_2) := (blk_cell BK501.out 2).trans rfl; have hcz76_3 : w75.cell? ⟨gb501, 3, none⟩ = some (.slice A0_3 l0_3.length c0_3) := (blk_cell BK501.out 3).trans rfl; have hfz76_0 := blk_frozen BK501.out 0; have hfz76_1 := blk_frozen BK501.out 1; have hfz76_2 := blk_frozen BK501.out 2; have hfz76_3 := blk_frozen BK501.out 3) | ((with_reducible refine gate_callee (f := 17) rfl ?_); refine goesL_ (some 15) rfl rfl Tryd.func17 (by kernel_rfl) rfl #[.agg #[.int .i64 a0_0, .int .u32 a0_1, .slice A0_2 l0_2.length c0_2, .slice A0_3 l0_3.length c0_3]] rfl y2_ ?_; (with_reducible refine (manometerref13_Check.calls k a0_0 a0_1 _ _ l0_2 _ _ l0_3 t502 _ ?side1 ?side2 ?side3 ?side4 A2.out).mono ?_); (case side1 => repeat (first | exact (Kd.C_below HR0_2.out HB.out) | (with_reducible refine Kd.C_alloc ?_ _) | (with_reducible refine Kd.C_drewN ?_ _) | (with_reducible refine Kd.C_drew ?_))); (case side2 => exact HC0_2.out); (case side3 => repeat (first | exact (Kd.C_below HR0_3.out HB.out) | (with_reducible refine Kd.C_alloc ?_ _) | (with_reducible refine Kd.C_drewN ?_ _) | (with_reducible refine Kd.C_drew ?_))); (case side4 => exact HC0_3.out); rintro e w77 ⟨rfl, hb⟩; refine ⟨_, rfl, ?_⟩; have n0_ := Aside0.mk (blk_below (g := gb501) (o := .cells #[.int .i64 a0_0, .int .u32 a0_1, .slice A0_2 l0_2.length c0_2, .slice A0_3 l0_3.length c0_3] 29 (0, 0)) y14_ hb); have n1_ := Aside0.mk (below_step y10_ hb); clear BK501; clear HB; have BK501 := n0_; have HB := n1_; clear n0_ n1_; (try clear hb); (try clear hb2); (try clear hk); (try clear hi)))
  go_ret2
  exact ⟨_, y6_, y16_, y10_⟩
def record_Size.f (k : Nat) (a0_0 : Int) (a0_1 : Int) (l0_2 : List (S52)) (l0_3 : List (S45)) : Option (Int) := (record_Put.f k a0_0 a0_1 l0_2 l0_3).bind fun bt550 => (some (bt550.1.length : Int))
set_option maxHeartbeats 8000000 in
set_option maxRecDepth 100000 in
theorem record_Size.calls (k : Nat) (a0_0 : Int) (a0_1 : Int) (A0_2 : Option Addr) (c0_2 : Nat) (l0_2 : List (S52)) (A0_3 : Option Addr) (c0_3 : Nat) (l0_3 : List (S45)) (r : Int) (w : World) (hT : Aside0 (Tab w)) (hr0_2 : Kd.C k52 w A0_2 l0_2.length l0_2) (hc0_2 : l0_2.length ≤ c0_2) (hr0_3 : Kd.C k45 w A0_3 l0_3.length l0_3) (hc0_3 : l0_3.length ≤ c0_3) (h : record_Size.f k a0_0 a0_1 l0_2 l0_3 = some r) :
  Calls Tryd.prog 18 #[.agg #[.int .i64 a0_0, .int .u32 a0_1, .slice A0_2 l0_2.length c0_2, .slice A0_3 l0_3.length c0_3]] w fun e w' => e = .returned (.int .i64 r) ∧ Below w.heap.size w w' := by
 have hu29 := Tryd.underlying29
 have HR0_2 := Aside0.mk hr0_2
 have HC0_2 := Aside0.mk hc0_2
 clear hr0_2 hc0_2
 have HR0_3 := Aside0.mk hr0_3
 have HC0_3 := Aside0.mk hc0_3
 clear hr0_3 hc0_3
 have HB := Aside0.mk (Below.refl w.heap.size w)
 have H : ((record_Put.f k a0_0 a0_1 l0_2 l0_3).bind fun bt550 => (some (bt550.1.length : Int))) = some r := h
 clear h
 replace H := Option.bind_eq_some_iff.mp H
 obtain ⟨⟨t550, t553⟩, A20, H⟩ := H
 replace H : (some (t550.length : Int)) = some r := H
 have A2 := Aside0.mk A20
 clear A20
 obtain rfl := Option.some.inj H
 go_enter Tryd.func18, Tryd.ntmps18
 go_wp2_with (first | ((with_reducible refine gate_dst (N := 1) rfl ?_); refine box_event ?hg (N := 1) ?hd (cs := #[.int .i64 a0_0, .int .u32 a0_1, .slice A0_2 l0_2.length c0_2, .slice A0_3 l0_3.length c0_3]) (t := 29) ?hr ?_; (case hd => rfl); (case hg => rfl); (case hr => first | (go_simp; done) | (go_simp; rfl)); intro gb549 hg w3 hbox hb; have n0_ := Aside0.mk (below_step y1_ hb); have n1_ := Aside0.mk (hbox); have n2_ := Aside0.mk ((y13_ : w.heap.size ≤ gb549)); have n3_ := Aside0.mk ((y13_ : w.heap.size ≤ gb549)); clear HB; have HB := n0_; have BK549 := n1_; have GW549 := n2_; have GE549 := n3_; clear n0_ n1_ n2_ n3_; clear hb hbox hg; have hcz4_0 : w3.cell? ⟨gb549, 0, none⟩ = some (.int .i64 a0_0) := (blk_cell BK549.out 0).trans rfl; have hcz4_1 : w3.cell? ⟨gb549, 1, none⟩ = some (.int .u32 a0_1) := (blk_cell BK549.out 1).trans rfl; have hcz4_2 : w3.cell? ⟨gb549, 2, none⟩ = some (.slice A0_2 l0_2.length c0_2) := (blk_cell BK549.out 2).trans rfl; have hcz4_3 : w3.cell? ⟨gb549, 3, none⟩ = some (.slice A0_3 l0_3.length c0_3) := (blk_cell BK549.out 3).trans rfl; have hfz4_0 := blk_frozen BK549.out 0; have hfz4_1 := blk_frozen BK549.out 1; have hfz4_2 := blk_frozen BK549.out 2; have hfz4_3 := blk_frozen BK549.out 3) | ((with_reducible refine gate_callee (f := 13) rfl ?_); refine goesL_ (some 7) rfl rfl Tryd.func13 (by kernel_rfl) rfl #[.agg #[.int .i64 a0_0, .int .u32 a0_1, .slice A0_2 l0_2.length c0_2, .slice A0_3 l0_3.length c0_3]] rfl y2_ ?_; (with_reducible refine (record_Put.calls k a0_0 a0_1 _ _ l0_2 _ _ l0_3 t550 t553 _ ?side1 ?side2 ?side3 ?side4 ?side5 A2.out).mono ?_); (case side1 => exact ⟨Tab_below hT.out y61_⟩); (case side2 => repeat (first | exact (Kd.C_below HR0_2.out HB.out) | (with_reducible refine Kd.C_alloc ?_ _) | (with_reducible refine Kd.C_drewN ?_ _) | (with_reducible refine Kd.C_drew ?_))); (case side3 => exact HC0_2.out); (case side4 => repeat (first | exact (Kd.C_below HR0_3.out HB.out) | (with_reducible refine Kd.C_alloc ?_ _) | (with_reducible refine Kd.C_drewN ?_ _) | (with_reducible refine Kd.C_drew ?_))); (case side5 => exact HC0_3.out); rintro e w5 ⟨v551, rfl, ho0, hb⟩; refine ⟨_, rfl, ?_⟩; have n0_ := Aside0.mk (Kd.R_lower ho0 (below_size y61_)); have n1_ := Aside0.mk (blk_below (g := gb549) (o := .cells #[.int .i64 a0_0, .int .u32 a0_1, .slice A0_2 l0_2.length c0_2, .slice A0_3 l0_3.length c0_3] 29 (0, 0)) (by (with_reducible repeat (first | refine blk_drewN ?_ _ | refine blk_drew ?_ | refine blk_alloc ?_ _)); exact BK549.out) hb); have n2_ := Aside0.mk (below_step y61_ hb); clear BK549; clear HB; have HO552 := n0_; have BK549 := n1_; have HB := n2_; clear n0_ n1_ n2_; (try clear hb); (try clear hb2); (try clear hk); (try clear hi); (try clear ho0); obtain ⟨Ao6, co6, eo6⟩ := Kd.R_slice HO552.out; subst eo6))
 go_ret
 exact ⟨y6_, y61_⟩
end Go.Proofs.YtdckhaejhfkkbaaDoor.PRT
