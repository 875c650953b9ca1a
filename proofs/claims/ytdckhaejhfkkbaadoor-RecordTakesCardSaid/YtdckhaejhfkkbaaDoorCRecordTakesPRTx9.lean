import Derived.Test.YtdckhaejhfkkbaaDoorCRecordTakesPRTx0
import Derived.Test.YtdckhaejhfkkbaaDoorCRecordTakesPRTx21
import Derived.Test.YtdckhaejhfkkbaaDoorCRecordTakesPRTx6
import Derived.Test.YtdckhaejhfkkbaaDoorCRecordTakesPRTx8
import Derived.Test.YtdckhaejhfkkbaaDoorCRecordTakesQ2
import Derived.Test.YtdckhaejhfkkbaaDoorCRecordTakesY
namespace Go.Proofs.YtdckhaejhfkkbaaDoor.PRT
open Go.RowKit Go.Proofs.YtdckhaejhfkkbaaDoorW.PrintWords Go.Proofs.YtdckhaejhfkkbaaDoorW.PrintLast Go.Proofs.YtdckhaejhfkkbaaDoorW.PrintMore
attribute [local go_sem] max2_int min2_int max_two min_two max_three min_three max_four min_four
set_option linter.unusedVariables false
set_option linter.unusedSimpArgs false
attribute [local go_sem high] eqA45
def manometerlaw13_live.f (k : Nat)  : Option (Bool) := (record_Put.f k 1 1 (([(⟨(⟨#[97]⟩ : ByteArray), (⟨#[120]⟩ : ByteArray)⟩ : S52)] : List (S52))) ([] : List (S45))).bind fun bt212 => ((record_Take.f k (([2, 1, 2, 10, 2, 0, 0, 0, 0, 0, 0, 0, 0] : List Int))).bind fun bt219 => (if bt212.2 = 0 then ((manometerref01_Equal.f k bt212.1 (([1, 1, 1, 1, 97, 1, 120] : List Int))).bind fun t232 => (if t232 = true then (if bt219.2.2.2.2 = 0 then (if (bt219.2.2.2.1.length : Int) = 1 then (if 0 < (bt219.2.2.2.1.length : Int) then (some (((rd_T45 bt219.2.2.2.1 0).f0) == 1 && ((((rd_T45 bt219.2.2.2.1 0).f1.f0) == 5 && (((rd_T45 bt219.2.2.2.1 0).f1.f1) == 0 && (((rd_T45 bt219.2.2.2.1 0).f1.f2) == 1)))))) else (none)) else (some false)) else (some false)) else (some false))) else (some false)))
theorem manometerlaw13_live.mono : ∀ k, LeO (manometerlaw13_live.f k ) (manometerlaw13_live.f (k + 1) ) := by
 intro  k
 unfold manometerlaw13_live.f
 repeat' first
   | (with_reducible exact manometerref01_Equal.mono _ _ _)
   | (with_reducible exact record_Put.mono _ _ _ _ _)
   | (with_reducible exact record_Take.mono _ _)
   | (with_reducible exact LeO.refl _)
   | (with_reducible exact LeO.none _)
   | (with_reducible refine LeO.ite ?_ ?_)
   | (with_reducible refine LeO.bind ?_ (fun _ => ?_))
   | exact manometerref01_Equal.mono _ _ _
   | exact record_Put.mono _ _ _ _ _
   | exact record_Take.mono _ _
   | exact LeO.none _
   | refine LeO.ite ?_ ?_
   | refine LeO.bind ?_ (fun _ => ?_)
set_option maxHeartbeats 8000000 in
set_option maxRecDepth 100000 in
theorem manometerlaw13_live.calls (k : Nat)  (r : Bool) (w : World) (hT : Aside0 (Tab w)) (h : manometerlaw13_live.f k  = some r) :
  Calls Tryd.prog 8 #[] w fun e w' => e = .returned (.bool r) ∧ Below w.heap.size w w' := by
 have hu52 := Tryd.underlying52
 have hu29 := Tryd.underlying29
 have hu45 := Tryd.underlying45
 have hu43 := Tryd.underlying43
 have HB := Aside0.mk (Below.refl w.heap.size w)
 have H : ((record_Put.f k 1 1 (([(⟨(⟨#[97]⟩ : ByteArray), (⟨#[120]⟩ : ByteArray)⟩ : S52)] : List (S52))) ([] : List (S45))).bind fun bt212 => ((record_Take.f k (([2, 1, 2, 10, 2, 0, 0, 0, 0, 0, 0, 0, 0] : List Int))).bind fun bt219 => (if bt212.2 = 0 then ((manometerref01_Equal.f k bt212.1 (([1, 1, 1, 1, 97, 1, 120] : List Int))).bind fun t232 => (if t232 = true then (if bt219.2.2.2.2 = 0 then (if (bt219.2.2.2.1.length : Int) = 1 then (if 0 < (bt219.2.2.2.1.length : Int) then (some (((rd_T45 bt219.2.2.2.1 0).f0) == 1 && ((((rd_T45 bt219.2.2.2.1 0).f1.f0) == 5 && (((rd_T45 bt219.2.2.2.1 0).f1.f1) == 0 && (((rd_T45 bt219.2.2.2.1 0).f1.f2) == 1)))))) else (none)) else (some false)) else (some false)) else (some false))) else (some false)))) = some r := h
 clear h
 obtain ⟨y209, hy209⟩ : ∃ y_ : List (S52), y_ = (([(⟨(⟨#[97]⟩ : ByteArray), (⟨#[120]⟩ : ByteArray)⟩ : S52)] : List (S52))) := ⟨_, rfl⟩
 replace H : ((record_Put.f k 1 1 y209 ([] : List (S45))).bind fun bt212 => ((record_Take.f k (([2, 1, 2, 10, 2, 0, 0, 0, 0, 0, 0, 0, 0] : List Int))).bind fun bt219 => (if bt212.2 = 0 then ((manometerref01_Equal.f k bt212.1 (([1, 1, 1, 1, 97, 1, 120] : List Int))).bind fun t232 => (if t232 = true then (if bt219.2.2.2.2 = 0 then (if (bt219.2.2.2.1.length : Int) = 1 then (if 0 < (bt219.2.2.2.1.length : Int) then (some (((rd_T45 bt219.2.2.2.1 0).f0) == 1 && ((((rd_T45 bt219.2.2.2.1 0).f1.f0) == 5 && (((rd_T45 bt219.2.2.2.1 0).f1.f1) == 0 && (((rd_T45 bt219.2.2.2.1 0).f1.f2) == 1)))))) else (none)) else (some false)) else (some false)) else (some false))) else (some false)))) = some r := by first | (rw [hy209]; with_reducible exact H) | (have H2_ := (Option.bind_some _ _).symm.trans H; rw [hy209]; with_reducible exact H2_) | (have H2_ := (Option.bind_some _ _).symm.trans H; with_reducible exact H2_) | with_reducible exact H | (rw [hy209]; exact H) | exact H
 have Ny209 := Aside0.mk hy209
 clear hy209
 replace H := Option.bind_eq_some_iff.mp H
 obtain ⟨⟨t212, t215⟩, A10, H⟩ := H
 replace H : ((record_Take.f k (([2, 1, 2, 10, 2, 0, 0, 0, 0, 0, 0, 0, 0] : List Int))).bind fun bt219 => (if t215 = 0 then ((manometerref01_Equal.f k t212 (([1, 1, 1, 1, 97, 1, 120] : List Int))).bind fun t232 => (if t232 = true then (if bt219.2.2.2.2 = 0 then (if (bt219.2.2.2.1.length : Int) = 1 then (if 0 < (bt219.2.2.2.1.length : Int) then (some (((rd_T45 bt219.2.2.2.1 0).f0) == 1 && ((((rd_T45 bt219.2.2.2.1 0).f1.f0) == 5 && (((rd_T45 bt219.2.2.2.1 0).f1.f1) == 0 && (((rd_T45 bt219.2.2.2.1 0).f1.f2) == 1)))))) else (none)) else (some false)) else (some false)) else (some false))) else (some false))) = some r := H
 have A1 := Aside0.mk A10
 clear A10
 obtain ⟨y216, hy216⟩ : ∃ y_ : List Int, y_ = (([2, 1, 2, 10, 2, 0, 0, 0, 0, 0, 0, 0, 0] : List Int)) := ⟨_, rfl⟩
 replace H : ((record_Take.f k y216).bind fun bt219 => (if t215 = 0 then ((manometerref01_Equal.f k t212 (([1, 1, 1, 1, 97, 1, 120] : List Int))).bind fun t232 => (if t232 = true then (if bt219.2.2.2.2 = 0 then (if (bt219.2.2.2.1.length : Int) = 1 then (if 0 < (bt219.2.2.2.1.length : Int) then (some (((rd_T45 bt219.2.2.2.1 0).f0) == 1 && ((((rd_T45 bt219.2.2.2.1 0).f1.f0) == 5 && (((rd_T45 bt219.2.2.2.1 0).f1.f1) == 0 && (((rd_T45 bt219.2.2.2.1 0).f1.f2) == 1)))))) else (none)) else (some false)) else (some false)) else (some false))) else (some false))) = some r := by first | (rw [hy216]; with_reducible exact H) | (have H2_ := (Option.bind_some _ _).symm.trans H; rw [hy216]; with_reducible exact H2_) | (have H2_ := (Option.bind_some _ _).symm.trans H; with_reducible exact H2_) | with_reducible exact H | (rw [hy216]; exact H) | exact H
 have Ny216 := Aside0.mk hy216
 clear hy216
 replace H := Option.bind_eq_some_iff.mp H
 obtain ⟨⟨t219, t220, t221, t224, t227⟩, A20, H⟩ := H
 replace H : (if t215 = 0 then ((manometerref01_Equal.f k t212 (([1, 1, 1, 1, 97, 1, 120] : List Int))).bind fun t232 => (if t232 = true then (if t227 = 0 then (if (t224.length : Int) = 1 then (if 0 < (t224.length : Int) then (some (((rd_T45 t224 0).f0) == 1 && ((((rd_T45 t224 0).f1.f0) == 5 && (((rd_T45 t224 0).f1.f1) == 0 && (((rd_T45 t224 0).f1.f2) == 1)))))) else (none)) else (some false)) else (some false)) else (some false))) else (some false)) = some r := H
 have A2 := Aside0.mk A20
 clear A20
 by_cases c3 : t215 = 0
 ·rw [if_pos c3] at H
  have c3b0 : (t215 == 0) = true := beq_iff_eq.mpr c3
  have c3b1 : (t215 != 0) = false := bne_eq_false_iff_eq.mpr c3
  clear c3
  obtain ⟨y229, hy229⟩ : ∃ y_ : List Int, y_ = (([1, 1, 1, 1, 97, 1, 120] : List Int)) := ⟨_, rfl⟩
  replace H : ((manometerref01_Equal.f k t212 y229).bind fun t232 => (if t232 = true then (if t227 = 0 then (if (t224.length : Int) = 1 then (if 0 < (t224.length : Int) then (some (((rd_T45 t224 0).f0) == 1 && ((((rd_T45 t224 0).f1.f0) == 5 && (((rd_T45 t224 0).f1.f1) == 0 && (((rd_T45 t224 0).f1.f2) == 1)))))) else (none)) else (some false)) else (some false)) else (some false))) = some r := by first | (rw [hy229]; with_reducible exact H) | (have H2_ := (Option.bind_some _ _).symm.trans H; rw [hy229]; with_reducible exact H2_) | (have H2_ := (Option.bind_some _ _).symm.trans H; with_reducible exact H2_) | with_reducible exact H | (rw [hy229]; exact H) | exact H
  have Ny229 := Aside0.mk hy229
  clear hy229
  replace H := Option.bind_eq_some_iff.mp H
  obtain ⟨t232, A40, H⟩ := H
  replace H : (if t232 = true then (if t227 = 0 then (if (t224.length : Int) = 1 then (if 0 < (t224.length : Int) then (some (((rd_T45 t224 0).f0) == 1 && ((((rd_T45 t224 0).f1.f0) == 5 && (((rd_T45 t224 0).f1.f1) == 0 && (((rd_T45 t224 0).f1.f2) == 1)))))) else (none)) else (some false)) else (some false)) else (some false)) = some r := H
  have A4 := Aside0.mk A40
  clear A40
  by_cases c5 : t232 = true
  ·subst c5
   have H1 : (if t227 = 0 then (if (t224.length : Int) = 1 then (if 0 < (t224.length : Int) then (some (((rd_T45 t224 0).f0) == 1 && ((((rd_T45 t224 0).f1.f0) == 5 && (((rd_T45 t224 0).f1.f1) == 0 && (((rd_T45 t224 0).f1.f2) == 1)))))) else (none)) else (some false)) else (some false)) = some r := by rw [if_pos rfl] at H; exact H
   clear H
   have H := H1
   clear H1
   by_cases c6 : t227 = 0
   ·rw [if_pos c6] at H
    have c6b0 : (t227 == 0) = true := beq_iff_eq.mpr c6
    have c6b1 : (t227 != 0) = false := bne_eq_false_iff_eq.mpr c6
    clear c6
    by_cases c7 : (t224.length : Int) = 1
    ·rw [if_pos c7] at H
     have c7b0 : ((t224.length : Int) == 1) = true := beq_iff_eq.mpr c7
     have c7b1 : ((t224.length : Int) != 1) = false := bne_eq_false_iff_eq.mpr c7
     clear c7
     by_cases c8 : 0 < (t224.length : Int)
     ·rw [if_pos c8] at H
      have c8b0 : decide (0 < (t224.length : Int)) = true := decide_eq_true c8
      have c8b1 : decide (0 < t224.length) = true := decide_eq_true (by omega)
      clear c8
      obtain rfl := Option.some.inj H
      go_enter Tryd.func8, Tryd.ntmps8
      go_wp2_with (first | ((with_reducible refine gate_dst (N := 7) rfl ?_); (try (refine gate_guard (by rfl) ?_; dsimp only)); refine Kd.R_lit k52 _ 52 ?hg (N := 7) ?hd (xs := ([(⟨(⟨#[97]⟩ : ByteArray), (⟨#[120]⟩ : ByteArray)⟩ : S52)] : List (S52))) (inner := [.string (⟨#[97]⟩ : ByteArray), .string (⟨#[120]⟩ : ByteArray)]) (ok := fun _ => True) (okp := fun _ => True) ?hr ?hp (fun _ hk => hk) trivial (Below.refl _ _) (Nat.le_refl _) (by simp) ?_; (case hd => rfl); (case hg => rfl); (case hr => first | (go_simp; done) | (go_simp; rfl)); (case hp => exact (Reps.c2 (show Kd.M k52 _ _ _ (⟨(⟨#[97]⟩ : ByteArray), (⟨#[120]⟩ : ByteArray)⟩ : S52) [.string (⟨#[97]⟩ : ByteArray), .string (⟨#[120]⟩ : ByteArray)] from (k52_mkM _ _ _ (⟨(⟨#[97]⟩ : ByteArray), (⟨#[120]⟩ : ByteArray)⟩ : S52) )) (Reps.none _ _))); intro v210 w9 ho10 hb hg_ hnew_; clear hg_ hnew_; (first | rw [← Ny209.out] at ho10 | (simp only [Int.reduceToNat] at ho10; rw [← Ny209.out] at ho10)); have n0_ := Aside0.mk (Kd.R_lower ho10 (below_size y1_)); have n1_ := Aside0.mk (below_step y1_ hb); clear HB; have HO211 := n0_; have HB := n1_; clear n0_ n1_; clear hb ho10; obtain ⟨Ao11, co11, eo11⟩ := Kd.R_slice HO211.out; subst eo11) | ((with_reducible refine gate_callee (f := 13) rfl ?_); refine goesL_ (some 9) rfl rfl Tryd.func13 (by kernel_rfl) rfl #[.agg #[.int .i64 1, .int .u32 1, .slice Ao11 y209.length co11, .slice none 0 0]] rfl y3_ ?_; (refine (record_Put.calls k 1 1 _ _ y209 _ _ ([] : List (S45)) t212 t215 _ ?side1 ?side2 ?side3 ?side4 ?side5 A1.out).mono ?_); (case side1 => exact ⟨Tab_below hT.out y1_⟩); (case side2 => repeat (first | exact (Kd.R_reads' HO211.out).2.2 | (with_reducible refine Kd.C_alloc ?_ _) | (with_reducible refine Kd.C_drewN ?_ _) | (with_reducible refine Kd.C_drew ?_))); (case side3 => exact (Kd.R_reads' HO211.out).2.1); (case side4 => exact Kd.C_nil _ _); (case side5 => exact Nat.le_refl _); rintro e w12 ⟨v213, rfl, ho0, hb⟩; refine ⟨_, rfl, ?_⟩; have n0_ := Aside0.mk (Kd.R_below y26_ hb); have n1_ := Aside0.mk (Kd.R_lower ho0 (below_size y1_)); have n2_ := Aside0.mk (below_step y1_ hb); clear HO211; clear HB; have HO211 := n0_; have HO214 := n1_; have HB := n2_; clear n0_ n1_ n2_; (try clear hb); (try clear hb2); (try clear hk); (try clear hi); (try clear ho0)) | ((with_reducible refine gate_dst (N := 13) rfl ?_); (try (refine gate_guard (by rfl) ?_; dsimp only)); refine Kd.R_lit (Kd.int .u8) _ 5 ?hg (N := 13) ?hd (xs := ([2, 1, 2, 10, 2, 0, 0, 0, 0, 0, 0, 0, 0] : List Int)) (inner := [.int .u8 2, .int .u8 1, .int .u8 2, .int .u8 10, .int .u8 2, .int .u8 0, .int .u8 0, .int .u8 0, .int .u8 0, .int .u8 0, .int .u8 0, .int .u8 0, .int .u8 0]) (ok := fun _ => True) (okp := fun _ => True) ?hr ?hp (fun _ hk => hk) trivial (Below.refl _ _) (Nat.le_refl _) (by simp) ?_; (case hd => rfl); (case hg => rfl); (case hr => first | (go_simp; done) | (go_simp; rfl)); (case hp => exact (Reps.one (show Kd.M (Kd.int .u8) _ _ _ 2 [.int .u8 2] from rfl) (Reps.one (show Kd.M (Kd.int .u8) _ _ _ 1 [.int .u8 1] from rfl) (Reps.one (show Kd.M (Kd.int .u8) _ _ _ 2 [.int .u8 2] from rfl) (Reps.one (show Kd.M (Kd.int .u8) _ _ _ 10 [.int .u8 10] from rfl) (Reps.one (show Kd.M (Kd.int .u8) _ _ _ 2 [.int .u8 2] from rfl) (Reps.one (show Kd.M (Kd.int .u8) _ _ _ 0 [.int .u8 0] from rfl) (Reps.one (show Kd.M (Kd.int .u8) _ _ _ 0 [.int .u8 0] from rfl) (Reps.one (show Kd.M (Kd.int .u8) _ _ _ 0 [.int .u8 0] from rfl) (Reps.one (show Kd.M (Kd.int .u8) _ _ _ 0 [.int .u8 0] from rfl) (Reps.one (show Kd.M (Kd.int .u8) _ _ _ 0 [.int .u8 0] from rfl) (Reps.one (show Kd.M (Kd.int .u8) _ _ _ 0 [.int .u8 0] from rfl) (Reps.one (show Kd.M (Kd.int .u8) _ _ _ 0 [.int .u8 0] from rfl) (Reps.one (show Kd.M (Kd.int .u8) _ _ _ 0 [.int .u8 0] from rfl) (Reps.none _ _))))))))))))))); intro v217 w13 ho14 hb hg_ hnew_; clear hg_ hnew_; (first | rw [← Ny216.out] at ho14 | (simp only [Int.reduceToNat] at ho14; rw [← Ny216.out] at ho14)); have n0_ := Aside0.mk (Kd.R_below y26_ hb); have n1_ := Aside0.mk (Kd.R_elder' y31_ (Kd.R_base ho14) hb); have n2_ := Aside0.mk (Kd.R_lower (Kd.R_new' ho14 (Kd.R_lt y31_)) (below_size y1_)); have n3_ := Aside0.mk (below_step y1_ hb); clear HO211; clear HO214; clear HB; have HO211 := n0_; have HO214 := n1_; have HO218 := n2_; have HB := n3_; clear n0_ n1_ n2_ n3_; clear hb ho14; obtain ⟨Ao15, co15, eo15⟩ := Kd.R_slice HO218.out; subst eo15) | ((with_reducible refine gate_callee (f := 9) rfl ?_); refine goesL_ (some 14) rfl rfl Tryd.func9 (by kernel_rfl) rfl #[.slice Ao15 y216.length co15] rfl y3_ ?_; (with_reducible refine (record_Take.calls k _ _ y216 t219 t220 t221 t224 t227 _ ?side1 ?side2 ?side3 A2.out).mono ?_); (case side1 => exact ⟨Tab_below hT.out y1_⟩); (case side2 => repeat (first | exact (Kd.R_reads' HO218.out).2.2 | (with_reducible refine Kd.C_alloc ?_ _) | (with_reducible refine Kd.C_drewN ?_ _) | (with_reducible refine Kd.C_drew ?_))); (case side3 => exact (Kd.R_reads' HO218.out).2.1); rintro e w16 ⟨v222, v225, rfl, ho0, ho1, hb⟩; refine ⟨_, rfl, ?_⟩; have n0_ := Aside0.mk (Kd.R_elder' y26_ (Kd.R_base ho0) hb); have n1_ := Aside0.mk (Kd.R_below y31_ hb); have n2_ := Aside0.mk (Kd.R_below y46_ hb); have n3_ := Aside0.mk (Kd.R_lower (Kd.R_new' ho0 (Kd.R_lt y26_)) (below_size y1_)); have n4_ := Aside0.mk (Kd.R_lower ho1 (below_size y1_)); have n5_ := Aside0.mk (below_step y1_ hb); clear HO211; clear HO214; clear HO218; clear HB; have HO211 := n0_; have HO214 := n1_; have HO218 := n2_; have HO223 := n3_; have HO226 := n4_; have HB := n5_; clear n0_ n1_ n2_ n3_ n4_ n5_; (try clear hb); (try clear hb2); (try clear hk); (try clear hi); (try clear ho0); (try clear ho1)) | ((with_reducible refine gate_dst (N := 3) rfl ?_); (try (refine gate_guard (by rfl) ?_; dsimp only)); refine box_event ?hg (N := 3) ?hd (cs := #[.int .i64 0, .int .u32 0, .slice none 0 0, .slice none 0 0]) (t := 29) ?hr ?_; (case hd => rfl); (case hg => rfl); (case hr => first | (go_simp; done) | (go_simp; rfl)); intro gb228 hg w17 hbox hb; have n0_ := Aside0.mk (Kd.R_below y26_ hb); have n1_ := Aside0.mk (Kd.R_below y31_ hb); have n2_ := Aside0.mk (Kd.R_below y46_ hb); have n3_ := Aside0.mk (Kd.R_below y89_ hb); have n4_ := Aside0.mk (Kd.R_below y88_ hb); have n5_ := Aside0.mk (below_step y1_ hb); have n6_ := Aside0.mk (hbox); have n7_ := Aside0.mk ((y12_ : w.heap.size ≤ gb228)); have n8_ := Aside0.mk ((y12_ : w.heap.size ≤ gb228)); clear HO211; clear HO214; clear HO218; clear HO223; clear HO226; clear HB; have HO211 := n0_; have HO214 := n1_; have HO218 := n2_; have HO223 := n3_; have HO226 := n4_; have HB := n5_; have BK228 := n6_; have GW228 := n7_; have GE228 := n8_; clear n0_ n1_ n2_ n3_ n4_ n5_ n6_ n7_ n8_; clear hb hbox hg; have hcz18_0 : w17.cell? ⟨gb228, 0, none⟩ = some (.int .i64 0) := (blk_cell BK228.out 0).trans rfl; have hcz18_1 : w17.cell? ⟨gb228, 1, none⟩ = some (.int .u32 0) := (blk_cell BK228.out 1).trans rfl; have hcz18_2 : w17.cell? ⟨gb228, 2, none⟩ = some (.slice none 0 0) := (blk_cell BK228.out 2).trans rfl; have hcz18_3 : w17.cell? ⟨gb228, 3, none⟩ = some (.slice none 0 0) := (blk_cell BK228.out 3).trans rfl; have hfz18_0 := blk_frozen BK228.out 0; have hfz18_1 := blk_frozen BK228.out 1; have hfz18_2 := blk_frozen BK228.out 2; have hfz18_3 := blk_frozen BK228.out 3; obtain ⟨Ao19, co19, eo19⟩ := Kd.R_slice HO223.out; subst eo19; obtain ⟨Ao20, co20, eo20⟩ := Kd.R_slice HO226.out; subst eo20) | ((with_reducible refine gate_dst (N := 21) rfl ?_); (try (refine gate_guard (by rfl) ?_; dsimp only)); refine Kd.R_lit (Kd.int .u8) _ 5 ?hg (N := 21) ?hd (xs := ([1, 1, 1, 1, 97, 1, 120] : List Int)) (inner := [.int .u8 1, .int .u8 1, .int .u8 1, .int .u8 1, .int .u8 97, .int .u8 1, .int .u8 120]) (ok := fun _ => True) (okp := fun _ => True) ?hr ?hp (fun _ hk => hk) trivial (Below.refl _ _) (Nat.le_refl _) (by simp) ?_; (case hd => rfl); (case hg => rfl); (case hr => first | (go_simp; done) | (go_simp; rfl)); (case hp => exact (Reps.one (show Kd.M (Kd.int .u8) _ _ _ 1 [.int .u8 1] from rfl) (Reps.one (show Kd.M (Kd.int .u8) _ _ _ 1 [.int .u8 1] from rfl) (Reps.one (show Kd.M (Kd.int .u8) _ _ _ 1 [.int .u8 1] from rfl) (Reps.one (show Kd.M (Kd.int .u8) _ _ _ 1 [.int .u8 1] from rfl) (Reps.one (show Kd.M (Kd.int .u8) _ _ _ 97 [.int .u8 97] from rfl) (Reps.one (show Kd.M (Kd.int .u8) _ _ _ 1 [.int .u8 1] from rfl) (Reps.one (show Kd.M (Kd.int .u8) _ _ _ 120 [.int .u8 120] from rfl) (Reps.none _ _))))))))); intro v230 w21 ho22 hb hg_ hnew_; clear hg_ hnew_; (first | rw [← Ny229.out] at ho22 | (simp only [Int.reduceToNat] at ho22; rw [← Ny229.out] at ho22)); have n0_ := Aside0.mk (Kd.R_below (by (with_reducible repeat (first | apply Kd.R_alloc | apply Kd.R_drewN | apply Kd.R_drew)); exact (Kd.R_mono (Kd.R_far (p := ⟨gb228, 3, none⟩) (Kd.R_far (p := ⟨gb228, 2, none⟩) (Kd.R_far (p := ⟨gb228, 1, none⟩) (Kd.R_far (p := ⟨gb228, 0, none⟩) (Kd.R_types HO211.out BK228.out (by decide)) (fun _ hk => hk.2) (.int .i64 t219)) (fun _ hk => hk.2) (.int .u32 t220)) (fun _ hk => hk.2) (.slice Ao19 t221.length co19)) (fun _ hk => hk.2) (.slice Ao20 t224.length co20)) (fun _ h_ => h_.1))) hb); have n1_ := Aside0.mk (Kd.R_elder' y84_ (Kd.R_base ho22) hb); have n2_ := Aside0.mk (Kd.R_elder' y80_ (Kd.R_base ho22) hb); have n3_ := Aside0.mk (Kd.R_below (by (with_reducible repeat (first | apply Kd.R_alloc | apply Kd.R_drewN | apply Kd.R_drew)); exact (Kd.R_mono (Kd.R_far (p := ⟨gb228, 3, none⟩) (Kd.R_far (p := ⟨gb228, 2, none⟩) (Kd.R_far (p := ⟨gb228, 1, none⟩) (Kd.R_far (p := ⟨gb228, 0, none⟩) (Kd.R_types HO223.out BK228.out (by decide)) (fun _ hk => hk.2) (.int .i64 t219)) (fun _ hk => hk.2) (.int .u32 t220)) (fun _ hk => hk.2) (.slice Ao19 t221.length co19)) (fun _ hk => hk.2) (.slice Ao20 t224.length co20)) (fun _ h_ => h_.1))) hb); have n4_ := Aside0.mk (Kd.R_below (by (with_reducible repeat (first | apply Kd.R_alloc | apply Kd.R_drewN | apply Kd.R_drew)); exact (Kd.R_mono (Kd.R_far (p := ⟨gb228, 3, none⟩) (Kd.R_far (p := ⟨gb228, 2, none⟩) (Kd.R_far (p := ⟨gb228, 1, none⟩) (Kd.R_far (p := ⟨gb228, 0, none⟩) (Kd.R_types HO226.out BK228.out (by decide)) (fun _ hk => hk.2) (.int .i64 t219)) (fun _ hk => hk.2) (.int .u32 t220)) (fun _ hk => hk.2) (.slice Ao19 t221.length co19)) (fun _ hk => hk.2) (.slice Ao20 t224.length co20)) (fun _ h_ => h_.1))) hb); have n5_ := Aside0.mk (Kd.R_lower (Kd.R_new' (Kd.R_new' ho22 (Kd.R_lt y84_)) (Kd.R_lt y80_)) (below_size y30_)); have n6_ := Aside0.mk (blk_below (g := gb228) (o := .cells #[.int .i64 t219, .int .u32 t220, .slice Ao19 t221.length co19, .slice Ao20 t224.length co20] 29 (0, 0)) (by (with_reducible repeat (first | refine blk_drewN ?_ _ | refine blk_drew ?_ | refine blk_alloc ?_ _)); refine blk_put (cs := #[.int .i64 t219, .int .u32 t220, .slice Ao19 t221.length co19, .slice none 0 0]) ?_ 3 _ rfl; (with_reducible repeat (first | refine blk_drewN ?_ _ | refine blk_drew ?_ | refine blk_alloc ?_ _)); refine blk_put (cs := #[.int .i64 t219, .int .u32 t220, .slice none 0 0, .slice none 0 0]) ?_ 2 _ rfl; (with_reducible repeat (first | refine blk_drewN ?_ _ | refine blk_drew ?_ | refine blk_alloc ?_ _)); refine blk_put (cs := #[.int .i64 t219, .int .u32 0, .slice none 0 0, .slice none 0 0]) ?_ 1 _ rfl; (with_reducible repeat (first | refine blk_drewN ?_ _ | refine blk_drew ?_ | refine blk_alloc ?_ _)); refine blk_put (cs := #[.int .i64 0, .int .u32 0, .slice none 0 0, .slice none 0 0]) ?_ 0 _ rfl; (with_reducible repeat (first | refine blk_drewN ?_ _ | refine blk_drew ?_ | refine blk_alloc ?_ _)); exact BK228.out) hb); have n7_ := Aside0.mk (below_step y30_ hb); clear HO211; clear HO214; clear HO218; clear HO223; clear HO226; clear BK228; clear HB; have HO211 := n0_; have HO214 := n1_; have HO218 := n2_; have HO223 := n3_; have HO226 := n4_; have HO231 := n5_; have BK228 := n6_; have HB := n7_; clear n0_ n1_ n2_ n3_ n4_ n5_ n6_ n7_; clear hb ho22; obtain ⟨Ao23, co23, eo23⟩ := Kd.R_slice HO214.out; subst eo23; obtain ⟨Ao24, co24, eo24⟩ := Kd.R_slice HO231.out; subst eo24) | (go_at_call 15; (with_reducible refine (manometerref01_Equal.calls k _ _ t212 _ _ y229 true _ ?side1 ?side2 ?side3 ?side4 A4.out).mono ?_); (case side1 => repeat (first | exact (Kd.R_reads' HO214.out).2.2 | (with_reducible refine Kd.C_alloc ?_ _) | (with_reducible refine Kd.C_drewN ?_ _) | (with_reducible refine Kd.C_drew ?_))); (case side2 => exact (Kd.R_reads' HO214.out).2.1); (case side3 => repeat (first | exact (Kd.R_reads' HO231.out).2.2 | (with_reducible refine Kd.C_alloc ?_ _) | (with_reducible refine Kd.C_drewN ?_ _) | (with_reducible refine Kd.C_drew ?_))); (case side4 => exact (Kd.R_reads' HO231.out).2.1); rintro e w' ⟨rfl, ⟨nd, rfl⟩⟩; have hcz25_0 : w21.cell? ⟨gb228, 0, none⟩ = some (.int .i64 t219) := (blk_cell BK228.out 0).trans rfl; have hcz25_1 : w21.cell? ⟨gb228, 1, none⟩ = some (.int .u32 t220) := (blk_cell BK228.out 1).trans rfl; have hcz25_2 : w21.cell? ⟨gb228, 2, none⟩ = some (.slice Ao19 t221.length co19) := (blk_cell BK228.out 2).trans rfl; have hcz25_3 : w21.cell? ⟨gb228, 3, none⟩ = some (.slice Ao20 t224.length co20) := (blk_cell BK228.out 3).trans rfl; have hfz25_0 := blk_frozen BK228.out 0; have hfz25_1 := blk_frozen BK228.out 1; have hfz25_2 := blk_frozen BK228.out 2; have hfz25_3 := blk_frozen BK228.out 3; have p233 : 0 ≤ (0 : Int) := (by omega); have q233 : 0 < (t224.length : Int) := of_decide_eq_true y2_; obtain ⟨ad233, e233, hx233_0, hx233_1, hx233_2, hx233_3⟩ := at_T45 (Kd.R_reads' HO226.out).2.2 0 p233 q233; cases e233; have qi233 : (0 < t224.length) = True := eq_true (by omega); (try rw [show ((0 : Int)).toNat = 0 from rfl] at hx233_0); (try rw [show 0 * 4 = 0 from rfl] at hx233_0); (try rw [Addr.add_zero'] at hx233_0); (try rw [show ((0 : Int)).toNat = 0 from rfl] at hx233_1); (try rw [show 0 * 4 = 0 from rfl] at hx233_1); (try rw [Addr.add_zero'] at hx233_1); (try rw [show ((0 : Int)).toNat = 0 from rfl] at hx233_2); (try rw [show 0 * 4 = 0 from rfl] at hx233_2); (try rw [Addr.add_zero'] at hx233_2); (try rw [show ((0 : Int)).toNat = 0 from rfl] at hx233_3); (try rw [show 0 * 4 = 0 from rfl] at hx233_3); (try rw [Addr.add_zero'] at hx233_3); replace p233 := eq_true p233; replace q233 := eq_true q233))
      go_ret
      exact ⟨y4_, y30_⟩
     ·rw [if_neg c8] at H
      exact absurd H (by simp)
    ·rw [if_neg c7] at H
     have c7b0 : ((t224.length : Int) == 1) = false := beq_eq_false_iff_ne.mpr c7
     have c7b1 : ((t224.length : Int) != 1) = true := bne_iff_ne.mpr c7
     obtain rfl := Option.some.inj H
     go_enter Tryd.func8, Tryd.ntmps8
     go_wp2_with (first | ((with_reducible refine gate_dst (N := 7) rfl ?_); (try (refine gate_guard (by rfl) ?_; dsimp only)); refine Kd.R_lit k52 _ 52 ?hg (N := 7) ?hd (xs := ([(⟨(⟨#[97]⟩ : ByteArray), (⟨#[120]⟩ : ByteArray)⟩ : S52)] : List (S52))) (inner := [.string (⟨#[97]⟩ : ByteArray), .string (⟨#[120]⟩ : ByteArray)]) (ok := fun _ => True) (okp := fun _ => True) ?hr ?hp (fun _ hk => hk) trivial (Below.refl _ _) (Nat.le_refl _) (by simp) ?_; (case hd => rfl); (case hg => rfl); (case hr => first | (go_simp; done) | (go_simp; rfl)); (case hp => exact (Reps.c2 (show Kd.M k52 _ _ _ (⟨(⟨#[97]⟩ : ByteArray), (⟨#[120]⟩ : ByteArray)⟩ : S52) [.string (⟨#[97]⟩ : ByteArray), .string (⟨#[120]⟩ : ByteArray)] from (k52_mkM _ _ _ (⟨(⟨#[97]⟩ : ByteArray), (⟨#[120]⟩ : ByteArray)⟩ : S52) )) (Reps.none _ _))); intro v210 w26 ho27 hb hg_ hnew_; clear hg_ hnew_; (first | rw [← Ny209.out] at ho27 | (simp only [Int.reduceToNat] at ho27; rw [← Ny209.out] at ho27)); have n0_ := Aside0.mk (Kd.R_lower ho27 (below_size y1_)); have n1_ := Aside0.mk (below_step y1_ hb); clear HB; have HO211 := n0_; have HB := n1_; clear n0_ n1_; clear hb ho27; obtain ⟨Ao28, co28, eo28⟩ := Kd.R_slice HO211.out; subst eo28) | ((with_reducible refine gate_callee (f := 13) rfl ?_); refine goesL_ (some 9) rfl rfl Tryd.func13 (by kernel_rfl) rfl #[.agg #[.int .i64 1, .int .u32 1, .slice Ao28 y209.length co28, .slice none 0 0]] rfl y3_ ?_; (refine (record_Put.calls k 1 1 _ _ y209 _ _ ([] : List (S45)) t212 t215 _ ?side1 ?side2 ?side3 ?side4 ?side5 A1.out).mono ?_); (case side1 => exact ⟨Tab_below hT.out y1_⟩); (case side2 => repeat (first | exact (Kd.R_reads' HO211.out).2.2 | (with_reducible refine Kd.C_alloc ?_ _) | (with_reducible refine Kd.C_drewN ?_ _) | (with_reducible refine Kd.C_drew ?_))); (case side3 => exact (Kd.R_reads' HO211.out).2.1); (case side4 => exact Kd.C_nil _ _); (case side5 => exact Nat.le_refl _); rintro e w29 ⟨v213, rfl, ho0, hb⟩; refine ⟨_, rfl, ?_⟩; have n0_ := Aside0.mk (Kd.R_below y26_ hb); have n1_ := Aside0.mk (Kd.R_lower ho0 (below_size y1_)); have n2_ := Aside0.mk (below_step y1_ hb); clear HO211; clear HB; have HO211 := n0_; have HO214 := n1_; have HB := n2_; clear n0_ n1_ n2_; (try clear hb); (try clear hb2); (try clear hk); (try clear hi); (try clear ho0)) | ((with_reducible refine gate_dst (N := 13) rfl ?_); (try (refine gate_guard (by rfl) ?_; dsimp only)); refine Kd.R_lit (Kd.int .u8) _ 5 ?hg (N := 13) ?hd (xs := ([2, 1, 2, 10, 2, 0, 0, 0, 0, 0, 0, 0, 0] : List Int)) (inner := [.int .u8 2, .int .u8 1, .int .u8 2, .int .u8 10, .int .u8 2, .int .u8 0, .int .u8 0, .int .u8 0, .int .u8 0, .int .u8 0, .int .u8 0, .int .u8 0, .int .u8 0]) (ok := fun _ => True) (okp := fun _ => True) ?hr ?hp (fun _ hk => hk) trivial (Below.refl _ _) (Nat.le_refl _) (by simp) ?_; (case hd => rfl); (case hg => rfl); (case hr => first | (go_simp; done) | (go_simp; rfl)); (case hp => exact (Reps.one (show Kd.M (Kd.int .u8) _ _ _ 2 [.int .u8 2] from rfl) (Reps.one (show Kd.M (Kd.int .u8) _ _ _ 1 [.int .u8 1] from rfl) (Reps.one (show Kd.M (Kd.int .u8) _ _ _ 2 [.int .u8 2] from rfl) (Reps.one (show Kd.M (Kd.int .u8) _ _ _ 10 [.int .u8 10] from rfl) (Reps.one (show Kd.M (Kd.int .u8) _ _ _ 2 [.int .u8 2] from rfl) (Reps.one (show Kd.M (Kd.int .u8) _ _ _ 0 [.int .u8 0] from rfl) (Reps.one (show Kd.M (Kd.int .u8) _ _ _ 0 [.int .u8 0] from rfl) (Reps.one (show Kd.M (Kd.int .u8) _ _ _ 0 [.int .u8 0] from rfl) (Reps.one (show Kd.M (Kd.int .u8) _ _ _ 0 [.int .u8 0] from rfl) (Reps.one (show Kd.M (Kd.int .u8) _ _ _ 0 [.int .u8 0] from rfl) (Reps.one (show Kd.M (Kd.int .u8) _ _ _ 0 [.int .u8 0] from rfl) (Reps.one (show Kd.M (Kd.int .u8) _ _ _ 0 [.int .u8 0] from rfl) (Reps.one (show Kd.M (Kd.int .u8) _ _ _ 0 [.int .u8 0] from rfl) (Reps.none _ _))))))))))))))); intro v217 w30 ho31 hb hg_ hnew_; clear hg_ hnew_; (first | rw [← Ny216.out] at ho31 | (simp only [Int.reduceToNat] at ho31; rw [← Ny216.out] at ho31)); have n0_ := Aside0.mk (Kd.R_below y26_ hb); have n1_ := Aside0.mk (Kd.R_elder' y31_ (Kd.R_base ho31) hb); have n2_ := Aside0.mk (Kd.R_lower (Kd.R_new' ho31 (Kd.R_lt y31_)) (below_size y1_)); have n3_ := Aside0.mk (below_step y1_ hb); clear HO211; clear HO214; clear HB; have HO211 := n0_; have HO214 := n1_; have HO218 := n2_; have HB := n3_; clear n0_ n1_ n2_ n3_; clear hb ho31; obtain ⟨Ao32, co32, eo32⟩ := Kd.R_slice HO218.out; subst eo32) | ((with_reducible refine gate_callee (f := 9) rfl ?_); refine goesL_ (some 14) rfl rfl Tryd.func9 (by kernel_rfl) rfl #[.slice Ao32 y216.length co32] rfl y3_ ?_; (with_reducible refine (record_Take.calls k _ _ y216 t219 t220 t221 t224 t227 _ ?side1 ?side2 ?side3 A2.out).mono ?_); (case side1 => exact ⟨Tab_below hT.out y1_⟩); (case side2 => repeat (first | exact (Kd.R_reads' HO218.out).2.2 | (with_reducible refine Kd.C_alloc ?_ _) | (with_reducible refine Kd.C_drewN ?_ _) | (with_reducible refine Kd.C_drew ?_))); (case side3 => exact (Kd.R_reads' HO218.out).2.1); rintro e w33 ⟨v222, v225, rfl, ho0, ho1, hb⟩; refine ⟨_, rfl, ?_⟩; have n0_ := Aside0.mk (Kd.R_elder' y26_ (Kd.R_base ho0) hb); have n1_ := Aside0.mk (Kd.R_below y31_ hb); have n2_ := Aside0.mk (Kd.R_below y46_ hb); have n3_ := Aside0.mk (Kd.R_lower (Kd.R_new' ho0 (Kd.R_lt y26_)) (below_size y1_)); have n4_ := Aside0.mk (Kd.R_lower ho1 (below_size y1_)); have n5_ := Aside0.mk (below_step y1_ hb); clear HO211; clear HO214; clear HO218; clear HB; have HO211 := n0_; have HO214 := n1_; have HO218 := n2_; have HO223 := n3_; have HO226 := n4_; have HB := n5_; clear n0_ n1_ n2_ n3_ n4_ n5_; (try clear hb); (try clear hb2); (try clear hk); (try clear hi); (try clear ho0); (try clear ho1)) | ((with_reducible refine gate_dst (N := 3) rfl ?_); (try (refine gate_guard (by rfl) ?_; dsimp only)); refine box_event ?hg (N := 3) ?hd (cs := #[.int .i64 0, .int .u32 0, .slice none 0 0, .slice none 0 0]) (t := 29) ?hr ?_; (case hd => rfl); (case hg => rfl); (case hr => first | (go_simp; done) | (go_simp; rfl)); intro gb228 hg w34 hbox hb; have n0_ := Aside0.mk (Kd.R_below y26_ hb); have n1_ := Aside0.mk (Kd.R_below y31_ hb); have n2_ := Aside0.mk (Kd.R_below y46_ hb); have n3_ := Aside0.mk (Kd.R_below y89_ hb); have n4_ := Aside0.mk (Kd.R_below y88_ hb); have n5_ := Aside0.mk (below_step y1_ hb); have n6_ := Aside0.mk (hbox); have n7_ := Aside0.mk ((y12_ : w.heap.size ≤ gb228)); have n8_ := Aside0.mk ((y12_ : w.heap.size ≤ gb228)); clear HO211; clear HO214; clear HO218; clear HO223; clear HO226; clear HB; have HO211 := n0_; have HO214 := n1_; have HO218 := n2_; have HO223 := n3_; have HO226 := n4_; have HB := n5_; have BK228 := n6_; have GW228 := n7_; have GE228 := n8_; clear n0_ n1_ n2_ n3_ n4_ n5_ n6_ n7_ n8_; clear hb hbox hg; have hcz35_0 : w34.cell? ⟨gb228, 0, none⟩ = some (.int .i64 0) := (blk_cell BK228.out 0).trans rfl; have hcz35_1 : w34.cell? ⟨gb228, 1, none⟩ = some (.int .u32 0) := (blk_cell BK228.out 1).trans rfl; have hcz35_2 : w34.cell? ⟨gb228, 2, none⟩ = some (.slice none 0 0) := (blk_cell BK228.out 2).trans rfl; have hcz35_3 : w34.cell? ⟨gb228, 3, none⟩ = some (.slice none 0 0) := (blk_cell BK228.out 3).trans rfl; have hfz35_0 := blk_frozen BK228.out 0; have hfz35_1 := blk_frozen BK228.out 1; have hfz35_2 := blk_frozen BK228.out 2; have hfz35_3 := blk_frozen BK228.out 3; obtain ⟨Ao36, co36, eo36⟩ := Kd.R_slice HO223.out; subst eo36; obtain ⟨Ao37, co37, eo37⟩ := Kd.R_slice HO226.out; subst eo37) | ((with_reducible refine gate_dst (N := 21) rfl ?_); (try (refine gate_guard (by rfl) ?_; dsimp only)); refine Kd.R_lit (Kd.int .u8) _ 5 ?hg (N := 21) ?hd (xs := ([1, 1, 1, 1, 97, 1, 120] : List Int)) (inner := [.int .u8 1, .int .u8 1, .int .u8 1, .int .u8 1, .int .u8 97, .int .u8 1, .int .u8 120]) (ok := fun _ => True) (okp := fun _ => True) ?hr ?hp (fun _ hk => hk) trivial (Below.refl _ _) (Nat.le_refl _) (by simp) ?_; (case hd => rfl); (case hg => rfl); (case hr => first | (go_simp; done) | (go_simp; rfl)); (case hp => exact (Reps.one (show Kd.M (Kd.int .u8) _ _ _ 1 [.int .u8 1] from rfl) (Reps.one (show Kd.M (Kd.int .u8) _ _ _ 1 [.int .u8 1] from rfl) (Reps.one (show Kd.M (Kd.int .u8) _ _ _ 1 [.int .u8 1] from rfl) (Reps.one (show Kd.M (Kd.int .u8) _ _ _ 1 [.int .u8 1] from rfl) (Reps.one (show Kd.M (Kd.int .u8) _ _ _ 97 [.int .u8 97] from rfl) (Reps.one (show Kd.M (Kd.int .u8) _ _ _ 1 [.int .u8 1] from rfl) (Reps.one (show Kd.M (Kd.int .u8) _ _ _ 120 [.int .u8 120] from rfl) (Reps.none _ _))))))))); intro v230 w38 ho39 hb hg_ hnew_; clear hg_ hnew_; (first | rw [← Ny229.out] at ho39 | (simp only [Int.reduceToNat] at ho39; rw [← Ny229.out] at ho39)); have n0_ := Aside0.mk (Kd.R_below (by (with_reducible repeat (first | apply Kd.R_alloc | apply Kd.R_drewN | apply Kd.R_drew)); exact (Kd.R_mono (Kd.R_far (p := ⟨gb228, 3, none⟩) (Kd.R_far (p := ⟨gb228, 2, none⟩) (Kd.R_far (p := ⟨gb228, 1, none⟩) (Kd.R_far (p := ⟨gb228, 0, none⟩) (Kd.R_types HO211.out BK228.out (by decide)) (fun _ hk => hk.2) (.int .i64 t219)) (fun _ hk => hk.2) (.int .u32 t220)) (fun _ hk => hk.2) (.slice Ao36 t221.length co36)) (fun _ hk => hk.2) (.slice Ao37 t224.length co37)) (fun _ h_ => h_.1))) hb); have n1_ := Aside0.mk (Kd.R_elder' y83_ (Kd.R_base ho39) hb); have n2_ := Aside0.mk (Kd.R_elder' y79_ (Kd.R_base ho39) hb); have n3_ := Aside0.mk (Kd.R_below (by (with_reducible repeat (first | apply Kd.R_alloc | apply Kd.R_drewN | apply Kd.R_drew)); exact (Kd.R_mono (Kd.R_far (p := ⟨gb228, 3, none⟩) (Kd.R_far (p := ⟨gb228, 2, none⟩) (Kd.R_far (p := ⟨gb228, 1, none⟩) (Kd.R_far (p := ⟨gb228, 0, none⟩) (Kd.R_types HO223.out BK228.out (by decide)) (fun _ hk => hk.2) (.int .i64 t219)) (fun _ hk => hk.2) (.int .u32 t220)) (fun _ hk => hk.2) (.slice Ao36 t221.length co36)) (fun _ hk => hk.2) (.slice Ao37 t224.length co37)) (fun _ h_ => h_.1))) hb); have n4_ := Aside0.mk (Kd.R_below (by (with_reducible repeat (first | apply Kd.R_alloc | apply Kd.R_drewN | apply Kd.R_drew)); exact (Kd.R_mono (Kd.R_far (p := ⟨gb228, 3, none⟩) (Kd.R_far (p := ⟨gb228, 2, none⟩) (Kd.R_far (p := ⟨gb228, 1, none⟩) (Kd.R_far (p := ⟨gb228, 0, none⟩) (Kd.R_types HO226.out BK228.out (by decide)) (fun _ hk => hk.2) (.int .i64 t219)) (fun _ hk => hk.2) (.int .u32 t220)) (fun _ hk => hk.2) (.slice Ao36 t221.length co36)) (fun _ hk => hk.2) (.slice Ao37 t224.length co37)) (fun _ h_ => h_.1))) hb); have n5_ := Aside0.mk (Kd.R_lower (Kd.R_new' (Kd.R_new' ho39 (Kd.R_lt y83_)) (Kd.R_lt y79_)) (below_size y30_)); have n6_ := Aside0.mk (blk_below (g := gb228) (o := .cells #[.int .i64 t219, .int .u32 t220, .slice Ao36 t221.length co36, .slice Ao37 t224.length co37] 29 (0, 0)) (by (with_reducible repeat (first | refine blk_drewN ?_ _ | refine blk_drew ?_ | refine blk_alloc ?_ _)); refine blk_put (cs := #[.int .i64 t219, .int .u32 t220, .slice Ao36 t221.length co36, .slice none 0 0]) ?_ 3 _ rfl; (with_reducible repeat (first | refine blk_drewN ?_ _ | refine blk_drew ?_ | refine blk_alloc ?_ _)); refine blk_put (cs := #[.int .i64 t219, .int .u32 t220, .slice none 0 0, .slice none 0 0]) ?_ 2 _ rfl; (with_reducible repeat (first | refine blk_drewN ?_ _ | refine blk_drew ?_ | refine blk_alloc ?_ _)); refine blk_put (cs := #[.int .i64 t219, .int .u32 0, .slice none 0 0, .slice none 0 0]) ?_ 1 _ rfl; (with_reducible repeat (first | refine blk_drewN ?_ _ | refine blk_drew ?_ | refine blk_alloc ?_ _)); refine blk_put (cs := #[.int .i64 0, .int .u32 0, .slice none 0 0, .slice none 0 0]) ?_ 0 _ rfl; (with_reducible repeat (first | refine blk_drewN ?_ _ | refine blk_drew ?_ | refine blk_alloc ?_ _)); exact BK228.out) hb); have n7_ := Aside0.mk (below_step y30_ hb); clear HO211; clear HO214; clear HO218; clear HO223; clear HO226; clear BK228; clear HB; have HO211 := n0_; have HO214 := n1_; have HO218 := n2_; have HO223 := n3_; have HO226 := n4_; have HO231 := n5_; have BK228 := n6_; have HB := n7_; clear n0_ n1_ n2_ n3_ n4_ n5_ n6_ n7_; clear hb ho39; obtain ⟨Ao40, co40, eo40⟩ := Kd.R_slice HO214.out; subst eo40; obtain ⟨Ao41, co41, eo41⟩ := Kd.R_slice HO231.out; subst eo41) | (go_at_call 15; (with_reducible refine (manometerref01_Equal.calls k _ _ t212 _ _ y229 true _ ?side1 ?side2 ?side3 ?side4 A4.out).mono ?_); (case side1 => repeat (first | exact (Kd.R_reads' HO214.out).2.2 | (with_reducible refine Kd.C_alloc ?_ _) | (with_reducible refine Kd.C_drewN ?_ _) | (with_reducible refine Kd.C_drew ?_))); (case side2 => exact (Kd.R_reads' HO214.out).2.1); (case side3 => repeat (first | exact (Kd.R_reads' HO231.out).2.2 | (with_reducible refine Kd.C_alloc ?_ _) | (with_reducible refine Kd.C_drewN ?_ _) | (with_reducible refine Kd.C_drew ?_))); (case side4 => exact (Kd.R_reads' HO231.out).2.1); rintro e w' ⟨rfl, ⟨nd, rfl⟩⟩; have hcz42_0 : w38.cell? ⟨gb228, 0, none⟩ = some (.int .i64 t219) := (blk_cell BK228.out 0).trans rfl; have hcz42_1 : w38.cell? ⟨gb228, 1, none⟩ = some (.int .u32 t220) := (blk_cell BK228.out 1).trans rfl; have hcz42_2 : w38.cell? ⟨gb228, 2, none⟩ = some (.slice Ao36 t221.length co36) := (blk_cell BK228.out 2).trans rfl; have hcz42_3 : w38.cell? ⟨gb228, 3, none⟩ = some (.slice Ao37 t224.length co37) := (blk_cell BK228.out 3).trans rfl; have hfz42_0 := blk_frozen BK228.out 0; have hfz42_1 := blk_frozen BK228.out 1; have hfz42_2 := blk_frozen BK228.out 2; have hfz42_3 := blk_frozen BK228.out 3))
     go_ret
     exact ⟨y4_, y30_⟩
   ·rw [if_neg c6] at H
    have c6b0 : (t227 == 0) = false := beq_eq_false_iff_ne.mpr c6
    have c6b1 : (t227 != 0) = true := bne_iff_ne.mpr c6
    obtain rfl := Option.some.inj H
    go_enter Tryd.func8, Tryd.ntmps8
    go_wp2_with (first | ((with_reducible refine gate_dst (N := 7) rfl ?_); (try (refine gate_guard (by rfl) ?_; dsimp only)); refine Kd.R_lit k52 _ 52 ?hg (N := 7) ?hd (xs := ([(⟨(⟨#[97]⟩ : ByteArray), (⟨#[120]⟩ : ByteArray)⟩ : S52)] : List (S52))) (inner := [.string (⟨#[97]⟩ : ByteArray), .string (⟨#[120]⟩ : ByteArray)]) (ok := fun _ => True) (okp := fun _ => True) ?hr ?hp (fun _ hk => hk) trivial (Below.refl _ _) (Nat.le_refl _) (by simp) ?_; (case hd => rfl); (case hg => rfl); (case hr => first | (go_simp; done) | (go_simp; rfl)); (case hp => exact (Reps.c2 (show Kd.M k52 _ _ _ (⟨(⟨#[97]⟩ : ByteArray), (⟨#[120]⟩ : ByteArray)⟩ : S52) [.string (⟨#[97]⟩ : ByteArray), .string (⟨#[120]⟩ : ByteArray)] from (k52_mkM _ _ _ (⟨(⟨#[97]⟩ : ByteArray), (⟨#[120]⟩ : ByteArray)⟩ : S52) )) (Reps.none _ _))); intro v210 w43 ho44 hb hg_ hnew_; clear hg_ hnew_; (first | rw [← Ny209.out] at ho44 | (simp only [Int.reduceToNat] at ho44; rw [← Ny209.out] at ho44)); have n0_ := Aside0.mk (Kd.R_lower ho44 (below_size y1_)); have n1_ := Aside0.mk (below_step y1_ hb); clear HB; have HO211 := n0_; have HB := n1_; clear n0_ n1_; clear hb ho44; obtain ⟨Ao45, co45, eo45⟩ := Kd.R_slice HO211.out; subst eo45) | ((with_reducible refine gate_callee (f := 13) rfl ?_); refine goesL_ (some 9) rfl rfl Tryd.func13 (by kernel_rfl) rfl #[.agg #[.int .i64 1, .int .u32 1, .slice Ao45 y209.length co45, .slice none 0 0]] rfl y3_ ?_; (refine (record_Put.calls k 1 1 _ _ y209 _ _ ([] : List (S45)) t212 t215 _ ?side1 ?side2 ?side3 ?side4 ?side5 A1.out).mono ?_); (case side1 => exact ⟨Tab_below hT.out y1_⟩); (case side2 => repeat (first | exact (Kd.R_reads' HO211.out).2.2 | (with_reducible refine Kd.C_alloc ?_ _) | (with_reducible refine Kd.C_drewN ?_ _) | (with_reducible refine Kd.C_drew ?_))); (case side3 => exact (Kd.R_reads' HO211.out).2.1); (case side4 => exact Kd.C_nil _ _); (case side5 => exact Nat.le_refl _); rintro e w46 ⟨v213, rfl, ho0, hb⟩; refine ⟨_, rfl, ?_⟩; have n0_ := Aside0.mk (Kd.R_below y26_ hb); have n1_ := Aside0.mk (Kd.R_lower ho0 (below_size y1_)); have n2_ := Aside0.mk (below_step y1_ hb); clear HO211; clear HB; have HO211 := n0_; have HO214 := n1_; have HB := n2_; clear n0_ n1_ n2_; (try clear hb); (try clear hb2); (try clear hk); (try clear hi); (try clear ho0)) | ((with_reducible refine gate_dst (N := 13) rfl ?_); (try (refine gate_guard (by rfl) ?_; dsimp only)); refine Kd.R_lit (Kd.int .u8) _ 5 ?hg (N := 13) ?hd (xs := ([2, 1, 2, 10, 2, 0, 0, 0, 0, 0, 0, 0, 0] : List Int)) (inner := [.int .u8 2, .int .u8 1, .int .u8 2, .int .u8 10, .int .u8 2, .int .u8 0, .int .u8 0, .int .u8 0, .int .u8 0, .int .u8 0, .int .u8 0, .int .u8 0, .int .u8 0]) (ok := fun _ => True) (okp := fun _ => True) ?hr ?hp (fun _ hk => hk) trivial (Below.refl _ _) (Nat.le_refl _) (by simp) ?_; (case hd => rfl); (case hg => rfl); (case hr => first | (go_simp; done) | (go_simp; rfl)); (case hp => exact (Reps.one (show Kd.M (Kd.int .u8) _ _ _ 2 [.int .u8 2] from rfl) (Reps.one (show Kd.M (Kd.int .u8) _ _ _ 1 [.int .u8 1] from rfl) (Reps.one (show Kd.M (Kd.int .u8) _ _ _ 2 [.int .u8 2] from rfl) (Reps.one (show Kd.M (Kd.int .u8) _ _ _ 10 [.int .u8 10] from rfl) (Reps.one (show Kd.M (Kd.int .u8) _ _ _ 2 [.int .u8 2] from rfl) (Reps.one (show Kd.M (Kd.int .u8) _ _ _ 0 [.int .u8 0] from rfl) (Reps.one (show Kd.M (Kd.int .u8) _ _ _ 0 [.int .u8 0] from rfl) (Reps.one (show Kd.M (Kd.int .u8) _ _ _ 0 [.int .u8 0] from rfl) (Reps.one (show Kd.M (Kd.int .u8) _ _ _ 0 [.int .u8 0] from rfl) (Reps.one (show Kd.M (Kd.int .u8) _ _ _ 0 [.int .u8 0] from rfl) (Reps.one (show Kd.M (Kd.int .u8) _ _ _ 0 [.int .u8 0] from rfl) (Reps.one (show Kd.M (Kd.int .u8) _ _ _ 0 [.int .u8 0] from rfl) (Reps.one (show Kd.M (Kd.int .u8) _ _ _ 0 [.int .u8 0] from rfl) (Reps.none _ _))))))))))))))); intro v217 w47 ho48 hb hg_ hnew_; clear hg_ hnew_; (first | rw [← Ny216.out] at ho48 | (simp only [Int.reduceToNat] at ho48; rw [← Ny216.out] at ho48)); have n0_ := Aside0.mk (Kd.R_below y26_ hb); have n1_ := Aside0.mk (Kd.R_elder' y31_ (Kd.R_base ho48) hb); have n2_ := Aside0.mk (Kd.R_lower (Kd.R_new' ho48 (Kd.R_lt y31_)) (below_size y1_)); have n3_ := Aside0.mk (below_step y1_ hb); clear HO211; clear HO214; clear HB; have HO211 := n0_; have HO214 := n1_; have HO218 := n2_; have HB := n3_; clear n0_ n1_ n2_ n3_; clear hb ho48; obtain ⟨Ao49, co49, eo49⟩ := Kd.R_slice HO218.out; subst eo49) | ((with_reducible refine gate_callee (f := 9) rfl ?_); refine goesL_ (some 14) rfl rfl Tryd.func9 (by kernel_rfl) rfl #[.slice Ao49 y216.length co49] rfl y3_ ?_; (with_reducible refine (record_Take.calls k _ _ y216 t219 t220 t221 t224 t227 _ ?side1 ?side2 ?side3 A2.out).mono ?_); (case side1 => exact ⟨Tab_below hT.out y1_⟩); (case side2 => repeat (first | exact (Kd.R_reads' HO218.out).2.2 | (with_reducible refine Kd.C_alloc ?_ _) | (with_reducible refine Kd.C_drewN ?_ _) | (with_reducible refine Kd.C_drew ?_))); (case side3 => exact (Kd.R_reads' HO218.out).2.1); rintro e w50 ⟨v222, v225, rfl, ho0, ho1, hb⟩; refine ⟨_, rfl, ?_⟩; have n0_ := Aside0.mk (Kd.R_elder' y26_ (Kd.R_base ho0) hb); have n1_ := Aside0.mk (Kd.R_below y31_ hb); have n2_ := Aside0.mk (Kd.R_below y46_ hb); have n3_ := Aside0.mk (Kd.R_lower (Kd.R_new' ho0 (Kd.R_lt y26_)) (below_size y1_)); have n4_ := Aside0.mk (Kd.R_lower ho1 (below_size y1_)); have n5_ := Aside0.mk (below_step y1_ hb); clear HO211; clear HO214; clear HO218; clear HB; have HO211 := n0_; have HO214 := n1_; have HO218 := n2_; have HO223 := n3_; have HO226 := n4_; have HB := n5_; clear n0_ n1_ n2_ n3_ n4_ n5_; (try clear hb); (try clear hb2); (try clear hk); (try clear hi); (try clear ho0); (try clear ho1)) | ((with_reducible refine gate_dst (N := 3) rfl ?_); (try (refine gate_guard (by rfl) ?_; dsimp only)); refine box_event ?hg (N := 3) ?hd (cs := #[.int .i64 0, .int .u32 0, .slice none 0 0, .slice none 0 0]) (t := 29) ?hr ?_; (case hd => rfl); (case hg => rfl); (case hr => first | (go_simp; done) | (go_simp; rfl)); intro gb228 hg w51 hbox hb; have n0_ := Aside0.mk (Kd.R_below y26_ hb); have n1_ := Aside0.mk (Kd.R_below y31_ hb); have n2_ := Aside0.mk (Kd.R_below y46_ hb); have n3_ := Aside0.mk (Kd.R_below y89_ hb); have n4_ := Aside0.mk (Kd.R_below y88_ hb); have n5_ := Aside0.mk (below_step y1_ hb); have n6_ := Aside0.mk (hbox); have n7_ := Aside0.mk ((y12_ : w.heap.size ≤ gb228)); have n8_ := Aside0.mk ((y12_ : w.heap.size ≤ gb228)); clear HO211; clear HO214; clear HO218; clear HO223; clear HO226; clear HB; have HO211 := n0_; have HO214 := n1_; have HO218 := n2_; have HO223 := n3_; have HO226 := n4_; have HB := n5_; have BK228 := n6_; have GW228 := n7_; have GE228 := n8_; clear n0_ n1_ n2_ n3_ n4_ n5_ n6_ n7_ n8_; clear hb hbox hg; have hcz52_0 : w51.cell? ⟨gb228, 0, none⟩ = some (.int .i64 0) := (blk_cell BK228.out 0).trans rfl; have hcz52_1 : w51.cell? ⟨gb228, 1, none⟩ = some (.int .u32 0) := (blk_cell BK228.out 1).trans rfl; have hcz52_2 : w51.cell? ⟨gb228, 2, none⟩ = some (.slice none 0 0) := (blk_cell BK228.out 2).trans rfl; have hcz52_3 : w51.cell? ⟨gb228, 3, none⟩ = some (.slice none 0 0) := (blk_cell BK228.out 3).trans rfl; have hfz52_0 := blk_frozen BK228.out 0; have hfz52_1 := blk_frozen BK228.out 1; have hfz52_2 := blk_frozen BK228.out 2; have hfz52_3 := blk_frozen BK228.out 3; obtain ⟨Ao53, co53, eo53⟩ := Kd.R_slice HO223.out; subst eo53; obtain ⟨Ao54, co54, eo54⟩ := Kd.R_slice HO226.out; subst eo54) | ((with_reducible refine gate_dst (N := 21) rfl ?_); (try (refine gate_guard (by rfl) ?_; dsimp only)); refine Kd.R_lit (Kd.int .u8) _ 5 ?hg (N := 21) ?hd (xs := ([1, 1, 1, 1, 97, 1, 120] : List Int)) (inner := [.int .u8 1, .int .u8 1, .int .u8 1, .int .u8 1, .int .u8 97, .int .u8 1, .int .u8 120]) (ok := fun _ => True) (okp := fun _ => True) ?hr ?hp (fun _ hk => hk) trivial (Below.refl _ _) (Nat.le_refl _) (by simp) ?_; (case hd => rfl); (case hg => rfl); (case hr => first | (go_simp; done) | (go_simp; rfl)); (case hp => exact (Reps.one (show Kd.M (Kd.int .u8) _ _ _ 1 [.int .u8 1] from rfl) (Reps.one (show Kd.M (Kd.int .u8) _ _ _ 1 [.int .u8 1] from rfl) (Reps.one (show Kd.M (Kd.int .u8) _ _ _ 1 [.int .u8 1] from rfl) (Reps.one (show Kd.M (Kd.int .u8) _ _ _ 1 [.int .u8 1] from rfl) (Reps.one (show Kd.M (Kd.int .u8) _ _ _ 97 [.int .u8 97] from rfl) (Reps.one (show Kd.M (Kd.int .u8) _ _ _ 1 [.int .u8 1] from rfl) (Reps.one (show Kd.M (Kd.int .u8) _ _ _ 120 [.int .u8 120] from rfl) (Reps.none _ _))))))))); intro v230 w55 ho56 hb hg_ hnew_; clear hg_ hnew_; (first | rw [← Ny229.out] at ho56 | (simp only [Int.reduceToNat] at ho56; rw [← Ny229.out] at ho56)); have n0_ := Aside0.mk (Kd.R_below (by (with_reducible repeat (first | apply Kd.R_alloc | apply Kd.R_drewN | apply Kd.R_drew)); exact (Kd.R_mono (Kd.R_far (p := ⟨gb228, 3, none⟩) (Kd.R_far (p := ⟨gb228, 2, none⟩) (Kd.R_far (p := ⟨gb228, 1, none⟩) (Kd.R_far (p := ⟨gb228, 0, none⟩) (Kd.R_types HO211.out BK228.out (by decide)) (fun _ hk => hk.2) (.int .i64 t219)) (fun _ hk => hk.2) (.int .u32 t220)) (fun _ hk => hk.2) (.slice Ao53 t221.length co53)) (fun _ hk => hk.2) (.slice Ao54 t224.length co54)) (fun _ h_ => h_.1))) hb); have n1_ := Aside0.mk (Kd.R_elder' y82_ (Kd.R_base ho56) hb); have n2_ := Aside0.mk (Kd.R_elder' y78_ (Kd.R_base ho56) hb); have n3_ := Aside0.mk (Kd.R_below (by (with_reducible repeat (first | apply Kd.R_alloc | apply Kd.R_drewN | apply Kd.R_drew)); exact (Kd.R_mono (Kd.R_far (p := ⟨gb228, 3, none⟩) (Kd.R_far (p := ⟨gb228, 2, none⟩) (Kd.R_far (p := ⟨gb228, 1, none⟩) (Kd.R_far (p := ⟨gb228, 0, none⟩) (Kd.R_types HO223.out BK228.out (by decide)) (fun _ hk => hk.2) (.int .i64 t219)) (fun _ hk => hk.2) (.int .u32 t220)) (fun _ hk => hk.2) (.slice Ao53 t221.length co53)) (fun _ hk => hk.2) (.slice Ao54 t224.length co54)) (fun _ h_ => h_.1))) hb); have n4_ := Aside0.mk (Kd.R_below (by (with_reducible repeat (first | apply Kd.R_alloc | apply Kd.R_drewN | apply Kd.R_drew)); exact (Kd.R_mono (Kd.R_far (p := ⟨gb228, 3, none⟩) (Kd.R_far (p := ⟨gb228, 2, none⟩) (Kd.R_far (p := ⟨gb228, 1, none⟩) (Kd.R_far (p := ⟨gb228, 0, none⟩) (Kd.R_types HO226.out BK228.out (by decide)) (fun _ hk => hk.2) (.int .i64 t219)) (fun _ hk => hk.2) (.int .u32 t220)) (fun _ hk => hk.2) (.slice Ao53 t221.length co53)) (fun _ hk => hk.2) (.slice Ao54 t224.length co54)) (fun _ h_ => h_.1))) hb); have n5_ := Aside0.mk (Kd.R_lower (Kd.R_new' (Kd.R_new' ho56 (Kd.R_lt y82_)) (Kd.R_lt y78_)) (below_size y30_)); have n6_ := Aside0.mk (blk_below (g := gb228) (o := .cells #[.int .i64 t219, .int .u32 t220, .slice Ao53 t221.length co53, .slice Ao54 t224.length co54] 29 (0, 0)) (by (with_reducible repeat (first | refine blk_drewN ?_ _ | refine blk_drew ?_ | refine blk_alloc ?_ _)); refine blk_put (cs := #[.int .i64 t219, .int .u32 t220, .slice Ao53 t221.length co53, .slice none 0 0]) ?_ 3 _ rfl; (with_reducible repeat (first | refine blk_drewN ?_ _ | refine blk_drew ?_ | refine blk_alloc ?_ _)); refine blk_put (cs := #[.int .i64 t219, .int .u32 t220, .slice none 0 0, .slice none 0 0]) ?_ 2 _ rfl; (with_reducible repeat (first | refine blk_drewN ?_ _ | refine blk_drew ?_ | refine blk_alloc ?_ _)); refine blk_put (cs := #[.int .i64 t219, .int .u32 0, .slice none 0 0, .slice none 0 0]) ?_ 1 _ rfl; (with_reducible repeat (first | refine blk_drewN ?_ _ | refine blk_drew ?_ | refine blk_alloc ?_ _)); refine blk_put (cs := #[.int .i64 0, .int .u32 0, .slice none 0 0, .slice none 0 0]) ?_ 0 _ rfl; (with_reducible repeat (first | refine blk_drewN ?_ _ | refine blk_drew ?_ | refine blk_alloc ?_ _)); exact BK228.out) hb); have n7_ := Aside0.mk (below_step y30_ hb); clear HO211; clear HO214; clear HO218; clear HO223; clear HO226; clear BK228; clear HB; have HO211 := n0_; have HO214 := n1_; have HO218 := n2_; have HO223 := n3_; have HO226 := n4_; have HO231 := n5_; have BK228 := n6_; have HB := n7_; clear n0_ n1_ n2_ n3_ n4_ n5_ n6_ n7_; clear hb ho56; obtain ⟨Ao57, co57, eo57⟩ := Kd.R_slice HO214.out; subst eo57; obtain ⟨Ao58, co58, eo58⟩ := Kd.R_slice HO231.out; subst eo58) | (go_at_call 15; (with_reducible refine (manometerref01_Equal.calls k _ _ t212 _ _ y229 true _ ?side1 ?side2 ?side3 ?side4 A4.out).mono ?_); (case side1 => repeat (first | exact (Kd.R_reads' HO214.out).2.2 | (with_reducible refine Kd.C_alloc ?_ _) | (with_reducible refine Kd.C_drewN ?_ _) | (with_reducible refine Kd.C_drew ?_))); (case side2 => exact (Kd.R_reads' HO214.out).2.1); (case side3 => repeat (first | exact (Kd.R_reads' HO231.out).2.2 | (with_reducible refine Kd.C_alloc ?_ _) | (with_reducible refine Kd.C_drewN ?_ _) | (with_reducible refine Kd.C_drew ?_))); (case side4 => exact (Kd.R_reads' HO231.out).2.1); rintro e w' ⟨rfl, ⟨nd, rfl⟩⟩))
    go_ret
    exact ⟨y4_, y30_⟩
  ·replace c5 := Bool.eq_false_iff.mpr c5
   subst c5
   have H1 : (some false) = some r := by rw [if_neg (show ¬ (false = true) by decide)] at H; exact H
   clear H
   have H := H1
   clear H1
   obtain rfl := Option.some.inj H
   go_enter Tryd.func8, Tryd.ntmps8
   go_wp2_with (first | ((with_reducible refine gate_dst (N := 7) rfl ?_); (try (refine gate_guard (by rfl) ?_; dsimp only)); refine Kd.R_lit k52 _ 52 ?hg (N := 7) ?hd (xs := ([(⟨(⟨#[97]⟩ : ByteArray), (⟨#[120]⟩ : ByteArray)⟩ : S52)] : List (S52))) (inner := [.string (⟨#[97]⟩ : ByteArray), .string (⟨#[120]⟩ : ByteArray)]) (ok := fun _ => True) (okp := fun _ => True) ?hr ?hp (fun _ hk => hk) trivial (Below.refl _ _) (Nat.le_refl _) (by simp) ?_; (case hd => rfl); (case hg => rfl); (case hr => first | (go_simp; done) | (go_simp; rfl)); (case hp => exact (Reps.c2 (show Kd.M k52 _ _ _ (⟨(⟨#[97]⟩ : ByteArray), (⟨#[120]⟩ : ByteArray)⟩ : S52) [.string (⟨#[97]⟩ : ByteArray), .string (⟨#[120]⟩ : ByteArray)] from (k52_mkM _ _ _ (⟨(⟨#[97]⟩ : ByteArray), (⟨#[120]⟩ : ByteArray)⟩ : S52) )) (Reps.none _ _))); intro v210 w59 ho60 hb hg_ hnew_; clear hg_ hnew_; (first | rw [← Ny209.out] at ho60 | (simp only [Int.reduceToNat] at ho60; rw [← Ny209.out] at ho60)); have n0_ := Aside0.mk (Kd.R_lower ho60 (below_size y1_)); have n1_ := Aside0.mk (below_step y1_ hb); clear HB; have HO211 := n0_; have HB := n1_; clear n0_ n1_; clear hb ho60; obtain ⟨Ao61, co61, eo61⟩ := Kd.R_slice HO211.out; subst eo61) | ((with_reducible refine gate_callee (f := 13) rfl ?_); refine goesL_ (some 9) rfl rfl Tryd.func13 (by kernel_rfl) rfl #[.agg #[.int .i64 1, .int .u32 1, .slice Ao61 y209.length co61, .slice none 0 0]] rfl y3_ ?_; (refine (record_Put.calls k 1 1 _ _ y209 _ _ ([] : List (S45)) t212 t215 _ ?side1 ?side2 ?side3 ?side4 ?side5 A1.out).mono ?_); (case side1 => exact ⟨Tab_below hT.out y1_⟩); (case side2 => repeat (first | exact (Kd.R_reads' HO211.out).2.2 | (with_reducible refine Kd.C_alloc ?_ _) | (with_reducible refine Kd.C_drewN ?_ _) | (with_reducible refine Kd.C_drew ?_))); (case side3 => exact (Kd.R_reads' HO211.out).2.1); (case side4 => exact Kd.C_nil _ _); (case side5 => exact Nat.le_refl _); rintro e w62 ⟨v213, rfl, ho0, hb⟩; refine ⟨_, rfl, ?_⟩; have n0_ := Aside0.mk (Kd.R_below y26_ hb); have n1_ := Aside0.mk (Kd.R_lower ho0 (below_size y1_)); have n2_ := Aside0.mk (below_step y1_ hb); clear HO211; clear HB; have HO211 := n0_; have HO214 := n1_; have HB := n2_; clear n0_ n1_ n2_; (try clear hb); (try clear hb2); (try clear hk); (try clear hi); (try clear ho0)) | ((with_reducible refine gate_dst (N := 13) rfl ?_); (try (refine gate_guard (by rfl) ?_; dsimp only)); refine Kd.R_lit (Kd.int .u8) _ 5 ?hg (N := 13) ?hd (xs := ([2, 1, 2, 10, 2, 0, 0, 0, 0, 0, 0, 0, 0] : List Int)) (inner := [.int .u8 2, .int .u8 1, .int .u8 2, .int .u8 10, .int .u8 2, .int .u8 0, .int .u8 0, .int .u8 0, .int .u8 0, .int .u8 0, .int .u8 0, .int .u8 0, .int .u8 0]) (ok := fun _ => True) (okp := fun _ => True) ?hr ?hp (fun _ hk => hk) trivial (Below.refl _ _) (Nat.le_refl _) (by simp) ?_; (case hd => rfl); (case hg => rfl); (case hr => first | (go_simp; done) | (go_simp; rfl)); (case hp => exact (Reps.one (show Kd.M (Kd.int .u8) _ _ _ 2 [.int .u8 2] from rfl) (Reps.one (show Kd.M (Kd.int .u8) _ _ _ 1 [.int .u8 1] from rfl) (Reps.one (show Kd.M (Kd.int .u8) _ _ _ 2 [.int .u8 2] from rfl) (Reps.one (show Kd.M (Kd.int .u8) _ _ _ 10 [.int .u8 10] from rfl) (Reps.one (show Kd.M (Kd.int .u8) _ _ _ 2 [.int .u8 2] from rfl) (Reps.one (show Kd.M (Kd.int .u8) _ _ _ 0 [.int .u8 0] from rfl) (Reps.one (show Kd.M (Kd.int .u8) _ _ _ 0 [.int .u8 0] from rfl) (Reps.one (show Kd.M (Kd.int .u8) _ _ _ 0 [.int .u8 0] from rfl) (Reps.one (show Kd.M (Kd.int .u8) _ _ _ 0 [.int .u8 0] from rfl) (Reps.one (show Kd.M (Kd.int .u8) _ _ _ 0 [.int .u8 0] from rfl) (Reps.one (show Kd.M (Kd.int .u8) _ _ _ 0 [.int .u8 0] from rfl) (Reps.one (show Kd.M (Kd.int .u8) _ _ _ 0 [.int .u8 0] from rfl) (Reps.one (show Kd.M (Kd.int .u8) _ _ _ 0 [.int .u8 0] from rfl) (Reps.none _ _))))))))))))))); intro v217 w63 ho64 hb hg_ hnew_; clear hg_ hnew_; (first | rw [← Ny216.out] at ho64 | (simp only [Int.reduceToNat] at ho64; rw [← Ny216.out] at ho64)); have n0_ := Aside0.mk (Kd.R_below y26_ hb); have n1_ := Aside0.mk (Kd.R_elder' y31_ (Kd.R_base ho64) hb); have n2_ := Aside0.mk (Kd.R_lower (Kd.R_new' ho64 (Kd.R_lt y31_)) (below_size y1_)); have n3_ := Aside0.mk (below_step y1_ hb); clear HO211; clear HO214; clear HB; have HO211 := n0_; have HO214 := n1_; have HO218 := n2_; have HB := n3_; clear n0_ n1_ n2_ n3_; clear hb ho64; obtain ⟨Ao65, co65, eo65⟩ := Kd.R_slice HO218.out; subst eo65) | ((with_reducible refine gate_callee (f := 9) rfl ?_); refine goesL_ (some 14) rfl rfl Tryd.func9 (by kernel_rfl) rfl #[.slice Ao65 y216.length co65] rfl y3_ ?_; (with_reducible refine (record_Take.calls k _ _ y216 t219 t220 t221 t224 t227 _ ?side1 ?side2 ?side3 A2.out).mono ?_); (case side1 => exact ⟨Tab_below hT.out y1_⟩); (case side2 => repeat (first | exact (Kd.R_reads' HO218.out).2.2 | (with_reducible refine Kd.C_alloc ?_ _) | (with_reducible refine Kd.C_drewN ?_ _) | (with_reducible refine Kd.C_drew ?_))); (case side3 => exact (Kd.R_reads' HO218.out).2.1); rintro e w66 ⟨v222, v225, rfl, ho0, ho1, hb⟩; refine ⟨_, rfl, ?_⟩; have n0_ := Aside0.mk (Kd.R_elder' y26_ (Kd.R_base ho0) hb); have n1_ := Aside0.mk (Kd.R_below y31_ hb); have n2_ := Aside0.mk (Kd.R_below y46_ hb); have n3_ := Aside0.mk (Kd.R_lower (Kd.R_new' ho0 (Kd.R_lt y26_)) (below_size y1_)); have n4_ := Aside0.mk (Kd.R_lower ho1 (below_size y1_)); have n5_ := Aside0.mk (below_step y1_ hb); clear HO211; clear HO214; clear HO218; clear HB; have HO211 := n0_; have HO214 := n1_; have HO218 := n2_; have HO223 := n3_; have HO226 := n4_; have HB := n5_; clear n0_ n1_ n2_ n3_ n4_ n5_; (try clear hb); (try clear hb2); (try clear hk); (try clear hi); (try clear ho0); (try clear ho1)) | ((with_reducible refine gate_dst (N := 3) rfl ?_); (try (refine gate_guard (by rfl) ?_; dsimp only)); refine box_event ?hg (N := 3) ?hd (cs := #[.int .i64 0, .int .u32 0, .slice none 0 0, .slice none 0 0]) (t := 29) ?hr ?_; (case hd => rfl); (case hg => rfl); (case hr => first | (go_simp; done) | (go_simp; rfl)); intro gb228 hg w67 hbox hb; have n0_ := Aside0.mk (Kd.R_below y26_ hb); have n1_ := Aside0.mk (Kd.R_below y31_ hb); have n2_ := Aside0.mk (Kd.R_below y46_ hb); have n3_ := Aside0.mk (Kd.R_below y89_ hb); have n4_ := Aside0.mk (Kd.R_below y88_ hb); have n5_ := Aside0.mk (below_step y1_ hb); have n6_ := Aside0.mk (hbox); have n7_ := Aside0.mk ((y12_ : w.heap.size ≤ gb228)); have n8_ := Aside0.mk ((y12_ : w.heap.size ≤ gb228)); clear HO211; clear HO214; clear HO218; clear HO223; clear HO226; clear HB; have HO211 := n0_; have HO214 := n1_; have HO218 := n2_; have HO223 := n3_; have HO226 := n4_; have HB := n5_; have BK228 := n6_; have GW228 := n7_; have GE228 := n8_; clear n0_ n1_ n2_ n3_ n4_ n5_ n6_ n7_ n8_; clear hb hbox hg; have hcz68_0 : w67.cell? ⟨gb228, 0, none⟩ = some (.int .i64 0) := (blk_cell BK228.out 0).trans rfl; have hcz68_1 : w67.cell? ⟨gb228, 1, none⟩ = some (.int .u32 0) := (blk_cell BK228.out 1).trans rfl; have hcz68_2 : w67.cell? ⟨gb228, 2, none⟩ = some (.slice none 0 0) := (blk_cell BK228.out 2).trans rfl; have hcz68_3 : w67.cell? ⟨gb228, 3, none⟩ = some (.slice none 0 0) := (blk_cell BK228.out 3).trans rfl; have hfz68_0 := blk_frozen BK228.out 0; have hfz68_1 := blk_frozen BK228.out 1; have hfz68_2 := blk_frozen BK228.out 2; have hfz68_3 := blk_frozen BK228.out 3; obtain ⟨Ao69, co69, eo69⟩ := Kd.R_slice HO223.out; subst eo69; obtain ⟨Ao70, co70, eo70⟩ := Kd.R_slice HO226.out; subst eo70) | ((with_reducible refine gate_dst (N := 21) rfl ?_); (try (refine gate_guard (by rfl) ?_; dsimp only)); refine Kd.R_lit (Kd.int .u8) _ 5 ?hg (N := 21) ?hd (xs := ([1, 1, 1, 1, 97, 1, 120] : List Int)) (inner := [.int .u8 1, .int .u8 1, .int .u8 1, .int .u8 1, .int .u8 97, .int .u8 1, .int .u8 120]) (ok := fun _ => True) (okp := fun _ => True) ?hr ?hp (fun _ hk => hk) trivial (Below.refl _ _) (Nat.le_refl _) (by simp) ?_; (case hd => rfl); (case hg => rfl); (case hr => first | (go_simp; done) | (go_simp; rfl)); (case hp => exact (Reps.one (show Kd.M (Kd.int .u8) _ _ _ 1 [.int .u8 1] from rfl) (Reps.one (show Kd.M (Kd.int .u8) _ _ _ 1 [.int .u8 1] from rfl) (Reps.one (show Kd.M (Kd.int .u8) _ _ _ 1 [.int .u8 1] from rfl) (Reps.one (show Kd.M (Kd.int .u8) _ _ _ 1 [.int .u8 1] from rfl) (Reps.one (show Kd.M (Kd.int .u8) _ _ _ 97 [.int .u8 97] from rfl) (Reps.one (show Kd.M (Kd.int .u8) _ _ _ 1 [.int .u8 1] from rfl) (Reps.one (show Kd.M (Kd.int .u8) _ _ _ 120 [.int .u8 120] from rfl) (Reps.none _ _))))))))); intro v230 w71 ho72 hb hg_ hnew_; clear hg_ hnew_; (first | rw [← Ny229.out] at ho72 | (simp only [Int.reduceToNat] at ho72; rw [← Ny229.out] at ho72)); have n0_ := Aside0.mk (Kd.R_below (by (with_reducible repeat (first | apply Kd.R_alloc | apply Kd.R_drewN | apply Kd.R_drew)); exact (Kd.R_mono (Kd.R_far (p := ⟨gb228, 3, none⟩) (Kd.R_far (p := ⟨gb228, 2, none⟩) (Kd.R_far (p := ⟨gb228, 1, none⟩) (Kd.R_far (p := ⟨gb228, 0, none⟩) (Kd.R_types HO211.out BK228.out (by decide)) (fun _ hk => hk.2) (.int .i64 t219)) (fun _ hk => hk.2) (.int .u32 t220)) (fun _ hk => hk.2) (.slice Ao69 t221.length co69)) (fun _ hk => hk.2) (.slice Ao70 t224.length co70)) (fun _ h_ => h_.1))) hb); have n1_ := Aside0.mk (Kd.R_elder' y81_ (Kd.R_base ho72) hb); have n2_ := Aside0.mk (Kd.R_elder' y77_ (Kd.R_base ho72) hb); have n3_ := Aside0.mk (Kd.R_below (by (with_reducible repeat (first | apply Kd.R_alloc | apply Kd.R_drewN | apply Kd.R_drew)); exact (Kd.R_mono (Kd.R_far (p := ⟨gb228, 3, none⟩) (Kd.R_far (p := ⟨gb228, 2, none⟩) (Kd.R_far (p := ⟨gb228, 1, none⟩) (Kd.R_far (p := ⟨gb228, 0, none⟩) (Kd.R_types HO223.out BK228.out (by decide)) (fun _ hk => hk.2) (.int .i64 t219)) (fun _ hk => hk.2) (.int .u32 t220)) (fun _ hk => hk.2) (.slice Ao69 t221.length co69)) (fun _ hk => hk.2) (.slice Ao70 t224.length co70)) (fun _ h_ => h_.1))) hb); have n4_ := Aside0.mk (Kd.R_below (by (with_reducible repeat (first | apply Kd.R_alloc | apply Kd.R_drewN | apply Kd.R_drew)); exact (Kd.R_mono (Kd.R_far (p := ⟨gb228, 3, none⟩) (Kd.R_far (p := ⟨gb228, 2, none⟩) (Kd.R_far (p := ⟨gb228, 1, none⟩) (Kd.R_far (p := ⟨gb228, 0, none⟩) (Kd.R_types HO226.out BK228.out (by decide)) (fun _ hk => hk.2) (.int .i64 t219)) (fun _ hk => hk.2) (.int .u32 t220)) (fun _ hk => hk.2) (.slice Ao69 t221.length co69)) (fun _ hk => hk.2) (.slice Ao70 t224.length co70)) (fun _ h_ => h_.1))) hb); have n5_ := Aside0.mk (Kd.R_lower (Kd.R_new' (Kd.R_new' ho72 (Kd.R_lt y81_)) (Kd.R_lt y77_)) (below_size y30_)); have n6_ := Aside0.mk (blk_below (g := gb228) (o := .cells #[.int .i64 t219, .int .u32 t220, .slice Ao69 t221.length co69, .slice Ao70 t224.length co70] 29 (0, 0)) (by (with_reducible repeat (first | refine blk_drewN ?_ _ | refine blk_drew ?_ | refine blk_alloc ?_ _)); refine blk_put (cs := #[.int .i64 t219, .int .u32 t220, .slice Ao69 t221.length co69, .slice none 0 0]) ?_ 3 _ rfl; (with_reducible repeat (first | refine blk_drewN ?_ _ | refine blk_drew ?_ | refine blk_alloc ?_ _)); refine blk_put (cs := #[.int .i64 t219, .int .u32 t220, .slice none 0 0, .slice none 0 0]) ?_ 2 _ rfl; (with_reducible repeat (first | refine blk_drewN ?_ _ | refine blk_drew ?_ | refine blk_alloc ?_ _)); refine blk_put (cs := #[.int .i64 t219, .int .u32 0, .slice none 0 0, .slice none 0 0]) ?_ 1 _ rfl; (with_reducible repeat (first | refine blk_drewN ?_ _ | refine blk_drew ?_ | refine blk_alloc ?_ _)); refine blk_put (cs := #[.int .i64 0, .int .u32 0, .slice none 0 0, .slice none 0 0]) ?_ 0 _ rfl; (with_reducible repeat (first | refine blk_drewN ?_ _ | refine blk_drew ?_ | refine blk_alloc ?_ _)); exact BK228.out) hb); have n7_ := Aside0.mk (below_step y30_ hb); clear HO211; clear HO214; clear HO218; clear HO223; clear HO226; clear BK228; clear HB; have HO211 := n0_; have HO214 := n1_; have HO218 := n2_; have HO223 := n3_; have HO226 := n4_; have HO231 := n5_; have BK228 := n6_; have HB := n7_; clear n0_ n1_ n2_ n3_ n4_ n5_ n6_ n7_; clear hb ho72; obtain ⟨Ao73, co73, eo73⟩ := Kd.R_slice HO214.out; subst eo73; obtain ⟨Ao74, co74, eo74⟩ := Kd.R_slice HO231.out; subst eo74) | (go_at_call 15; (with_reducible refine (manometerref01_Equal.calls k _ _ t212 _ _ y229 false _ ?side1 ?side2 ?side3 ?side4 A4.out).mono ?_); (case side1 => repeat (first | exact (Kd.R_reads' HO214.out).2.2 | (with_reducible refine Kd.C_alloc ?_ _) | (with_reducible refine Kd.C_drewN ?_ _) | (with_reducible refine Kd.C_drew ?_))); (case side2 => exact (Kd.R_reads' HO214.out).2.1); (case side3 => repeat (first | exact (Kd.R_reads' HO231.out).2.2 | (with_reducible refine Kd.C_alloc ?_ _) | (with_reducible refine Kd.C_drewN ?_ _) | (with_reducible refine Kd.C_drew ?_))); (case side4 => exact (Kd.R_reads' HO231.out).2.1); rintro e w' ⟨rfl, ⟨nd, rfl⟩⟩))
   go_ret
   exact ⟨y4_, y30_⟩
 ·rw [if_neg c3] at H
  have c3b0 : (t215 == 0) = false := beq_eq_false_iff_ne.mpr c3
  have c3b1 : (t215 != 0) = true := bne_iff_ne.mpr c3
  obtain rfl := Option.some.inj H
  go_enter Tryd.func8, Tryd.ntmps8
  go_wp2_with (first | ((with_reducible refine gate_dst (N := 7) rfl ?_); (try (refine gate_guard (by rfl) ?_; dsimp only)); refine Kd.R_lit k52 _ 52 ?hg (N := 7) ?hd (xs := ([(⟨(⟨#[97]⟩ : ByteArray), (⟨#[120]⟩ : ByteArray)⟩ : S52)] : List (S52))) (inner := [.string (⟨#[97]⟩ : ByteArray), .string (⟨#[120]⟩ : ByteArray)]) (ok := fun _ => True) (okp := fun _ => True) ?hr ?hp (fun _ hk => hk) trivial (Below.refl _ _) (Nat.le_refl _) (by simp) ?_; (case hd => rfl); (case hg => rfl); (case hr => first | (go_simp; done) | (go_simp; rfl)); (case hp => exact (Reps.c2 (show Kd.M k52 _ _ _ (⟨(⟨#[97]⟩ : ByteArray), (⟨#[120]⟩ : ByteArray)⟩ : S52) [.string (⟨#[97]⟩ : ByteArray), .string (⟨#[120]⟩ : ByteArray)] from (k52_mkM _ _ _ (⟨(⟨#[97]⟩ : ByteArray), (⟨#[120]⟩ : ByteArray)⟩ : S52) )) (Reps.none _ _))); intro v210 w75 ho76 hb hg_ hnew_; clear hg_ hnew_; (first | rw [← Ny209.out] at ho76 | (simp only [Int.reduceToNat] at ho76; rw [← Ny209.out] at ho76)); have n0_ := Aside0.mk (Kd.R_lower ho76 (below_size y1_)); have n1_ := Aside0.mk (below_step y1_ hb); clear HB; have HO211 := n0_; have HB := n1_; clear n0_ n1_; clear hb ho76; obtain ⟨Ao77, co77, eo77⟩ := Kd.R_slice HO211.out; subst eo77) | ((with_reducible refine gate_callee (f := 13) rfl ?_); refine goesL_ (some 9) rfl rfl Tryd.func13 (by kernel_rfl) rfl #[.agg #[.int .i64 1, .int .u32 1, .slice Ao77 y209.length co77, .slice none 0 0]] rfl y3_ ?_; (refine (record_Put.calls k 1 1 _ _ y209 _ _ ([] : List (S45)) t212 t215 _ ?side1 ?side2 ?side3 ?side4 ?side5 A1.out).mono ?_); (case side1 => exact ⟨Tab_below hT.out y1_⟩); (case side2 => repeat (first | exact (Kd.R_reads' HO211.out).2.2 | (with_reducible refine Kd.C_alloc ?_ _) | (with_reducible refine Kd.C_drewN ?_ _) | (with_reducible refine Kd.C_drew ?_))); (case side3 => exact (Kd.R_reads' HO211.out).2.1); (case side4 => exact Kd.C_nil _ _); (case side5 => exact Nat.le_refl _); rintro e w78 ⟨v213, rfl, ho0, hb⟩; refine ⟨_, rfl, ?_⟩; have n0_ := Aside0.mk (Kd.R_below y26_ hb); have n1_ := Aside0.mk (Kd.R_lower ho0 (below_size y1_)); have n2_ := Aside0.mk (below_step y1_ hb); clear HO211; clear HB; have HO211 := n0_; have HO214 := n1_; have HB := n2_; clear n0_ n1_ n2_; (try clear hb); (try clear hb2); (try clear hk); (try clear hi); (try clear ho0)) | ((with_reducible refine gate_dst (N := 13) rfl ?_); (try (refine gate_guard (by rfl) ?_; dsimp only)); refine Kd.R_lit (Kd.int .u8) _ 5 ?hg (N := 13) ?hd (xs := ([2, 1, 2, 10, 2, 0, 0, 0, 0, 0, 0, 0, 0] : List Int)) (inner := [.int .u8 2, .int .u8 1, .int .u8 2, .int .u8 10, .int .u8 2, .int .u8 0, .int .u8 0, .int .u8 0, .int .u8 0, .int .u8 0, .int .u8 0, .int .u8 0, .int .u8 0]) (ok := fun _ => True) (okp := fun _ => True) ?hr ?hp (fun _ hk => hk) trivial (Below.refl _ _) (Nat.le_refl _) (by simp) ?_; (case hd => rfl); (case hg => rfl); (case hr => first | (go_simp; done) | (go_simp; rfl)); (case hp => exact (Reps.one (show Kd.M (Kd.int .u8) _ _ _ 2 [.int .u8 2] from rfl) (Reps.one (show Kd.M (Kd.int .u8) _ _ _ 1 [.int .u8 1] from rfl) (Reps.one (show Kd.M (Kd.int .u8) _ _ _ 2 [.int .u8 2] from rfl) (Reps.one (show Kd.M (Kd.int .u8) _ _ _ 10 [.int .u8 10] from rfl) (Reps.one (show Kd.M (Kd.int .u8) _ _ _ 2 [.int .u8 2] from rfl) (Reps.one (show Kd.M (Kd.int .u8) _ _ _ 0 [.int .u8 0] from rfl) (Reps.one (show Kd.M (Kd.int .u8) _ _ _ 0 [.int .u8 0] from rfl) (Reps.one (show Kd.M (Kd.int .u8) _ _ _ 0 [.int .u8 0] from rfl) (Reps.one (show Kd.M (Kd.int .u8) _ _ _ 0 [.int .u8 0] from rfl) (Reps.one (show Kd.M (Kd.int .u8) _ _ _ 0 [.int .u8 0] from rfl) (Reps.one (show Kd.M (Kd.int .u8) _ _ _ 0 [.int .u8 0] from rfl) (Reps.one (show Kd.M (Kd.int .u8) _ _ _ 0 [.int .u8 0] from rfl) (Reps.one (show Kd.M (Kd.int .u8) _ _ _ 0 [.int .u8 0] from rfl) (Reps.none _ _))))))))))))))); intro v217 w79 ho80 hb hg_ hnew_; clear hg_ hnew_; (first | rw [← Ny216.out] at ho80 | (simp only [Int.reduceToNat] at ho80; rw [← Ny216.out] at ho80)); have n0_ := Aside0.mk (Kd.R_below y26_ hb); have n1_ := Aside0.mk (Kd.R_elder' y31_ (Kd.R_base ho80) hb); have n2_ := Aside0.mk (Kd.R_lower (Kd.R_new' ho80 (Kd.R_lt y31_)) (below_size y1_)); have n3_ := Aside0.mk (below_step y1_ hb); clear HO211; clear HO214; clear HB; have HO211 := n0_; have HO214 := n1_; have HO218 := n2_; have HB := n3_; clear n0_ n1_ n2_ n3_; clear hb ho80; obtain ⟨Ao81, co81, eo81⟩ := Kd.R_slice HO218.out; subst eo81) | ((with_reducible refine gate_callee (f := 9) rfl ?_); refine goesL_ (some 14) rfl rfl Tryd.func9 (by kernel_rfl) rfl #[.slice Ao81 y216.length co81] rfl y3_ ?_; (with_reducible refine (record_Take.calls k _ _ y216 t219 t220 t221 t224 t227 _ ?side1 ?side2 ?side3 A2.out).mono ?_); (case side1 => exact ⟨Tab_below hT.out y1_⟩); (case side2 => repeat (first | exact (Kd.R_reads' HO218.out).2.2 | (with_reducible refine Kd.C_alloc ?_ _) | (with_reducible refine Kd.C_drewN ?_ _) | (with_reducible refine Kd.C_drew ?_))); (case side3 => exact (Kd.R_reads' HO218.out).2.1); rintro e w82 ⟨v222, v225, rfl, ho0, ho1, hb⟩; refine ⟨_, rfl, ?_⟩; have n0_ := Aside0.mk (Kd.R_elder' y26_ (Kd.R_base ho0) hb); have n1_ := Aside0.mk (Kd.R_below y31_ hb); have n2_ := Aside0.mk (Kd.R_below y46_ hb); have n3_ := Aside0.mk (Kd.R_lower (Kd.R_new' ho0 (Kd.R_lt y26_)) (below_size y1_)); have n4_ := Aside0.mk (Kd.R_lower ho1 (below_size y1_)); have n5_ := Aside0.mk (below_step y1_ hb); clear HO211; clear HO214; clear HO218; clear HB; have HO211 := n0_; have HO214 := n1_; have HO218 := n2_; have HO223 := n3_; have HO226 := n4_; have HB := n5_; clear n0_ n1_ n2_ n3_ n4_ n5_; (try clear hb); (try clear hb2); (try clear hk); (try clear hi); (try clear ho0); (try clear ho1)) | ((with_reducible refine gate_dst (N := 3) rfl ?_); (try (refine gate_guard (by rfl) ?_; dsimp only)); refine box_event ?hg (N := 3) ?hd (cs := #[.int .i64 0, .int .u32 0, .slice none 0 0, .slice none 0 0]) (t := 29) ?hr ?_; (case hd => rfl); (case hg => rfl); (case hr => first | (go_simp; done) | (go_simp; rfl)); intro gb228 hg w83 hbox hb; have n0_ := Aside0.mk (Kd.R_below y26_ hb); have n1_ := Aside0.mk (Kd.R_below y31_ hb); have n2_ := Aside0.mk (Kd.R_below y46_ hb); have n3_ := Aside0.mk (Kd.R_below y89_ hb); have n4_ := Aside0.mk (Kd.R_below y88_ hb); have n5_ := Aside0.mk (below_step y1_ hb); have n6_ := Aside0.mk (hbox); have n7_ := Aside0.mk ((y12_ : w.heap.size ≤ gb228)); have n8_ := Aside0.mk ((y12_ : w.heap.size ≤ gb228)); clear HO211; clear HO214; clear HO218; clear HO223; clear HO226; clear HB; have HO211 := n0_; have HO214 := n1_; have HO218 := n2_; have HO223 := n3_; have HO226 := n4_; have HB := n5_; have BK228 := n6_; have GW228 := n7_; have GE228 := n8_; clear n0_ n1_ n2_ n3_ n4_ n5_ n6_ n7_ n8_; clear hb hbox hg; have hcz84_0 : w83.cell? ⟨gb228, 0, none⟩ = some (.int .i64 0) := (blk_cell BK228.out 0).trans rfl; have hcz84_1 : w83.cell? ⟨gb228, 1, none⟩ = some (.int .u32 0) := (blk_cell BK228.out 1).trans rfl; have hcz84_2 : w83.cell? ⟨gb228, 2, none⟩ = some (.slice none 0 0) := (blk_cell BK228.out 2).trans rfl; have hcz84_3 : w83.cell? ⟨gb228, 3, none⟩ = some (.slice none 0 0) := (blk_cell BK228.out 3).trans rfl; have hfz84_0 := blk_frozen BK228.out 0; have hfz84_1 := blk_frozen BK228.out 1; have hfz84_2 := blk_frozen BK228.out 2; have hfz84_3 := blk_frozen BK228.out 3; obtain ⟨Ao85, co85, eo85⟩ := Kd.R_slice HO223.out; subst eo85; obtain ⟨Ao86, co86, eo86⟩ := Kd.R_slice HO226.out; subst eo86))
  go_ret
  exact ⟨y4_, y30_⟩
mutual
def manometerref01_Uvarint.l0 : Nat → List Int → Int → Int → Option (Int × Int × Int)
 | 0, _, _, _ => none
 | k + 1, x0, x5, x7 => if x7 < 10 then (if x7 = (x0.length : Int) then (some (0, 0, 6)) else (if x7 = 9 then (if 0 ≤ x7 then (if x7 < (x0.length : Int) then (manometerref01_Uvarint.j1 k x0 x5 x7 x7 (decide ((rd x0 x7) > 1))) else (none)) else (none)) else (manometerref01_Uvarint.j1 k x0 x5 x7 x7 false))) else (some (0, 0, 9))
def manometerref01_Uvarint.j1 : Nat → List Int → Int → Int → Int → Bool → Option (Int × Int × Int)
 | 0, _, _, _, _, _ => none
 | k + 1, x0, x5, x6, x7, x22 => if x22 = true then (some (0, 0, 9)) else (if 0 ≤ x6 then (if x6 < (x0.length : Int) then (if 0 ≤ (IntKind.u64.wrap (wrap64 (7 * x6))) then (if (rd x0 x6) < 128 then (if x6 > 0 then (if (rd x0 x6) = 0 then (some (0, 0, 8)) else (some (IntKind.u64.wrap (x5 + (shl .u64 (IntKind.u64.wrap (Int.tmod (rd x0 x6) 128)) (IntKind.u64.wrap (wrap64 (7 * x6))))), wrap64 (x6 + 1), 0))) else (some (IntKind.u64.wrap (x5 + (shl .u64 (IntKind.u64.wrap (Int.tmod (rd x0 x6) 128)) (IntKind.u64.wrap (wrap64 (7 * x6))))), wrap64 (x6 + 1), 0))) else (manometerref01_Uvarint.l0 k x0 (IntKind.u64.wrap (x5 + (shl .u64 (IntKind.u64.wrap (Int.tmod (rd x0 x6) 128)) (IntKind.u64.wrap (wrap64 (7 * x6)))))) (wrap64 (x7 + 1)))) else (none)) else (none)) else (none))
end
def manometerref01_Uvarint.f (k : Nat) (l0 : List Int) : Option (Int × Int × Int) := manometerref01_Uvarint.l0 k l0 0 0
set_option maxHeartbeats 8000000 in
set_option maxRecDepth 100000 in
theorem manometerref01_Uvarint.calls (k : Nat) (A0 : Option Addr) (c0 : Nat) (l0 : List Int) (r1 : Int) (r2 : Int) (r3 : Int) (w : World) (hr0 : Kd.C (Kd.int .u8) w A0 l0.length l0) (hc0 : l0.length ≤ c0) (h : manometerref01_Uvarint.f k l0 = some (r1, r2, r3)) :
  Calls Tryd.prog 24 #[.slice A0 l0.length c0] w fun e w' => e = .returned (.tuple #[.int .u64 r1, .int .i64 r2, .int .i64 r3]) ∧ Drawn0 w w' := by
 have HR0 := Aside0.mk hr0
 have HC0 := Aside0.mk hc0
 clear hr0 hc0
 have H : (manometerref01_Uvarint.l0 k l0 0 0) = some (r1, r2, r3) := h
 clear h
 have H' := Aside0.mk H
 clear H
 go_enter Tryd.func24, Tryd.ntmps24
 go_wp2
 go_loopg [5, 7] k (fun kq v5 v7 w' => ∃ (x5_1 : Int) (x7_1 : Int), v5 = .int .u64 x5_1 ∧ v7 = .int .i64 x7_1 ∧ Aside0 (manometerref01_Uvarint.l0 kq l0 x5_1 x7_1 = some (r1, r2, r3)) ∧ Aside0 (kq ≤ k) ∧ Drawn0 w w')
 case atStart => exact ⟨(0), (0), y7_, y7_, H', ⟨Nat.le_refl _⟩, y8_⟩
 case round =>
  clear H'
  obtain ⟨x5_1, x7_1, rfl, rfl, HA, HK1, ⟨m1, rfl⟩⟩ := hrel
  cases gk with
  | zero => exact absurd HA.out (by simp [manometerref01_Uvarint.l0])
  | succ k1 =>
   have H := HA.out
   clear HA
   simp only [manometerref01_Uvarint.l0] at H
   by_cases c2 : x7_1 < 10
   ·rw [if_pos c2] at H
    have c2b0 : decide (x7_1 < 10) = true := decide_eq_true c2
    clear c2
    by_cases c3 : x7_1 = (l0.length : Int)
    ·rw [if_pos c3] at H
     have c3b0 : (x7_1 == (l0.length : Int)) = true := beq_iff_eq.mpr c3
     have c3b1 : (x7_1 != (l0.length : Int)) = false := bne_eq_false_iff_eq.mpr c3
     clear c3
     simp only [Option.some.injEq, Prod.mk.injEq] at H
     obtain ⟨rfl, rfl, rfl⟩ := H
     go_wp2
     go_ret3
     exact ⟨y17_, y8_⟩
    ·rw [if_neg c3] at H
     have c3b0 : (x7_1 == (l0.length : Int)) = false := beq_eq_false_iff_ne.mpr c3
     have c3b1 : (x7_1 != (l0.length : Int)) = true := bne_iff_ne.mpr c3
     have HC4 := Aside0.mk H
     clear H
     go_upto_region 7 with (fail)
     go_cut [22] (fun v22 wc => ∃ (kq : Nat) (x22_3 : Bool), v22 = .bool x22_3 ∧ Aside0 (manometerref01_Uvarint.j1 kq l0 x5_1 x7_1 x7_1 x22_3 = some (r1, r2, r3)) ∧ Aside0 (kq ≤ k1) ∧ Drawn0 w wc)
     case first =>
      have H := HC4.out
      clear HC4
      by_cases c5 : x7_1 = 9
      ·rw [if_pos c5] at H
       have c5b0 : (x7_1 == 9) = true := beq_iff_eq.mpr c5
       have c5b1 : (x7_1 != 9) = false := bne_eq_false_iff_eq.mpr c5
       clear c5
       (first | rw [c5b0] | (simp only [i64_w, i32_w]; rw [c5b0]) | skip)
       by_cases c6 : 0 ≤ x7_1
       ·rw [if_pos c6] at H
        have c6b0 : decide (0 ≤ x7_1) = true := decide_eq_true c6
        clear c6
        by_cases c7 : x7_1 < (l0.length : Int)
        ·rw [if_pos c7] at H
         have c7b0 : decide (x7_1 < (l0.length : Int)) = true := decide_eq_true c7
         clear c7
         have H' := Aside0.mk H
         clear H
         have p234 : 0 ≤ (x7_1 : Int) := of_decide_eq_true y2_
         have q234 : x7_1 < (l0.length : Int) := of_decide_eq_true y2_
         obtain ⟨ad234, e234, hx234_0⟩ := Kd.at_int HR0.out x7_1 p234 q234
         cases e234
         replace p234 := eq_true p234
         replace q234 := eq_true q234
         go_wp2
         go_meet
         case rel => exact ⟨_, (decide ((rd l0 x7_1) > 1)), y7_, H', ⟨y112_⟩, y8_⟩
        ·rw [if_neg c7] at H
         exact absurd H (by simp)
       ·rw [if_neg c6] at H
        exact absurd H (by simp)
      ·rw [if_neg c5] at H
       have c5b0 : (x7_1 == 9) = false := beq_eq_false_iff_ne.mpr c5
       have c5b1 : (x7_1 != 9) = true := bne_iff_ne.mpr c5
       (first | rw [c5b0] | (simp only [i64_w, i32_w]; rw [c5b0]) | skip)
       have H' := Aside0.mk H
       clear H
       go_wp2
       go_meet
       case rel => exact ⟨_, (false), y7_, H', ⟨y112_⟩, y8_⟩
     case rest =>
      clear HC4
      try clear c2
      try clear c2b0
      try clear p2
      try clear q2
      try clear hx2
      try clear c3
      try clear c3b0
      try clear c3b1
      try clear c5
      try clear c5b0
      try clear c5b1
      try clear c6
      try clear c6b0
      try clear c7
      try clear c7b0
      try clear hx234_0
      try clear p234
      try clear q234
      obtain ⟨kq, x22_3, rfl, HA, HJ3, ⟨mc3, rfl⟩⟩ := hcut
      cases kq with
      | zero => exact absurd HA.out (by simp [manometerref01_Uvarint.j1])
      | succ kj3 =>
       have H := HA.out
       clear HA
       simp only [manometerref01_Uvarint.j1] at H
       by_cases c8 : x22_3 = true
       ·subst c8
        have H1 : (some (0, 0, 9)) = some (r1, r2, r3) := by rw [if_pos rfl] at H; exact H
        clear H
        have H := H1
        clear H1
        simp only [Option.some.injEq, Prod.mk.injEq] at H
        obtain ⟨rfl, rfl, rfl⟩ := H
        go_wp2
        go_ret3
        exact ⟨y17_, y8_⟩
       ·replace c8 := Bool.eq_false_iff.mpr c8
        subst c8
        have H1 : (if 0 ≤ x7_1 then (if x7_1 < (l0.length : Int) then (if 0 ≤ (IntKind.u64.wrap (wrap64 (7 * x7_1))) then (if (rd l0 x7_1) < 128 then (if x7_1 > 0 then (if (rd l0 x7_1) = 0 then (some (0, 0, 8)) else (some (IntKind.u64.wrap (x5_1 + (shl .u64 (IntKind.u64.wrap (Int.tmod (rd l0 x7_1) 128)) (IntKind.u64.wrap (wrap64 (7 * x7_1))))), wrap64 (x7_1 + 1), 0))) else (some (IntKind.u64.wrap (x5_1 + (shl .u64 (IntKind.u64.wrap (Int.tmod (rd l0 x7_1) 128)) (IntKind.u64.wrap (wrap64 (7 * x7_1))))), wrap64 (x7_1 + 1), 0))) else (manometerref01_Uvarint.l0 kj3 l0 (IntKind.u64.wrap (x5_1 + (shl .u64 (IntKind.u64.wrap (Int.tmod (rd l0 x7_1) 128)) (IntKind.u64.wrap (wrap64 (7 * x7_1)))))) (wrap64 (x7_1 + 1)))) else (none)) else (none)) else (none)) = some (r1, r2, r3) := by rw [if_neg (show ¬ (false = true) by decide)] at H; exact H
        clear H
        have H := H1
        clear H1
        by_cases c9 : 0 ≤ x7_1
        ·rw [if_pos c9] at H
         have c9b0 : decide (0 ≤ x7_1) = true := decide_eq_true c9
         clear c9
         by_cases c10 : x7_1 < (l0.length : Int)
         ·rw [if_pos c10] at H
          have c10b0 : decide (x7_1 < (l0.length : Int)) = true := decide_eq_true c10
          clear c10
          obtain ⟨ji11, hji11⟩ : ∃ j_ : Int, (IntKind.u64.wrap (wrap64 (7 * x7_1))) = j_ := ⟨_, rfl⟩
          replace H : (if 0 ≤ (ji11) then (if (rd l0 x7_1) < 128 then (if x7_1 > 0 then (if (rd l0 x7_1) = 0 then (some (0, 0, 8)) else (some (IntKind.u64.wrap (x5_1 + (shl .u64 (IntKind.u64.wrap (Int.tmod (rd l0 x7_1) 128)) (ji11))), wrap64 (x7_1 + 1), 0))) else (some (IntKind.u64.wrap (x5_1 + (shl .u64 (IntKind.u64.wrap (Int.tmod (rd l0 x7_1) 128)) (ji11))), wrap64 (x7_1 + 1), 0))) else (manometerref01_Uvarint.l0 kj3 l0 (IntKind.u64.wrap (x5_1 + (shl .u64 (IntKind.u64.wrap (Int.tmod (rd l0 x7_1) 128)) (ji11)))) (wrap64 (x7_1 + 1)))) else (none)) = some (r1, r2, r3) := by first | (rw [hji11] at H; exact H) | (simp only [hji11] at H ⊢; exact H)
          by_cases c12 : 0 ≤ (ji11)
          ·rw [if_pos c12] at H
           have c12b0 := eq_true c12
           have c12b1 : decide (0 ≤ (ji11)) = true := decide_eq_true c12
           clear c12
           obtain ⟨ji13, hji13⟩ : ∃ j_ : Int, (shl .u64 (IntKind.u64.wrap (Int.tmod (rd l0 x7_1) 128)) (ji11)) = j_ := ⟨_, rfl⟩
           replace H : (if (rd l0 x7_1) < 128 then (if x7_1 > 0 then (if (rd l0 x7_1) = 0 then (some (0, 0, 8)) else (some (IntKind.u64.wrap (x5_1 + (ji13)), wrap64 (x7_1 + 1), 0))) else (some (IntKind.u64.wrap (x5_1 + (ji13)), wrap64 (x7_1 + 1), 0))) else (manometerref01_Uvarint.l0 kj3 l0 (IntKind.u64.wrap (x5_1 + (ji13))) (wrap64 (x7_1 + 1)))) = some (r1, r2, r3) := by first | (rw [hji13] at H; exact H) | (simp only [hji13] at H ⊢; exact H)
           have hji13_ : (IntKind.u64.wrap ((IntKind.u64.wrap (Int.tmod (rd l0 x7_1) 128)) * 2 ^ min (ji11).toNat 64)) = ji13 := hji13
           have hji13z : (ji11) ≤ 64 → (IntKind.u64.wrap ((IntKind.u64.wrap (Int.tmod (rd l0 x7_1) 128)) * 2 ^ (ji11).toNat)) = ji13 := shl_small hji13
           by_cases c14 : (rd l0 x7_1) < 128
           ·rw [if_pos c14] at H
            have c14b0 : decide ((rd l0 x7_1) < 128) = true := decide_eq_true c14
            clear c14
            by_cases c15 : x7_1 > 0
            ·rw [if_pos c15] at H
             have c15b0 : decide (0 < x7_1) = true := decide_eq_true c15
             clear c15
             by_cases c16 : (rd l0 x7_1) = 0
             ·rw [if_pos c16] at H
              have c16b0 : ((rd l0 x7_1) == 0) = true := beq_iff_eq.mpr c16
              have c16b1 : ((rd l0 x7_1) != 0) = false := bne_eq_false_iff_eq.mpr c16
              clear c16
              simp only [Option.some.injEq, Prod.mk.injEq] at H
              obtain ⟨rfl, rfl, rfl⟩ := H
              have p235 : 0 ≤ (x7_1 : Int) := of_decide_eq_true y2_
              have q235 : x7_1 < (l0.length : Int) := of_decide_eq_true y2_
              obtain ⟨ad235, e235, hx235_0⟩ := Kd.at_int HR0.out x7_1 p235 q235
              cases e235
              replace p235 := eq_true p235
              replace q235 := eq_true q235
              have p236 : 0 ≤ (x7_1 : Int) := of_decide_eq_true y2_
              have q236 : x7_1 < (l0.length : Int) := of_decide_eq_true y2_
              obtain ⟨ad236, e236, hx236_0⟩ := Kd.at_int HR0.out x7_1 p236 q236
              obtain rfl : ad235 = ad236 := (by injection e236)
              replace p236 := eq_true p236
              replace q236 := eq_true q236
              have p237 : 0 ≤ (x7_1 : Int) := of_decide_eq_true y2_
              have q237 : x7_1 < (l0.length : Int) := of_decide_eq_true y2_
              obtain ⟨ad237, e237, hx237_0⟩ := Kd.at_int HR0.out x7_1 p237 q237
              obtain rfl : ad235 = ad237 := (by injection e237)
              replace p237 := eq_true p237
              replace q237 := eq_true q237
              go_wp2
              go_ret3
              exact ⟨y49_, y8_⟩
             ·rw [if_neg c16] at H
              have c16b0 : ((rd l0 x7_1) == 0) = false := beq_eq_false_iff_ne.mpr c16
              have c16b1 : ((rd l0 x7_1) != 0) = true := bne_iff_ne.mpr c16
              simp only [Option.some.injEq, Prod.mk.injEq] at H
              obtain ⟨rfl, rfl, rfl⟩ := H
              have p235 : 0 ≤ (x7_1 : Int) := of_decide_eq_true y2_
              have q235 : x7_1 < (l0.length : Int) := of_decide_eq_true y2_
              obtain ⟨ad235, e235, hx235_0⟩ := Kd.at_int HR0.out x7_1 p235 q235
              cases e235
              replace p235 := eq_true p235
              replace q235 := eq_true q235
              have p236 : 0 ≤ (x7_1 : Int) := of_decide_eq_true y2_
              have q236 : x7_1 < (l0.length : Int) := of_decide_eq_true y2_
              obtain ⟨ad236, e236, hx236_0⟩ := Kd.at_int HR0.out x7_1 p236 q236
              obtain rfl : ad235 = ad236 := (by injection e236)
              replace p236 := eq_true p236
              replace q236 := eq_true q236
              have p237 : 0 ≤ (x7_1 : Int) := of_decide_eq_true y2_
              have q237 : x7_1 < (l0.length : Int) := of_decide_eq_true y2_
              obtain ⟨ad237, e237, hx237_0⟩ := Kd.at_int HR0.out x7_1 p237 q237
              obtain rfl : ad235 = ad237 := (by injection e237)
              replace p237 := eq_true p237
              replace q237 := eq_true q237
              go_wp2
              go_ret3
              exact ⟨y49_, y8_⟩
            ·rw [if_neg c15] at H
             have c15b0 : decide (0 < x7_1) = false := decide_eq_false c15
             clear c15
             simp only [Option.some.injEq, Prod.mk.injEq] at H
             obtain ⟨rfl, rfl, rfl⟩ := H
             have p235 : 0 ≤ (x7_1 : Int) := of_decide_eq_true y2_
             have q235 : x7_1 < (l0.length : Int) := of_decide_eq_true y2_
             obtain ⟨ad235, e235, hx235_0⟩ := Kd.at_int HR0.out x7_1 p235 q235
             cases e235
             replace p235 := eq_true p235
             replace q235 := eq_true q235
             have p236 : 0 ≤ (x7_1 : Int) := of_decide_eq_true y2_
             have q236 : x7_1 < (l0.length : Int) := of_decide_eq_true y2_
             obtain ⟨ad236, e236, hx236_0⟩ := Kd.at_int HR0.out x7_1 p236 q236
             obtain rfl : ad235 = ad236 := (by injection e236)
             replace p236 := eq_true p236
             replace q236 := eq_true q236
             go_wp2
             go_ret3
             exact ⟨y49_, y8_⟩
           ·rw [if_neg c14] at H
            have c14b0 : decide ((rd l0 x7_1) < 128) = false := decide_eq_false c14
            clear c14
            have H' := Aside0.mk H
            clear H
            have p235 : 0 ≤ (x7_1 : Int) := of_decide_eq_true y2_
            have q235 : x7_1 < (l0.length : Int) := of_decide_eq_true y2_
            obtain ⟨ad235, e235, hx235_0⟩ := Kd.at_int HR0.out x7_1 p235 q235
            cases e235
            replace p235 := eq_true p235
            replace q235 := eq_true q235
            have p236 : 0 ≤ (x7_1 : Int) := of_decide_eq_true y2_
            have q236 : x7_1 < (l0.length : Int) := of_decide_eq_true y2_
            obtain ⟨ad236, e236, hx236_0⟩ := Kd.at_int HR0.out x7_1 p236 q236
            obtain rfl : ad235 = ad236 := (by injection e236)
            replace p236 := eq_true p236
            replace q236 := eq_true q236
            go_wp2
            go_roundg kj3
            case measure => have := HK1.out; have := HJ3.out; omega
            case rel => exact ⟨(IntKind.u64.wrap (x5_1 + (ji13))), (wrap64 (x7_1 + 1)), (by first | rfl | (simp; done) | ((simp only [← hji13] <;> (first | rfl | simp)); done) | (congr 1; first | assumption | (symm; assumption)) | (simp [*]; done)), y7_, H', ⟨by have := HK1.out; have := HJ3.out; omega⟩, y8_⟩
          ·rw [if_neg c12] at H
           exact absurd H (by simp)
         ·rw [if_neg c10] at H
          exact absurd H (by simp)
        ·rw [if_neg c9] at H
         exact absurd H (by simp)
   ·rw [if_neg c2] at H
    have c2b0 : decide (x7_1 < 10) = false := decide_eq_false c2
    clear c2
    simp only [Option.some.injEq, Prod.mk.injEq] at H
    obtain ⟨rfl, rfl, rfl⟩ := H
    go_wp2
    go_ret3
    exact ⟨y17_, y8_⟩
def manometerref05_Letter.f (a0 : Int) : Option (Bool) := if a0 ≥ 97 then (if a0 ≤ 122 then (some true) else (if a0 ≥ 65 then (if a0 ≤ 90 then (some true) else (if a0 ≥ 48 then (if a0 ≤ 57 then (some true) else (some (a0 == 95))) else (some (a0 == 95)))) else (if a0 ≥ 48 then (if a0 ≤ 57 then (some true) else (some (a0 == 95))) else (some (a0 == 95))))) else (if a0 ≥ 65 then (if a0 ≤ 90 then (some true) else (if a0 ≥ 48 then (if a0 ≤ 57 then (some true) else (some (a0 == 95))) else (some (a0 == 95)))) else (if a0 ≥ 48 then (if a0 ≤ 57 then (some true) else (some (a0 == 95))) else (some (a0 == 95))))
set_option maxHeartbeats 8000000 in
set_option maxRecDepth 100000 in
theorem manometerref05_Letter.calls (a0 : Int) (r : Bool) (w : World) (h : manometerref05_Letter.f a0 = some r) :
  Calls Tryd.prog 62 #[.int .u8 a0] w fun e w' => e = .returned (.bool r) ∧ Drawn0 w w' := by
 have H : (if a0 ≥ 97 then (if a0 ≤ 122 then (some true) else (if a0 ≥ 65 then (if a0 ≤ 90 then (some true) else (if a0 ≥ 48 then (if a0 ≤ 57 then (some true) else (some (a0 == 95))) else (some (a0 == 95)))) else (if a0 ≥ 48 then (if a0 ≤ 57 then (some true) else (some (a0 == 95))) else (some (a0 == 95))))) else (if a0 ≥ 65 then (if a0 ≤ 90 then (some true) else (if a0 ≥ 48 then (if a0 ≤ 57 then (some true) else (some (a0 == 95))) else (some (a0 == 95)))) else (if a0 ≥ 48 then (if a0 ≤ 57 then (some true) else (some (a0 == 95))) else (some (a0 == 95))))) = some r := h
 clear h
 by_cases c2 : a0 ≥ 97
 ·rw [if_pos c2] at H
  have c2b0 : decide (97 ≤ a0) = true := decide_eq_true c2
  clear c2
  by_cases c3 : a0 ≤ 122
  ·rw [if_pos c3] at H
   have c3b0 : decide (a0 ≤ 122) = true := decide_eq_true c3
   clear c3
   obtain rfl := Option.some.inj H
   go_enter Tryd.func62, Tryd.ntmps62
   go_wp2
   go_ret
   exact ⟨y17_, y8_⟩
  ·rw [if_neg c3] at H
   have c3b0 : decide (a0 ≤ 122) = false := decide_eq_false c3
   clear c3
   by_cases c4 : a0 ≥ 65
   ·rw [if_pos c4] at H
    have c4b0 : decide (65 ≤ a0) = true := decide_eq_true c4
    clear c4
    by_cases c5 : a0 ≤ 90
    ·rw [if_pos c5] at H
     have c5b0 : decide (a0 ≤ 90) = true := decide_eq_true c5
     clear c5
     obtain rfl := Option.some.inj H
     go_enter Tryd.func62, Tryd.ntmps62
     go_wp2
     go_ret
     exact ⟨y17_, y8_⟩
    ·rw [if_neg c5] at H
     have c5b0 : decide (a0 ≤ 90) = false := decide_eq_false c5
     clear c5
     by_cases c6 : a0 ≥ 48
     ·rw [if_pos c6] at H
      have c6b0 : decide (48 ≤ a0) = true := decide_eq_true c6
      clear c6
      by_cases c7 : a0 ≤ 57
      ·rw [if_pos c7] at H
       have c7b0 : decide (a0 ≤ 57) = true := decide_eq_true c7
       clear c7
       obtain rfl := Option.some.inj H
       go_enter Tryd.func62, Tryd.ntmps62
       go_wp2
       go_ret
       exact ⟨y17_, y8_⟩
      ·rw [if_neg c7] at H
       have c7b0 : decide (a0 ≤ 57) = false := decide_eq_false c7
       clear c7
       obtain rfl := Option.some.inj H
       go_enter Tryd.func62, Tryd.ntmps62
       go_wp2
       go_ret
       exact ⟨y17_, y8_⟩
     ·rw [if_neg c6] at H
      have c6b0 : decide (48 ≤ a0) = false := decide_eq_false c6
      clear c6
      obtain rfl := Option.some.inj H
      go_enter Tryd.func62, Tryd.ntmps62
      go_wp2
      go_ret
      exact ⟨y17_, y8_⟩
   ·rw [if_neg c4] at H
    have c4b0 : decide (65 ≤ a0) = false := decide_eq_false c4
    clear c4
    by_cases c8 : a0 ≥ 48
    ·rw [if_pos c8] at H
     have c8b0 : decide (48 ≤ a0) = true := decide_eq_true c8
     clear c8
     by_cases c9 : a0 ≤ 57
     ·rw [if_pos c9] at H
      have c9b0 : decide (a0 ≤ 57) = true := decide_eq_true c9
      clear c9
      obtain rfl := Option.some.inj H
      go_enter Tryd.func62, Tryd.ntmps62
      go_wp2
      go_ret
      exact ⟨y17_, y8_⟩
     ·rw [if_neg c9] at H
      have c9b0 : decide (a0 ≤ 57) = false := decide_eq_false c9
      clear c9
      obtain rfl := Option.some.inj H
      go_enter Tryd.func62, Tryd.ntmps62
      go_wp2
      go_ret
      exact ⟨y17_, y8_⟩
    ·rw [if_neg c8] at H
     have c8b0 : decide (48 ≤ a0) = false := decide_eq_false c8
     clear c8
     obtain rfl := Option.some.inj H
     go_enter Tryd.func62, Tryd.ntmps62
     go_wp2
     go_ret
     exact ⟨y17_, y8_⟩
 ·rw [if_neg c2] at H
  have c2b0 : decide (97 ≤ a0) = false := decide_eq_false c2
  clear c2
  by_cases c10 : a0 ≥ 65
  ·rw [if_pos c10] at H
   have c10b0 : decide (65 ≤ a0) = true := decide_eq_true c10
   clear c10
   by_cases c11 : a0 ≤ 90
   ·rw [if_pos c11] at H
    have c11b0 : decide (a0 ≤ 90) = true := decide_eq_true c11
    clear c11
    obtain rfl := Option.some.inj H
    go_enter Tryd.func62, Tryd.ntmps62
    go_wp2
    go_ret
    exact ⟨y17_, y8_⟩
   ·rw [if_neg c11] at H
    have c11b0 : decide (a0 ≤ 90) = false := decide_eq_false c11
    clear c11
    by_cases c12 : a0 ≥ 48
    ·rw [if_pos c12] at H
     have c12b0 : decide (48 ≤ a0) = true := decide_eq_true c12
     clear c12
     by_cases c13 : a0 ≤ 57
     ·rw [if_pos c13] at H
      have c13b0 : decide (a0 ≤ 57) = true := decide_eq_true c13
      clear c13
      obtain rfl := Option.some.inj H
      go_enter Tryd.func62, Tryd.ntmps62
      go_wp2
      go_ret
      exact ⟨y17_, y8_⟩
     ·rw [if_neg c13] at H
      have c13b0 : decide (a0 ≤ 57) = false := decide_eq_false c13
      clear c13
      obtain rfl := Option.some.inj H
      go_enter Tryd.func62, Tryd.ntmps62
      go_wp2
      go_ret
      exact ⟨y17_, y8_⟩
    ·rw [if_neg c12] at H
     have c12b0 : decide (48 ≤ a0) = false := decide_eq_false c12
     clear c12
     obtain rfl := Option.some.inj H
     go_enter Tryd.func62, Tryd.ntmps62
     go_wp2
     go_ret
     exact ⟨y17_, y8_⟩
  ·rw [if_neg c10] at H
   have c10b0 : decide (65 ≤ a0) = false := decide_eq_false c10
   clear c10
   by_cases c14 : a0 ≥ 48
   ·rw [if_pos c14] at H
    have c14b0 : decide (48 ≤ a0) = true := decide_eq_true c14
    clear c14
    by_cases c15 : a0 ≤ 57
    ·rw [if_pos c15] at H
     have c15b0 : decide (a0 ≤ 57) = true := decide_eq_true c15
     clear c15
     obtain rfl := Option.some.inj H
     go_enter Tryd.func62, Tryd.ntmps62
     go_wp2
     go_ret
     exact ⟨y17_, y8_⟩
    ·rw [if_neg c15] at H
     have c15b0 : decide (a0 ≤ 57) = false := decide_eq_false c15
     clear c15
     obtain rfl := Option.some.inj H
     go_enter Tryd.func62, Tryd.ntmps62
     go_wp2
     go_ret
     exact ⟨y17_, y8_⟩
   ·rw [if_neg c14] at H
    have c14b0 : decide (48 ≤ a0) = false := decide_eq_false c14
    clear c14
    obtain rfl := Option.some.inj H
    go_enter Tryd.func62, Tryd.ntmps62
    go_wp2
    go_ret
    exact ⟨y17_, y8_⟩
def manometerref05_Named.l0 : Nat → ByteArray → Int → Int → Option (Bool)
 | 0, _, _, _ => none
 | k + 1, x0, x5, x6 => if x6 < x5 then (if 0 ≤ x6 then (if x6 < (x0.size : Int) then ((manometerref05_Letter.f (bt x0 x6)).bind fun t238 => (if t238 = true then (manometerref05_Named.l0 k x0 x5 (wrap64 (x6 + 1))) else (some false))) else (none)) else (none)) else (if (x0.size : Int) ≥ 1 then (if (x0.size : Int) ≤ 64 then (if 0 < (x0.size : Int) then (if (bt x0 0) < 48 then (some true) else (some (decide ((bt x0 0) > 57)))) else (none)) else (some false)) else (some false))
def manometerref05_Named.f (k : Nat) (a0 : ByteArray) : Option (Bool) := manometerref05_Named.l0 k a0 (a0.size : Int) 0
set_option maxHeartbeats 8000000 in
set_option maxRecDepth 100000 in
theorem manometerref05_Named.calls (k : Nat) (a0 : ByteArray) (r : Bool) (w : World) (h : manometerref05_Named.f k a0 = some r) :
  Calls Tryd.prog 52 #[.string a0] w fun e w' => e = .returned (.bool r) ∧ Drawn0 w w' := by
 have H : (manometerref05_Named.l0 k a0 (a0.size : Int) 0) = some r := h
 clear h
 have H' := Aside0.mk H
 clear H
 go_enter Tryd.func52, Tryd.ntmps52
 go_wp2
 go_loopg [6] k (fun kq v6 w' => ∃ (x6_1 : Int), v6 = .int .i64 x6_1 ∧ Aside0 (manometerref05_Named.l0 kq a0 (a0.size : Int) x6_1 = some r) ∧ Aside0 (kq ≤ k) ∧ Drawn0 w w')
 case atStart => exact ⟨(0), y7_, H', ⟨Nat.le_refl _⟩, y8_⟩
 case round =>
  clear H'
  obtain ⟨x6_1, rfl, HA, HK1, ⟨m1, rfl⟩⟩ := hrel
  cases gk with
  | zero => exact absurd HA.out (by simp [manometerref05_Named.l0])
  | succ k1 =>
   have H := HA.out
   clear HA
   simp only [manometerref05_Named.l0] at H
   by_cases c2 : x6_1 < (a0.size : Int)
   ·rw [if_pos c2] at H
    have c2b0 : decide (x6_1 < (a0.size : Int)) = true := decide_eq_true c2
    clear c2
    by_cases c3 : 0 ≤ x6_1
    ·rw [if_pos c3] at H
     have c3b0 : decide (0 ≤ x6_1) = true := decide_eq_true c3
     clear c3
     by_cases c4 : x6_1 < (a0.size : Int)
     ·rw [if_pos c4] at H
      have c4b0 : decide (x6_1 < (a0.size : Int)) = true := decide_eq_true c4
      clear c4
      replace H := Option.bind_eq_some_iff.mp H
      obtain ⟨t238, A60, H⟩ := H
      replace H : (if t238 = true then (manometerref05_Named.l0 k1 a0 (a0.size : Int) (wrap64 (x6_1 + 1))) else (some false)) = some r := H
      have A6 := Aside0.mk A60
      clear A60
      by_cases c7 : t238 = true
      ·subst c7
       have H1 : (manometerref05_Named.l0 k1 a0 (a0.size : Int) (wrap64 (x6_1 + 1))) = some r := by rw [if_pos rfl] at H; exact H
       clear H
       have H := H1
       clear H1
       have H' := Aside0.mk H
       clear H
       have p5 : 0 ≤ (x6_1 : Int) := of_decide_eq_true y2_
       have q5 : x6_1 < (a0.size : Int) := of_decide_eq_true y2_
       have hx5 := bt_at a0 x6_1
       replace p5 := eq_true p5
       replace q5 := eq_true q5
       go_wp2_with (first | ((with_reducible refine gate_callee (f := 62) rfl ?_); refine goesL_ (some 12) rfl rfl Tryd.func62 (by kernel_rfl) rfl #[.int .u8 (bt a0 x6_1)] rfl y3_ ?_; (with_reducible refine (manometerref05_Letter.calls (bt a0 x6_1) true _ A6.out).mono ?_); rintro e w' ⟨rfl, ⟨nd, rfl⟩⟩; refine ⟨_, rfl, ?_⟩))
       go_roundg k1
       case measure => have := HK1.out; omega
       case rel => exact ⟨(wrap64 (x6_1 + 1)), y7_, H', ⟨y109_⟩, y8_⟩
      ·replace c7 := Bool.eq_false_iff.mpr c7
       subst c7
       have H1 : (some false) = some r := by rw [if_neg (show ¬ (false = true) by decide)] at H; exact H
       clear H
       have H := H1
       clear H1
       obtain rfl := Option.some.inj H
       have p5 : 0 ≤ (x6_1 : Int) := of_decide_eq_true y2_
       have q5 : x6_1 < (a0.size : Int) := of_decide_eq_true y2_
       have hx5 := bt_at a0 x6_1
       replace p5 := eq_true p5
       replace q5 := eq_true q5
       go_wp2_with (first | ((with_reducible refine gate_callee (f := 62) rfl ?_); refine goesL_ (some 12) rfl rfl Tryd.func62 (by kernel_rfl) rfl #[.int .u8 (bt a0 x6_1)] rfl y3_ ?_; (with_reducible refine (manometerref05_Letter.calls (bt a0 x6_1) false _ A6.out).mono ?_); rintro e w' ⟨rfl, ⟨nd, rfl⟩⟩; refine ⟨_, rfl, ?_⟩))
       go_ret
       exact ⟨y17_, y8_⟩
     ·rw [if_neg c4] at H
      exact absurd H (by simp)
    ·rw [if_neg c3] at H
     exact absurd H (by simp)
   ·rw [if_neg c2] at H
    have c2b0 : decide (x6_1 < (a0.size : Int)) = false := decide_eq_false c2
    clear c2
    by_cases c8 : (a0.size : Int) ≥ 1
    ·rw [if_pos c8] at H
     have c8b0 : decide (1 ≤ (a0.size : Int)) = true := decide_eq_true c8
     have c8b1 : decide (1 ≤ a0.size) = true := decide_eq_true (by omega)
     clear c8
     by_cases c9 : (a0.size : Int) ≤ 64
     ·rw [if_pos c9] at H
      have c9b0 : decide ((a0.size : Int) ≤ 64) = true := decide_eq_true c9
      have c9b1 : decide (a0.size ≤ 64) = true := decide_eq_true (by omega)
      clear c9
      by_cases c10 : 0 < (a0.size : Int)
      ·rw [if_pos c10] at H
       have c10b0 : decide (0 < (a0.size : Int)) = true := decide_eq_true c10
       have c10b1 : decide (0 < a0.size) = true := decide_eq_true (by omega)
       clear c10
       by_cases c12 : (bt a0 0) < 48
       ·rw [if_pos c12] at H
        have c12b0 : decide ((bt a0 0) < 48) = true := decide_eq_true c12
        clear c12
        obtain rfl := Option.some.inj H
        have p11 : 0 ≤ (0 : Int) := (by omega)
        have q11 : 0 < a0.size := (by have : (0 : Int) < (a0.size : Int) := of_decide_eq_true y2_; omega)
        have hx11 : ∀ h : 0 < a0.size, ((a0[0]'h).toNat : Int) = bt a0 0 := bt_at a0 0
        clear p11
        have qi11 : (0 < (a0.size : Int)) = True := eq_true (of_decide_eq_true y2_)
        replace q11 := eq_true q11
        go_wp2
        go_ret
        exact ⟨y17_, y8_⟩
       ·rw [if_neg c12] at H
        have c12b0 : decide ((bt a0 0) < 48) = false := decide_eq_false c12
        clear c12
        obtain rfl := Option.some.inj H
        have p11 : 0 ≤ (0 : Int) := (by omega)
        have q11 : 0 < a0.size := (by have : (0 : Int) < (a0.size : Int) := of_decide_eq_true y2_; omega)
        have hx11 : ∀ h : 0 < a0.size, ((a0[0]'h).toNat : Int) = bt a0 0 := bt_at a0 0
        clear p11
        have qi11 : (0 < (a0.size : Int)) = True := eq_true (of_decide_eq_true y2_)
        replace q11 := eq_true q11
        have p13 : 0 ≤ (0 : Int) := (by omega)
        have q13 : 0 < a0.size := (by have : (0 : Int) < (a0.size : Int) := of_decide_eq_true y2_; omega)
        have hx13 : ∀ h : 0 < a0.size, ((a0[0]'h).toNat : Int) = bt a0 0 := bt_at a0 0
        clear p13
        have qi13 : (0 < (a0.size : Int)) = True := eq_true (of_decide_eq_true y2_)
        replace q13 := eq_true q13
        go_wp2
        go_ret
        exact ⟨y17_, y8_⟩
      ·rw [if_neg c10] at H
       exact absurd H (by simp)
     ·rw [if_neg c9] at H
      have c9b0 : decide ((a0.size : Int) ≤ 64) = false := decide_eq_false c9
      have c9b1 : decide (a0.size ≤ 64) = false := decide_eq_false (by omega)
      clear c9
      obtain rfl := Option.some.inj H
      go_wp2
      go_ret
      exact ⟨y17_, y8_⟩
    ·rw [if_neg c8] at H
     have c8b0 : decide (1 ≤ (a0.size : Int)) = false := decide_eq_false c8
     have c8b1 : decide (1 ≤ a0.size) = false := decide_eq_false (by omega)
     clear c8
     obtain rfl := Option.some.inj H
     go_wp2
     go_ret
     exact ⟨y17_, y8_⟩
end Go.Proofs.YtdckhaejhfkkbaaDoor.PRT
