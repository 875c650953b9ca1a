import Derived.Test.YtdckhaejhfkkbaaDoorCRecordTakesPRTx0
import Derived.Test.YtdckhaejhfkkbaaDoorCRecordTakesPRTx21
import Derived.Test.YtdckhaejhfkkbaaDoorCRecordTakesPRTx9
import Derived.Test.YtdckhaejhfkkbaaDoorCRecordTakesPRTx12
import Derived.Test.YtdckhaejhfkkbaaDoorCRecordTakesPRTx13
import Derived.Test.YtdckhaejhfkkbaaDoorCRecordTakesQ2
import Derived.Test.YtdckhaejhfkkbaaDoorCRecordTakesY
namespace Go.Proofs.YtdckhaejhfkkbaaDoor.PRT
open Go.RowKit Go.Proofs.YtdckhaejhfkkbaaDoorW.PrintWords Go.Proofs.YtdckhaejhfkkbaaDoorW.PrintLast Go.Proofs.YtdckhaejhfkkbaaDoorW.PrintMore
attribute [local go_sem] max2_int min2_int max_two min_two max_three min_three max_four min_four
set_option linter.unusedVariables false
set_option linter.unusedSimpArgs false
attribute [local go_sem high] eqA52
def manometerref13_Take.l0 : Nat → List Int → Int → Int → Int → Int → List (S45) → Int → Int → Int → Int → Option (Int × Int × (List (S52)) × (List (S45)) × Int)
 | 0, _, _, _, _, _, _, _, _, _, _ => none
 | k + 1, x0, x56, x57, x378000, x378001, x378003, x384000, x384001, x384002, x384003 => if x57 < x56 then ((manometerref13_one.f k x0 x384000 x384001 x384002 x384003).bind fun bt384 => (if bt384.2.2.2.2.2 = 0 then (if x378003.length < 4398046511104 then (manometerref13_Take.l0 k bt384.2.2.2.2.1 x56 (wrap64 (x57 + 1)) x378000 x378001 (x378003 ++ [(⟨bt384.1, (⟨bt384.2.1, bt384.2.2.1, bt384.2.2.2.1⟩ : S43)⟩ : S45)]) bt384.1 bt384.2.1 bt384.2.2.1 bt384.2.2.2.1) else (none)) else (some (0, 0, ([] : List (S52)), ([] : List (S45)), bt384.2.2.2.2.2)))) else (if (x0.length : Int) > 0 then (some (0, 0, ([] : List (S52)), ([] : List (S45)), 8)) else (some (x378000, x378001, ([] : List (S52)), x378003, 0)))
def manometerref13_Take.f (k : Nat) (l0 : List Int) : Option (Int × Int × (List (S52)) × (List (S45)) × Int) := if (l0.length : Int) = 0 then (some (0, 0, ([] : List (S52)), ([] : List (S45)), 6)) else (if 0 < (l0.length : Int) then (if (rd l0 0) = 1 then (if 1 ≤ (l0.length : Int) then ((manometerref13_series.f k (l0.drop 1)).bind fun bt359 => (some (bt359.1, bt359.2.1, bt359.2.2.1, bt359.2.2.2.1, bt359.2.2.2.2))) else (none)) else (if (rd l0 0) = 2 then (if 1 ≤ (l0.length : Int) then ((manometerref01_Uvarint.f k (l0.drop 1)).bind fun bt374 => (if bt374.2.2 = 0 then (if bt374.1 > 256 then (some (0, 0, ([] : List (S52)), ([] : List (S45)), 3)) else (if bt374.1 = 0 then (some (0, 0, ([] : List (S52)), ([] : List (S45)), 1)) else (if 0 ≤ (wrap64 (1 + bt374.2.1)) then (if (wrap64 (1 + bt374.2.1)) ≤ (l0.length : Int) then (manometerref13_Take.l0 k (l0.drop ((wrap64 (1 + bt374.2.1)) : Int).toNat) (wrap64 (bt374.1)) 0 2 0 ([] : List (S45)) 0 0 0 0) else (none)) else (none)))) else (some (0, 0, ([] : List (S52)), ([] : List (S45)), bt374.2.2)))) else (none)) else (some (0, 0, ([] : List (S52)), ([] : List (S45)), 130)))) else (none))
set_option maxHeartbeats 8000000 in
set_option maxRecDepth 100000 in
theorem manometerref13_Take.calls (k : Nat) (P0_ : Nat → Prop) (A0 : Option Addr) (c0 : Nat) (l0 : List Int) (r1 : Int) (r2 : Int) (r3 : List (S52)) (r4 : List (S45)) (r5 : Int) (w : World) (hs0 : Kd.V (Kd.int .u8) 5 w w.heap.size (fun k_ => P0_ k_) (.slice A0 l0.length c0) l0) (h : manometerref13_Take.f k l0 = some (r1, r2, r3, r4, r5)) :
  Calls Tryd.prog 10 #[.slice A0 l0.length c0] w fun e w' => ∃ v2_ v3_ : Value, e = .returned (.tuple #[.agg #[.int .i64 r1, .int .u32 r2, v2_, v3_], .int .i64 r5]) ∧ Kd.R k52 52 w' w.heap.size (fun k_ => (w.heap.size ≤ k_)) v2_ r3 ∧ Kd.R k45 45 w' w.heap.size (fun k_ => (w.heap.size ≤ k_)) v3_ r4 ∧ Below w.heap.size w w' := by
 have hu29 := Tryd.underlying29
 have hu45 := Tryd.underlying45
 have HO0 := Aside0.mk (show Kd.V (Kd.int .u8) 5 w w.heap.size (fun k_ => (P0_ k_ ∨ w.heap.size ≤ k_)) (.slice A0 l0.length c0) l0 from Kd.V_mono hs0 (fun k_ hk => .inl hk))
 have HB := Aside0.mk (Below.refl w.heap.size w)
 have H : (if (l0.length : Int) = 0 then (some (0, 0, ([] : List (S52)), ([] : List (S45)), 6)) else (if 0 < (l0.length : Int) then (if (rd l0 0) = 1 then (if 1 ≤ (l0.length : Int) then ((manometerref13_series.f k (l0.drop 1)).bind fun bt359 => (some (bt359.1, bt359.2.1, bt359.2.2.1, bt359.2.2.2.1, bt359.2.2.2.2))) else (none)) else (if (rd l0 0) = 2 then (if 1 ≤ (l0.length : Int) then ((manometerref01_Uvarint.f k (l0.drop 1)).bind fun bt374 => (if bt374.2.2 = 0 then (if bt374.1 > 256 then (some (0, 0, ([] : List (S52)), ([] : List (S45)), 3)) else (if bt374.1 = 0 then (some (0, 0, ([] : List (S52)), ([] : List (S45)), 1)) else (if 0 ≤ (wrap64 (1 + bt374.2.1)) then (if (wrap64 (1 + bt374.2.1)) ≤ (l0.length : Int) then (manometerref13_Take.l0 k (l0.drop ((wrap64 (1 + bt374.2.1)) : Int).toNat) (wrap64 (bt374.1)) 0 2 0 ([] : List (S45)) 0 0 0 0) else (none)) else (none)))) else (some (0, 0, ([] : List (S52)), ([] : List (S45)), bt374.2.2)))) else (none)) else (some (0, 0, ([] : List (S52)), ([] : List (S45)), 130)))) else (none))) = some (r1, r2, r3, r4, r5) := h
 clear h
 by_cases c2 : (l0.length : Int) = 0
 ·rw [if_pos c2] at H
  have c2b0 : ((l0.length : Int) == 0) = true := beq_iff_eq.mpr c2
  have c2b1 : ((l0.length : Int) != 0) = false := bne_eq_false_iff_eq.mpr c2
  clear c2
  simp only [Option.some.injEq, Prod.mk.injEq] at H
  obtain ⟨rfl, rfl, rfl, rfl, rfl⟩ := H
  go_enter Tryd.func10, Tryd.ntmps10
  go_wp2_with (first | ((with_reducible refine gate_dst (N := 2) rfl ?_); refine box_event ?hg (N := 2) ?hd (cs := #[.int .i64 0, .int .u32 0, .slice none 0 0, .slice none 0 0]) (t := 29) ?hr ?_; (case hd => rfl); (case hg => rfl); (case hr => first | (go_simp; done) | (go_simp; rfl)); intro gb352 hg w3 hbox hb; have n0_ := Aside0.mk (Kd.V_below (Kd.V_elderB y32_ gb352 (Nat.le_of_eq hg.symm)) hb); have n1_ := Aside0.mk (below_step y1_ hb); have n2_ := Aside0.mk (hbox); have n3_ := Aside0.mk ((y12_ : w.heap.size ≤ gb352)); have n4_ := Aside0.mk ((y12_ : w.heap.size ≤ gb352)); clear HO0; clear HB; have HO0 := n0_; have HB := n1_; have BK352 := n2_; have GW352 := n3_; have GE352 := n4_; clear n0_ n1_ n2_ n3_ n4_; clear hb hbox hg; have hcz4_0 : w3.cell? ⟨gb352, 0, none⟩ = some (.int .i64 0) := (blk_cell BK352.out 0).trans rfl; have hcz4_1 : w3.cell? ⟨gb352, 1, none⟩ = some (.int .u32 0) := (blk_cell BK352.out 1).trans rfl; have hcz4_2 : w3.cell? ⟨gb352, 2, none⟩ = some (.slice none 0 0) := (blk_cell BK352.out 2).trans rfl; have hcz4_3 : w3.cell? ⟨gb352, 3, none⟩ = some (.slice none 0 0) := (blk_cell BK352.out 3).trans rfl; have hfz4_0 := blk_frozen BK352.out 0; have hfz4_1 := blk_frozen BK352.out 1; have hfz4_2 := blk_frozen BK352.out 2; have hfz4_3 := blk_frozen BK352.out 3))
  refine bodyPost_ret (results_ct rfl _ _ gb352 29 #[.int .i64 0, .int .u32 0, .slice none 0 0, .slice none 0 0] (0, 0) _ rfl y11_ Tryd.underlying29 rfl (by kernel_rfl)) rfl ?_
  exact ⟨_, _, y4_, y6_, y6_, y19_⟩
 ·rw [if_neg c2] at H
  have c2b0 : ((l0.length : Int) == 0) = false := beq_eq_false_iff_ne.mpr c2
  have c2b1 : ((l0.length : Int) != 0) = true := bne_iff_ne.mpr c2
  have c2b2 : ¬ (l0 = []) := fun h_ => c2 (by rw [h_]; rfl)
  by_cases c5 : 0 < (l0.length : Int)
  ·rw [if_pos c5] at H
   have c5b0 : decide (0 < (l0.length : Int)) = true := decide_eq_true c5
   have c5b1 : decide (0 < l0.length) = true := decide_eq_true (by omega)
   clear c5
   by_cases c6 : (rd l0 0) = 1
   ·rw [if_pos c6] at H
    have c6b0 : ((rd l0 0) == 1) = true := beq_iff_eq.mpr c6
    have c6b1 : ((rd l0 0) != 1) = false := bne_eq_false_iff_eq.mpr c6
    clear c6
    by_cases c7 : 1 ≤ (l0.length : Int)
    ·rw [if_pos c7] at H
     have c7b0 := eq_true c7
     have c7b1 : decide (1 ≤ (l0.length : Int)) = true := decide_eq_true c7
     clear c7
     obtain ⟨y354, hy354⟩ : ∃ y_ : List Int, y_ = (l0.drop 1) := ⟨_, rfl⟩
     replace H : ((manometerref13_series.f k y354).bind fun bt359 => (some (bt359.1, bt359.2.1, bt359.2.2.1, bt359.2.2.2.1, bt359.2.2.2.2))) = some (r1, r2, r3, r4, r5) := by first | (rw [hy354]; with_reducible exact H) | (have H2_ := (Option.bind_some _ _).symm.trans H; rw [hy354]; with_reducible exact H2_) | (have H2_ := (Option.bind_some _ _).symm.trans H; with_reducible exact H2_) | with_reducible exact H | (rw [hy354]; exact H) | exact H
     have Ny354 := Aside0.mk hy354
     clear hy354
     replace H := Option.bind_eq_some_iff.mp H
     obtain ⟨⟨t359, t360, t361, t364, t367⟩, A80, H⟩ := H
     replace H : (some (t359, t360, t361, t364, t367)) = some (r1, r2, r3, r4, r5) := H
     have A8 := Aside0.mk A80
     clear A80
     simp only [Option.some.injEq, Prod.mk.injEq] at H
     obtain ⟨rfl, rfl, rfl, rfl, rfl⟩ := H
     go_enter Tryd.func10, Tryd.ntmps10
     go_wp2_with (first | ((with_reducible refine gate_dst (N := 2) rfl ?_); refine box_event ?hg (N := 2) ?hd (cs := #[.int .i64 0, .int .u32 0, .slice none 0 0, .slice none 0 0]) (t := 29) ?hr ?_; (case hd => rfl); (case hg => rfl); (case hr => first | (go_simp; done) | (go_simp; rfl)); intro gb352 hg w9 hbox hb; have n0_ := Aside0.mk (Kd.V_below (Kd.V_elderB y32_ gb352 (Nat.le_of_eq hg.symm)) hb); have n1_ := Aside0.mk (below_step y1_ hb); have n2_ := Aside0.mk (hbox); have n3_ := Aside0.mk ((y12_ : w.heap.size ≤ gb352)); have n4_ := Aside0.mk ((y12_ : w.heap.size ≤ gb352)); clear HO0; clear HB; have HO0 := n0_; have HB := n1_; have BK352 := n2_; have GW352 := n3_; have GE352 := n4_; clear n0_ n1_ n2_ n3_ n4_; clear hb hbox hg; have p353 : 0 ≤ (0 : Int) := (by omega); have q353 : 0 < (l0.length : Int) := of_decide_eq_true y2_; obtain ⟨ad353, e353, hx353_0⟩ := Kd.at_int (Kd.V_reads' HO0.out).2.2 0 p353 q353; cases e353; have qi353 : (0 < l0.length) = True := eq_true (by omega); (try rw [show ((0 : Int)).toNat = 0 from rfl] at hx353_0); (try rw [Addr.add_zero'] at hx353_0); replace p353 := eq_true p353; replace q353 := eq_true q353; have q10 : (1 : Int) ≤ ((l0.length : Int) : Int) := of_decide_eq_true y2_; obtain ⟨i010, hi010, _, hsz10, _⟩ := info_parts info5; have hroom10 : l0.length ≤ c0 := (Kd.V_reads' HO0.out).2.1; have hC10 : Kd.F (Kd.int .u8) _ _ (some ad353) l0.length l0 := (Kd.V_at (base := w.heap.size) HO0.out).2.2; have hcut10 := cut_from (P := Tryd.prog) 22 5 .i64 Tryd.underlying22 hi010 1 hsz10 (some ad353) l0.length c0 1 (by omega) q10; have hr10 := Kd.F_cut (m := (1 : Int).toNat) (c := c0) hC10 (by omega) hroom10; obtain ⟨A10, hA10⟩ : ∃ A1, A1 = (if c0 = (1 : Int).toNat then (some ad353) else ((some ad353) : Option Addr).map (·.add ((1 : Int).toNat * 1))) := ⟨_, rfl⟩; obtain ⟨c10, hc10⟩ : ∃ c1, c1 = c0 - (1 : Int).toNat := ⟨_, rfl⟩; have hy10 : y354.length = l0.length - (1 : Int).toNat := (by rw [Ny354.out, List.length_drop] <;> omega); rw [show (l0).drop (1 : Int).toNat = y354 from Ny354.out.symm] at hr10; replace hr10 : Kd.F (Kd.int .u8) _ _ A10 y354.length y354 := (by rw [hA10]; exact hr10); rw [← hy10, ← hA10, ← hc10] at hcut10; have HO358 := Aside0.mk (show Kd.V (Kd.int .u8) 5 _ w.heap.size _ (.slice A10 y354.length c10) y354 from Kd.V_mk (by rw [hy10, hc10]; exact Nat.sub_le_sub_right hroom10 _) hr10); have HC358 := Aside0.mk (show y354.length ≤ c10 from by rw [hy10, hc10]; exact Nat.sub_le_sub_right hroom10 _); clear hr10 hC10 hroom10 hi010 hsz10 hc10; have KY10 := Aside0.mk hy10; have KA10 := Aside0.mk hA10; clear hy10 hA10; replace q10 := eq_true q10) | ((with_reducible refine gate_callee (f := 23) rfl ?_); refine goesL_ (some 21) rfl rfl Tryd.func23 (by kernel_rfl) rfl #[.slice A10 y354.length c10] rfl y3_ ?_; (with_reducible refine (manometerref13_series.calls k _ _ y354 t359 t360 t361 t364 t367 _ ?side1 ?side2 A8.out).mono ?_); (case side1 => repeat (first | exact (Kd.V_reads' HO358.out).2.2 | (with_reducible refine Kd.C_alloc ?_ _) | (with_reducible refine Kd.C_drewN ?_ _) | (with_reducible refine Kd.C_drew ?_))); (case side2 => exact (Kd.V_reads' HO358.out).2.1); rintro e w11 ⟨v362, v365, rfl, ho0, ho1, hb⟩; refine ⟨_, rfl, ?_⟩; have n0_ := Aside0.mk (Kd.V_mono (Kd.V_told (Kd.V_told (Kd.V_old y32_ hb) (Kd.R_base ho0)) (Kd.R_base ho1)) (fun _ h_ => h_.1)); have n1_ := Aside0.mk (Kd.V_mono (Kd.V_told (Kd.V_told (Kd.V_old (by (with_reducible repeat (first | apply Kd.V_alloc | apply Kd.V_drewN | apply Kd.V_drew)); exact HO358.out) hb) (Kd.R_base ho0)) (Kd.R_base ho1)) (fun _ h_ => h_.1)); have n2_ := Aside0.mk (Kd.R_lower (Kd.R_newM (M := fun k_ => (w.heap.size ≤ k_)) ho0 (below_size y19_) (fun k_ h_ => h_)) (below_size y19_)); have n3_ := Aside0.mk (Kd.R_lower (Kd.R_newM (M := fun k_ => (w.heap.size ≤ k_)) ho1 (below_size y19_) (fun k_ h_ => h_)) (below_size y19_)); have n4_ := Aside0.mk (blk_below (g := gb352) (o := .cells #[.int .i64 0, .int .u32 0, .slice none 0 0, .slice none 0 0] 29 (0, 0)) y33_ hb); have n5_ := Aside0.mk (below_step y19_ hb); clear HO0; clear HO358; clear BK352; clear HB; have HO0 := n0_; have HO358 := n1_; have HO363 := n2_; have HO366 := n3_; have BK352 := n4_; have HB := n5_; clear n0_ n1_ n2_ n3_ n4_ n5_; (try clear hb); (try clear hb2); (try clear hk); (try clear hi); (try clear ho0); (try clear ho1); have hcz12_0 : w11.cell? ⟨gb352, 0, none⟩ = some (.int .i64 0) := (blk_cell BK352.out 0).trans rfl; have hcz12_1 : w11.cell? ⟨gb352, 1, none⟩ = some (.int .u32 0) := (blk_cell BK352.out 1).trans rfl; have hcz12_2 : w11.cell? ⟨gb352, 2, none⟩ = some (.slice none 0 0) := (blk_cell BK352.out 2).trans rfl; have hcz12_3 : w11.cell? ⟨gb352, 3, none⟩ = some (.slice none 0 0) := (blk_cell BK352.out 3).trans rfl; have hfz12_0 := blk_frozen BK352.out 0; have hfz12_1 := blk_frozen BK352.out 1; have hfz12_2 := blk_frozen BK352.out 2; have hfz12_3 := blk_frozen BK352.out 3; obtain ⟨Ao13, co13, eo13⟩ := Kd.R_slice HO363.out; subst eo13; obtain ⟨Ao14, co14, eo14⟩ := Kd.R_slice HO366.out; subst eo14))
     refine bodyPost_ret (results_ct rfl _ _ gb352 29 #[.int .i64 t359, .int .u32 t360, .slice Ao13 t361.length co13, .slice Ao14 t364.length co14] (0, 0) _ rfl (by (with_reducible repeat (first | refine blk_drewN ?_ _ | refine blk_drew ?_ | refine blk_alloc ?_ _)); refine blk_put (cs := #[.int .i64 t359, .int .u32 t360, .slice Ao13 t361.length co13, .slice none 0 0]) ?_ 3 _ rfl; (with_reducible repeat (first | refine blk_drewN ?_ _ | refine blk_drew ?_ | refine blk_alloc ?_ _)); refine blk_put (cs := #[.int .i64 t359, .int .u32 t360, .slice none 0 0, .slice none 0 0]) ?_ 2 _ rfl; (with_reducible repeat (first | refine blk_drewN ?_ _ | refine blk_drew ?_ | refine blk_alloc ?_ _)); refine blk_put (cs := #[.int .i64 t359, .int .u32 0, .slice none 0 0, .slice none 0 0]) ?_ 1 _ rfl; (with_reducible repeat (first | refine blk_drewN ?_ _ | refine blk_drew ?_ | refine blk_alloc ?_ _)); refine blk_put (cs := #[.int .i64 0, .int .u32 0, .slice none 0 0, .slice none 0 0]) ?_ 0 _ rfl; (with_reducible repeat (first | refine blk_drewN ?_ _ | refine blk_drew ?_ | refine blk_alloc ?_ _)); exact BK352.out) Tryd.underlying29 rfl (by kernel_rfl)) rfl ?_
     exact ⟨_, _, y4_, by (with_reducible repeat (first | apply Kd.R_alloc | apply Kd.R_drewN | apply Kd.R_drew)); exact Kd.R_mono (Kd.R_far (p := ⟨gb352, 3, none⟩) (Kd.R_far (p := ⟨gb352, 2, none⟩) (Kd.R_far (p := ⟨gb352, 1, none⟩) (Kd.R_far (p := ⟨gb352, 0, none⟩) (Kd.R_types HO363.out BK352.out (by decide)) (fun _ hk => hk.2) (.int .i64 t359)) (fun _ hk => hk.2) (.int .u32 t360)) (fun _ hk => hk.2) (.slice Ao13 t361.length co13)) (fun _ hk => hk.2) (.slice Ao14 t364.length co14)) (fun _ hk => hk.1.1), by (with_reducible repeat (first | apply Kd.R_alloc | apply Kd.R_drewN | apply Kd.R_drew)); exact Kd.R_mono (Kd.R_far (p := ⟨gb352, 3, none⟩) (Kd.R_far (p := ⟨gb352, 2, none⟩) (Kd.R_far (p := ⟨gb352, 1, none⟩) (Kd.R_far (p := ⟨gb352, 0, none⟩) (Kd.R_types HO366.out BK352.out (by decide)) (fun _ hk => hk.2) (.int .i64 t359)) (fun _ hk => hk.2) (.int .u32 t360)) (fun _ hk => hk.2) (.slice Ao13 t361.length co13)) (fun _ hk => hk.2) (.slice Ao14 t364.length co14)) (fun _ hk => hk.1.1), y19_⟩
    ·rw [if_neg c7] at H
     exact absurd H (by simp)
   ·rw [if_neg c6] at H
    have c6b0 : ((rd l0 0) == 1) = false := beq_eq_false_iff_ne.mpr c6
    have c6b1 : ((rd l0 0) != 1) = true := bne_iff_ne.mpr c6
    by_cases c15 : (rd l0 0) = 2
    ·rw [if_pos c15] at H
     have c15b0 : ((rd l0 0) == 2) = true := beq_iff_eq.mpr c15
     have c15b1 : ((rd l0 0) != 2) = false := bne_eq_false_iff_eq.mpr c15
     clear c15
     by_cases c16 : 1 ≤ (l0.length : Int)
     ·rw [if_pos c16] at H
      have c16b0 := eq_true c16
      have c16b1 : decide (1 ≤ (l0.length : Int)) = true := decide_eq_true c16
      clear c16
      obtain ⟨y369, hy369⟩ : ∃ y_ : List Int, y_ = (l0.drop 1) := ⟨_, rfl⟩
      replace H : ((manometerref01_Uvarint.f k y369).bind fun bt374 => (if bt374.2.2 = 0 then (if bt374.1 > 256 then (some (0, 0, ([] : List (S52)), ([] : List (S45)), 3)) else (if bt374.1 = 0 then (some (0, 0, ([] : List (S52)), ([] : List (S45)), 1)) else (if 0 ≤ (wrap64 (1 + bt374.2.1)) then (if (wrap64 (1 + bt374.2.1)) ≤ (l0.length : Int) then (manometerref13_Take.l0 k (l0.drop ((wrap64 (1 + bt374.2.1)) : Int).toNat) (wrap64 (bt374.1)) 0 2 0 ([] : List (S45)) 0 0 0 0) else (none)) else (none)))) else (some (0, 0, ([] : List (S52)), ([] : List (S45)), bt374.2.2)))) = some (r1, r2, r3, r4, r5) := by first | (rw [hy369]; with_reducible exact H) | (have H2_ := (Option.bind_some _ _).symm.trans H; rw [hy369]; with_reducible exact H2_) | (have H2_ := (Option.bind_some _ _).symm.trans H; with_reducible exact H2_) | with_reducible exact H | (rw [hy369]; exact H) | exact H
      have Ny369 := Aside0.mk hy369
      clear hy369
      replace H := Option.bind_eq_some_iff.mp H
      obtain ⟨⟨t374, t375, t376⟩, A170, H⟩ := H
      replace H : (if t376 = 0 then (if t374 > 256 then (some (0, 0, ([] : List (S52)), ([] : List (S45)), 3)) else (if t374 = 0 then (some (0, 0, ([] : List (S52)), ([] : List (S45)), 1)) else (if 0 ≤ (wrap64 (1 + t375)) then (if (wrap64 (1 + t375)) ≤ (l0.length : Int) then (manometerref13_Take.l0 k (l0.drop ((wrap64 (1 + t375)) : Int).toNat) (wrap64 (t374)) 0 2 0 ([] : List (S45)) 0 0 0 0) else (none)) else (none)))) else (some (0, 0, ([] : List (S52)), ([] : List (S45)), t376))) = some (r1, r2, r3, r4, r5) := H
      have A17 := Aside0.mk A170
      clear A170
      by_cases c18 : t376 = 0
      ·rw [if_pos c18] at H
       have c18b0 : (t376 == 0) = true := beq_iff_eq.mpr c18
       have c18b1 : (t376 != 0) = false := bne_eq_false_iff_eq.mpr c18
       clear c18
       by_cases c19 : t374 > 256
       ·rw [if_pos c19] at H
        have c19b0 : decide (256 < t374) = true := decide_eq_true c19
        clear c19
        simp only [Option.some.injEq, Prod.mk.injEq] at H
        obtain ⟨rfl, rfl, rfl, rfl, rfl⟩ := H
        go_enter Tryd.func10, Tryd.ntmps10
        go_wp2_with (first | ((with_reducible refine gate_dst (N := 2) rfl ?_); refine box_event ?hg (N := 2) ?hd (cs := #[.int .i64 0, .int .u32 0, .slice none 0 0, .slice none 0 0]) (t := 29) ?hr ?_; (case hd => rfl); (case hg => rfl); (case hr => first | (go_simp; done) | (go_simp; rfl)); intro gb352 hg w20 hbox hb; have n0_ := Aside0.mk (Kd.V_below (Kd.V_elderB y32_ gb352 (Nat.le_of_eq hg.symm)) hb); have n1_ := Aside0.mk (below_step y1_ hb); have n2_ := Aside0.mk (hbox); have n3_ := Aside0.mk ((y12_ : w.heap.size ≤ gb352)); have n4_ := Aside0.mk ((y12_ : w.heap.size ≤ gb352)); clear HO0; clear HB; have HO0 := n0_; have HB := n1_; have BK352 := n2_; have GW352 := n3_; have GE352 := n4_; clear n0_ n1_ n2_ n3_ n4_; clear hb hbox hg; have p353 : 0 ≤ (0 : Int) := (by omega); have q353 : 0 < (l0.length : Int) := of_decide_eq_true y2_; obtain ⟨ad353, e353, hx353_0⟩ := Kd.at_int (Kd.V_reads' HO0.out).2.2 0 p353 q353; cases e353; have qi353 : (0 < l0.length) = True := eq_true (by omega); (try rw [show ((0 : Int)).toNat = 0 from rfl] at hx353_0); (try rw [Addr.add_zero'] at hx353_0); replace p353 := eq_true p353; replace q353 := eq_true q353; have p368 : 0 ≤ (0 : Int) := (by omega); have q368 : 0 < (l0.length : Int) := of_decide_eq_true y2_; obtain ⟨ad368, e368, hx368_0⟩ := Kd.at_int (Kd.V_reads' HO0.out).2.2 0 p368 q368; obtain rfl : ad353 = ad368 := (by injection e368); have qi368 : (0 < l0.length) = True := eq_true (by omega); (try rw [show ((0 : Int)).toNat = 0 from rfl] at hx368_0); (try rw [Addr.add_zero'] at hx368_0); replace p368 := eq_true p368; replace q368 := eq_true q368; have q21 : (1 : Int) ≤ ((l0.length : Int) : Int) := of_decide_eq_true y2_; obtain ⟨i021, hi021, _, hsz21, _⟩ := info_parts info5; have hroom21 : l0.length ≤ c0 := (Kd.V_reads' HO0.out).2.1; have hC21 : Kd.F (Kd.int .u8) _ _ (some ad353) l0.length l0 := (Kd.V_at (base := w.heap.size) HO0.out).2.2; have hcut21 := cut_from (P := Tryd.prog) 22 5 .i64 Tryd.underlying22 hi021 1 hsz21 (some ad353) l0.length c0 1 (by omega) q21; have hr21 := Kd.F_cut (m := (1 : Int).toNat) (c := c0) hC21 (by omega) hroom21; obtain ⟨A21, hA21⟩ : ∃ A1, A1 = (if c0 = (1 : Int).toNat then (some ad353) else ((some ad353) : Option Addr).map (·.add ((1 : Int).toNat * 1))) := ⟨_, rfl⟩; obtain ⟨c21, hc21⟩ : ∃ c1, c1 = c0 - (1 : Int).toNat := ⟨_, rfl⟩; have hy21 : y369.length = l0.length - (1 : Int).toNat := (by rw [Ny369.out, List.length_drop] <;> omega); rw [show (l0).drop (1 : Int).toNat = y369 from Ny369.out.symm] at hr21; replace hr21 : Kd.F (Kd.int .u8) _ _ A21 y369.length y369 := (by rw [hA21]; exact hr21); rw [← hy21, ← hA21, ← hc21] at hcut21; have HO373 := Aside0.mk (show Kd.V (Kd.int .u8) 5 _ w.heap.size _ (.slice A21 y369.length c21) y369 from Kd.V_mk (by rw [hy21, hc21]; exact Nat.sub_le_sub_right hroom21 _) hr21); have HC373 := Aside0.mk (show y369.length ≤ c21 from by rw [hy21, hc21]; exact Nat.sub_le_sub_right hroom21 _); clear hr21 hC21 hroom21 hi021 hsz21 hc21; have KY21 := Aside0.mk hy21; have KA21 := Aside0.mk hA21; clear hy21 hA21; replace q21 := eq_true q21) | ((with_reducible refine gate_callee (f := 24) rfl ?_); refine goesL_ (some 33) rfl rfl Tryd.func24 (by kernel_rfl) rfl #[.slice A21 y369.length c21] rfl y3_ ?_; (with_reducible refine (manometerref01_Uvarint.calls k _ _ y369 t374 t375 t376 _ ?side1 ?side2 A17.out).mono ?_); (case side1 => repeat (first | exact (Kd.V_reads' HO373.out).2.2 | (with_reducible refine Kd.C_alloc ?_ _) | (with_reducible refine Kd.C_drewN ?_ _) | (with_reducible refine Kd.C_drew ?_))); (case side2 => exact (Kd.V_reads' HO373.out).2.1); rintro e w' ⟨rfl, ⟨nd, rfl⟩⟩; refine ⟨_, rfl, ?_⟩; (try (rw [drewN_self w20]; generalize hq_ : World.drewN w20 _ = w20; have n0_ : Aside0 (Kd.V (Kd.int .u8) 5 w20 w.heap.size (fun k_ => (P0_ k_ ∨ w.heap.size ≤ k_) ∧ k_ ≠ gb352) (.slice (some ad353) l0.length c0) l0) := ⟨by rw [← hq_]; exact y32_⟩; have n1_ : Aside0 (Kd.V (Kd.int .u8) 5 w20 w.heap.size (fun k_ => (P0_ k_ ∨ w.heap.size ≤ k_) ∧ k_ ≠ gb352) (.slice A21 y369.length c21) y369) := ⟨by rw [← hq_]; exact y67_⟩; have n2_ : Aside0 (w20.heap[gb352]? = some (.cells #[.int .i64 0, .int .u32 0, .slice none 0 0, .slice none 0 0] 29 (0, 0))) := ⟨by rw [← hq_]; exact y33_⟩; have n3_ : Aside0 (Below w.heap.size w w20) := ⟨by rw [← hq_]; exact y19_⟩; clear HO0 HO373 BK352 HB hq_; have HO0 := n0_; have HO373 := n1_; have BK352 := n2_; have HB := n3_; clear n0_ n1_ n2_ n3_)); have hcz22_0 : w20.cell? ⟨gb352, 0, none⟩ = some (.int .i64 0) := (blk_cell BK352.out 0).trans rfl; have hcz22_1 : w20.cell? ⟨gb352, 1, none⟩ = some (.int .u32 0) := (blk_cell BK352.out 1).trans rfl; have hcz22_2 : w20.cell? ⟨gb352, 2, none⟩ = some (.slice none 0 0) := (blk_cell BK352.out 2).trans rfl; have hcz22_3 : w20.cell? ⟨gb352, 3, none⟩ = some (.slice none 0 0) := (blk_cell BK352.out 3).trans rfl; have hfz22_0 := blk_frozen BK352.out 0; have hfz22_1 := blk_frozen BK352.out 1; have hfz22_2 := blk_frozen BK352.out 2; have hfz22_3 := blk_frozen BK352.out 3))
        refine bodyPost_ret (results_ct rfl _ _ gb352 29 #[.int .i64 0, .int .u32 0, .slice none 0 0, .slice none 0 0] (0, 0) _ rfl y11_ Tryd.underlying29 rfl (by kernel_rfl)) rfl ?_
        exact ⟨_, _, y4_, y6_, y6_, y19_⟩
       ·rw [if_neg c19] at H
        have c19b0 : decide (256 < t374) = false := decide_eq_false c19
        clear c19
        by_cases c23 : t374 = 0
        ·rw [if_pos c23] at H
         have c23b0 : (t374 == 0) = true := beq_iff_eq.mpr c23
         have c23b1 : (t374 != 0) = false := bne_eq_false_iff_eq.mpr c23
         clear c23
         simp only [Option.some.injEq, Prod.mk.injEq] at H
         obtain ⟨rfl, rfl, rfl, rfl, rfl⟩ := H
         go_enter Tryd.func10, Tryd.ntmps10
         go_wp2_with (first | ((with_reducible refine gate_dst (N := 2) rfl ?_); refine box_event ?hg (N := 2) ?hd (cs := #[.int .i64 0, .int .u32 0, .slice none 0 0, .slice none 0 0]) (t := 29) ?hr ?_; (case hd => rfl); (case hg => rfl); (case hr => first | (go_simp; done) | (go_simp; rfl)); intro gb352 hg w24 hbox hb; have n0_ := Aside0.mk (Kd.V_below (Kd.V_elderB y32_ gb352 (Nat.le_of_eq hg.symm)) hb); have n1_ := Aside0.mk (below_step y1_ hb); have n2_ := Aside0.mk (hbox); have n3_ := Aside0.mk ((y12_ : w.heap.size ≤ gb352)); have n4_ := Aside0.mk ((y12_ : w.heap.size ≤ gb352)); clear HO0; clear HB; have HO0 := n0_; have HB := n1_; have BK352 := n2_; have GW352 := n3_; have GE352 := n4_; clear n0_ n1_ n2_ n3_ n4_; clear hb hbox hg; have p353 : 0 ≤ (0 : Int) := (by omega); have q353 : 0 < (l0.length : Int) := of_decide_eq_true y2_; obtain ⟨ad353, e353, hx353_0⟩ := Kd.at_int (Kd.V_reads' HO0.out).2.2 0 p353 q353; cases e353; have qi353 : (0 < l0.length) = True := eq_true (by omega); (try rw [show ((0 : Int)).toNat = 0 from rfl] at hx353_0); (try rw [Addr.add_zero'] at hx353_0); replace p353 := eq_true p353; replace q353 := eq_true q353; have p368 : 0 ≤ (0 : Int) := (by omega); have q368 : 0 < (l0.length : Int) := of_decide_eq_true y2_; obtain ⟨ad368, e368, hx368_0⟩ := Kd.at_int (Kd.V_reads' HO0.out).2.2 0 p368 q368; obtain rfl : ad353 = ad368 := (by injection e368); have qi368 : (0 < l0.length) = True := eq_true (by omega); (try rw [show ((0 : Int)).toNat = 0 from rfl] at hx368_0); (try rw [Addr.add_zero'] at hx368_0); replace p368 := eq_true p368; replace q368 := eq_true q368; have q25 : (1 : Int) ≤ ((l0.length : Int) : Int) := of_decide_eq_true y2_; obtain ⟨i025, hi025, _, hsz25, _⟩ := info_parts info5; have hroom25 : l0.length ≤ c0 := (Kd.V_reads' HO0.out).2.1; have hC25 : Kd.F (Kd.int .u8) _ _ (some ad353) l0.length l0 := (Kd.V_at (base := w.heap.size) HO0.out).2.2; have hcut25 := cut_from (P := Tryd.prog) 22 5 .i64 Tryd.underlying22 hi025 1 hsz25 (some ad353) l0.length c0 1 (by omega) q25; have hr25 := Kd.F_cut (m := (1 : Int).toNat) (c := c0) hC25 (by omega) hroom25; obtain ⟨A25, hA25⟩ : ∃ A1, A1 = (if c0 = (1 : Int).toNat then (some ad353) else ((some ad353) : Option Addr).map (·.add ((1 : Int).toNat * 1))) := ⟨_, rfl⟩; obtain ⟨c25, hc25⟩ : ∃ c1, c1 = c0 - (1 : Int).toNat := ⟨_, rfl⟩; have hy25 : y369.length = l0.length - (1 : Int).toNat := (by rw [Ny369.out, List.length_drop] <;> omega); rw [show (l0).drop (1 : Int).toNat = y369 from Ny369.out.symm] at hr25; replace hr25 : Kd.F (Kd.int .u8) _ _ A25 y369.length y369 := (by rw [hA25]; exact hr25); rw [← hy25, ← hA25, ← hc25] at hcut25; have HO373 := Aside0.mk (show Kd.V (Kd.int .u8) 5 _ w.heap.size _ (.slice A25 y369.length c25) y369 from Kd.V_mk (by rw [hy25, hc25]; exact Nat.sub_le_sub_right hroom25 _) hr25); have HC373 := Aside0.mk (show y369.length ≤ c25 from by rw [hy25, hc25]; exact Nat.sub_le_sub_right hroom25 _); clear hr25 hC25 hroom25 hi025 hsz25 hc25; have KY25 := Aside0.mk hy25; have KA25 := Aside0.mk hA25; clear hy25 hA25; replace q25 := eq_true q25) | ((with_reducible refine gate_callee (f := 24) rfl ?_); refine goesL_ (some 33) rfl rfl Tryd.func24 (by kernel_rfl) rfl #[.slice A25 y369.length c25] rfl y3_ ?_; (with_reducible refine (manometerref01_Uvarint.calls k _ _ y369 t374 t375 t376 _ ?side1 ?side2 A17.out).mono ?_); (case side1 => repeat (first | exact (Kd.V_reads' HO373.out).2.2 | (with_reducible refine Kd.C_alloc ?_ _) | (with_reducible refine Kd.C_drewN ?_ _) | (with_reducible refine Kd.C_drew ?_))); (case side2 => exact (Kd.V_reads' HO373.out).2.1); rintro e w' ⟨rfl, ⟨nd, rfl⟩⟩; refine ⟨_, rfl, ?_⟩; (try (rw [drewN_self w24]; generalize hq_ : World.drewN w24 _ = w24; have n0_ : Aside0 (Kd.V (Kd.int .u8) 5 w24 w.heap.size (fun k_ => (P0_ k_ ∨ w.heap.size ≤ k_) ∧ k_ ≠ gb352) (.slice (some ad353) l0.length c0) l0) := ⟨by rw [← hq_]; exact y32_⟩; have n1_ : Aside0 (Kd.V (Kd.int .u8) 5 w24 w.heap.size (fun k_ => (P0_ k_ ∨ w.heap.size ≤ k_) ∧ k_ ≠ gb352) (.slice A25 y369.length c25) y369) := ⟨by rw [← hq_]; exact y67_⟩; have n2_ : Aside0 (w24.heap[gb352]? = some (.cells #[.int .i64 0, .int .u32 0, .slice none 0 0, .slice none 0 0] 29 (0, 0))) := ⟨by rw [← hq_]; exact y33_⟩; have n3_ : Aside0 (Below w.heap.size w w24) := ⟨by rw [← hq_]; exact y19_⟩; clear HO0 HO373 BK352 HB hq_; have HO0 := n0_; have HO373 := n1_; have BK352 := n2_; have HB := n3_; clear n0_ n1_ n2_ n3_)); have hcz26_0 : w24.cell? ⟨gb352, 0, none⟩ = some (.int .i64 0) := (blk_cell BK352.out 0).trans rfl; have hcz26_1 : w24.cell? ⟨gb352, 1, none⟩ = some (.int .u32 0) := (blk_cell BK352.out 1).trans rfl; have hcz26_2 : w24.cell? ⟨gb352, 2, none⟩ = some (.slice none 0 0) := (blk_cell BK352.out 2).trans rfl; have hcz26_3 : w24.cell? ⟨gb352, 3, none⟩ = some (.slice none 0 0) := (blk_cell BK352.out 3).trans rfl; have hfz26_0 := blk_frozen BK352.out 0; have hfz26_1 := blk_frozen BK352.out 1; have hfz26_2 := blk_frozen BK352.out 2; have hfz26_3 := blk_frozen BK352.out 3))
         refine bodyPost_ret (results_ct rfl _ _ gb352 29 #[.int .i64 0, .int .u32 0, .slice none 0 0, .slice none 0 0] (0, 0) _ rfl y11_ Tryd.underlying29 rfl (by kernel_rfl)) rfl ?_
         exact ⟨_, _, y4_, y6_, y6_, y19_⟩
        ·rw [if_neg c23] at H
         have c23b0 : (t374 == 0) = false := beq_eq_false_iff_ne.mpr c23
         have c23b1 : (t374 != 0) = true := bne_iff_ne.mpr c23
         obtain ⟨ji27, hji27⟩ : ∃ j_ : Int, (wrap64 (1 + t375)) = j_ := ⟨_, rfl⟩
         replace H : (if 0 ≤ (ji27) then (if (ji27) ≤ (l0.length : Int) then (manometerref13_Take.l0 k (l0.drop ((ji27) : Int).toNat) (wrap64 (t374)) 0 2 0 ([] : List (S45)) 0 0 0 0) else (none)) else (none)) = some (r1, r2, r3, r4, r5) := by first | (rw [hji27] at H; exact H) | (simp only [hji27] at H ⊢; exact H)
         (try rw [hji27] at A17)
         have hji27w : (IntKind.i64.wrap (1 + t375)) = ji27 := (i64_w _).trans hji27
         by_cases c28 : 0 ≤ (ji27)
         ·rw [if_pos c28] at H
          have c28b0 := eq_true c28
          have c28b1 : decide (0 ≤ (ji27)) = true := decide_eq_true c28
          clear c28
          by_cases c29 : (ji27) ≤ (l0.length : Int)
          ·rw [if_pos c29] at H
           have c29b0 := eq_true c29
           have c29b1 : decide ((ji27) ≤ (l0.length : Int)) = true := decide_eq_true c29
           clear c29
           obtain ⟨y378, hy378⟩ : ∃ y_ : List Int, y_ = (l0.drop ((ji27) : Int).toNat) := ⟨_, rfl⟩
           replace H : (manometerref13_Take.l0 k y378 (wrap64 (t374)) 0 2 0 ([] : List (S45)) 0 0 0 0) = some (r1, r2, r3, r4, r5) := by first | (rw [hy378]; with_reducible exact H) | (have H2_ := (Option.bind_some _ _).symm.trans H; rw [hy378]; with_reducible exact H2_) | (have H2_ := (Option.bind_some _ _).symm.trans H; with_reducible exact H2_) | with_reducible exact H | (rw [hy378]; exact H) | exact H
           have Ny378 := Aside0.mk hy378
           clear hy378
           have H' := Aside0.mk H
           clear H
           go_enter Tryd.func10, Tryd.ntmps10
           go_wp2_with (first | ((with_reducible refine gate_dst (N := 2) rfl ?_); refine box_event ?hg (N := 2) ?hd (cs := #[.int .i64 0, .int .u32 0, .slice none 0 0, .slice none 0 0]) (t := 29) ?hr ?_; (case hd => rfl); (case hg => rfl); (case hr => first | (go_simp; done) | (go_simp; rfl)); intro gb352 hg w30 hbox hb; have n0_ := Aside0.mk (Kd.V_below (Kd.V_elderB y32_ gb352 (Nat.le_of_eq hg.symm)) hb); have n1_ := Aside0.mk (below_step y1_ hb); have n2_ := Aside0.mk (hbox); have n3_ := Aside0.mk ((y12_ : w.heap.size ≤ gb352)); have n4_ := Aside0.mk ((y12_ : w.heap.size ≤ gb352)); clear HO0; clear HB; have HO0 := n0_; have HB := n1_; have BK352 := n2_; have GW352 := n3_; have GE352 := n4_; clear n0_ n1_ n2_ n3_ n4_; clear hb hbox hg; have p353 : 0 ≤ (0 : Int) := (by omega); have q353 : 0 < (l0.length : Int) := of_decide_eq_true y2_; obtain ⟨ad353, e353, hx353_0⟩ := Kd.at_int (Kd.V_reads' HO0.out).2.2 0 p353 q353; cases e353; have qi353 : (0 < l0.length) = True := eq_true (by omega); (try rw [show ((0 : Int)).toNat = 0 from rfl] at hx353_0); (try rw [Addr.add_zero'] at hx353_0); replace p353 := eq_true p353; replace q353 := eq_true q353; have p368 : 0 ≤ (0 : Int) := (by omega); have q368 : 0 < (l0.length : Int) := of_decide_eq_true y2_; obtain ⟨ad368, e368, hx368_0⟩ := Kd.at_int (Kd.V_reads' HO0.out).2.2 0 p368 q368; obtain rfl : ad353 = ad368 := (by injection e368); have qi368 : (0 < l0.length) = True := eq_true (by omega); (try rw [show ((0 : Int)).toNat = 0 from rfl] at hx368_0); (try rw [Addr.add_zero'] at hx368_0); replace p368 := eq_true p368; replace q368 := eq_true q368; have q31 : (1 : Int) ≤ ((l0.length : Int) : Int) := of_decide_eq_true y2_; obtain ⟨i031, hi031, _, hsz31, _⟩ := info_parts info5; have hroom31 : l0.length ≤ c0 := (Kd.V_reads' HO0.out).2.1; have hC31 : Kd.F (Kd.int .u8) _ _ (some ad353) l0.length l0 := (Kd.V_at (base := w.heap.size) HO0.out).2.2; have hcut31 := cut_from (P := Tryd.prog) 22 5 .i64 Tryd.underlying22 hi031 1 hsz31 (some ad353) l0.length c0 1 (by omega) q31; have hr31 := Kd.F_cut (m := (1 : Int).toNat) (c := c0) hC31 (by omega) hroom31; obtain ⟨A31, hA31⟩ : ∃ A1, A1 = (if c0 = (1 : Int).toNat then (some ad353) else ((some ad353) : Option Addr).map (·.add ((1 : Int).toNat * 1))) := ⟨_, rfl⟩; obtain ⟨c31, hc31⟩ : ∃ c1, c1 = c0 - (1 : Int).toNat := ⟨_, rfl⟩; have hy31 : y369.length = l0.length - (1 : Int).toNat := (by rw [Ny369.out, List.length_drop] <;> omega); rw [show (l0).drop (1 : Int).toNat = y369 from Ny369.out.symm] at hr31; replace hr31 : Kd.F (Kd.int .u8) _ _ A31 y369.length y369 := (by rw [hA31]; exact hr31); rw [← hy31, ← hA31, ← hc31] at hcut31; have HO373 := Aside0.mk (show Kd.V (Kd.int .u8) 5 _ w.heap.size _ (.slice A31 y369.length c31) y369 from Kd.V_mk (by rw [hy31, hc31]; exact Nat.sub_le_sub_right hroom31 _) hr31); have HC373 := Aside0.mk (show y369.length ≤ c31 from by rw [hy31, hc31]; exact Nat.sub_le_sub_right hroom31 _); clear hr31 hC31 hroom31 hi031 hsz31 hc31; have KY31 := Aside0.mk hy31; have KA31 := Aside0.mk hA31; clear hy31 hA31; replace q31 := eq_true q31) | ((with_reducible refine gate_callee (f := 24) rfl ?_); refine goesL_ (some 33) rfl rfl Tryd.func24 (by kernel_rfl) rfl #[.slice A31 y369.length c31] rfl y3_ ?_; (with_reducible refine (manometerref01_Uvarint.calls k _ _ y369 t374 t375 t376 _ ?side1 ?side2 A17.out).mono ?_); (case side1 => repeat (first | exact (Kd.V_reads' HO373.out).2.2 | (with_reducible refine Kd.C_alloc ?_ _) | (with_reducible refine Kd.C_drewN ?_ _) | (with_reducible refine Kd.C_drew ?_))); (case side2 => exact (Kd.V_reads' HO373.out).2.1); rintro e w' ⟨rfl, ⟨nd, rfl⟩⟩; refine ⟨_, rfl, ?_⟩; (try (rw [drewN_self w30]; generalize hq_ : World.drewN w30 _ = w30; have n0_ : Aside0 (Kd.V (Kd.int .u8) 5 w30 w.heap.size (fun k_ => (P0_ k_ ∨ w.heap.size ≤ k_) ∧ k_ ≠ gb352) (.slice (some ad353) l0.length c0) l0) := ⟨by rw [← hq_]; exact y32_⟩; have n1_ : Aside0 (Kd.V (Kd.int .u8) 5 w30 w.heap.size (fun k_ => (P0_ k_ ∨ w.heap.size ≤ k_) ∧ k_ ≠ gb352) (.slice A31 y369.length c31) y369) := ⟨by rw [← hq_]; exact y67_⟩; have n2_ : Aside0 (w30.heap[gb352]? = some (.cells #[.int .i64 0, .int .u32 0, .slice none 0 0, .slice none 0 0] 29 (0, 0))) := ⟨by rw [← hq_]; exact y33_⟩; have n3_ : Aside0 (Below w.heap.size w w30) := ⟨by rw [← hq_]; exact y19_⟩; clear HO0 HO373 BK352 HB hq_; have HO0 := n0_; have HO373 := n1_; have BK352 := n2_; have HB := n3_; clear n0_ n1_ n2_ n3_))) | ((with_reducible refine gate_dst (N := 7) rfl ?_); refine box_event ?hg (N := 7) ?hd (cs := #[.int .i64 0, .int .u32 0, .slice none 0 0, .slice none 0 0]) (t := 29) ?hr ?_; (case hd => rfl); (case hg => rfl); (case hr => first | (go_simp; done) | (go_simp; rfl)); intro gb377 hg w32 hbox hb; have n0_ := Aside0.mk (Kd.V_below (Kd.V_elderB y32_ gb377 (Nat.le_of_eq hg.symm)) hb); have n1_ := Aside0.mk (Kd.V_below (Kd.V_elderB y67_ gb377 (Nat.le_of_eq hg.symm)) hb); have n2_ := Aside0.mk (blk_below (g := gb352) (o := .cells #[.int .i64 0, .int .u32 0, .slice none 0 0, .slice none 0 0] 29 (0, 0)) y33_ hb); have n3_ := Aside0.mk (below_step y19_ hb); have n4_ := Aside0.mk (hbox); have n5_ := Aside0.mk ((by rw [hg]; exact (below_size y19_) : w.heap.size ≤ gb377)); have n6_ := Aside0.mk ((by rw [hg]; exact (below_size y19_) : w.heap.size ≤ gb377)); have n7_ := Aside0.mk ((by rw [hg]; exact Nat.ne_of_lt (blk_lt (g := gb352) (o := .cells #[.int .i64 0, .int .u32 0, .slice none 0 0, .slice none 0 0] 29 (0, 0)) y33_) : gb352 ≠ gb377)); have n8_ := Aside0.mk ((by rw [hg]; exact Nat.ne_of_gt (blk_lt (g := gb352) (o := .cells #[.int .i64 0, .int .u32 0, .slice none 0 0, .slice none 0 0] 29 (0, 0)) y33_) : gb377 ≠ gb352)); clear HO0; clear HO373; clear BK352; clear HB; have HO0 := n0_; have HO373 := n1_; have BK352 := n2_; have HB := n3_; have BK377 := n4_; have GW377 := n5_; have GE377 := n6_; have NB352_377 := n7_; have NB377_352 := n8_; clear n0_ n1_ n2_ n3_ n4_ n5_ n6_ n7_ n8_; clear hb hbox hg; have hnb33 := NB377_352.out; have hnc33 := NB352_377.out; have hcz34_0 : w32.cell? ⟨gb377, 0, none⟩ = some (.int .i64 0) := (blk_cell BK377.out 0).trans rfl; have hcz34_1 : w32.cell? ⟨gb377, 1, none⟩ = some (.int .u32 0) := (blk_cell BK377.out 1).trans rfl; have hcz34_2 : w32.cell? ⟨gb377, 2, none⟩ = some (.slice none 0 0) := (blk_cell BK377.out 2).trans rfl; have hcz34_3 : w32.cell? ⟨gb377, 3, none⟩ = some (.slice none 0 0) := (blk_cell BK377.out 3).trans rfl; have hfz34_0 := blk_frozen BK377.out 0; have hfz34_1 := blk_frozen BK377.out 1; have hfz34_2 := blk_frozen BK377.out 2; have hfz34_3 := blk_frozen BK377.out 3) | ((with_reducible refine gate_store (t := 29) (p := 7) rfl ?_); refine store_event (t := 29) (p := 7) (v := ?vo_w35) (w1 := ((((w32.setCell ⟨gb377, 0, none⟩ (.int .i64 2)).setCell ⟨gb377, 1, none⟩ (.int .u32 0)).setCell ⟨gb377, 2, none⟩ (.slice none 0 0)).setCell ⟨gb377, 3, none⟩ (.slice none 0 0))) ?hg ?ho ?hn ?hr ?_; (case ho => rfl); (case hg => rfl); (case hn => rfl); (case hr => first | (go_simp; done) | (go_simp; rfl)); intro w35 hw; have n0_ : Aside0 (Kd.V (Kd.int .u8) 5 w35 w.heap.size (fun k_ => (P0_ k_ ∨ w.heap.size ≤ k_) ∧ k_ ≠ gb352 ∧ k_ ≠ gb377) (.slice (some ad353) l0.length c0) l0) := ⟨(by rw [hw]; exact (by (with_reducible repeat (first | apply Kd.V_alloc | apply Kd.V_drewN | apply Kd.V_drew)); exact Kd.V_mono (Kd.V_far (p := ⟨gb377, 3, none⟩) (Kd.V_far (p := ⟨gb377, 2, none⟩) (Kd.V_far (p := ⟨gb377, 1, none⟩) (Kd.V_far (p := ⟨gb377, 0, none⟩) (Kd.V_mono HO0.out (fun k_ hk => (⟨hk, hk.2⟩ : _ ∧ k_ ≠ gb377))) (fun _ hk => hk.2) (.int .i64 2)) (fun _ hk => hk.2) (.int .u32 0)) (fun _ hk => hk.2) (.slice none 0 0)) (fun _ hk => hk.2) (.slice none 0 0)) (fun _ hk => ⟨hk.1.1.1, ⟨hk.1.1.2, hk.1.2⟩⟩)))⟩; have n1_ : Aside0 (Kd.V (Kd.int .u8) 5 w35 w.heap.size (fun k_ => (P0_ k_ ∨ w.heap.size ≤ k_) ∧ k_ ≠ gb352 ∧ k_ ≠ gb377) (.slice A31 y369.length c31) y369) := ⟨(by rw [hw]; exact (by (with_reducible repeat (first | apply Kd.V_alloc | apply Kd.V_drewN | apply Kd.V_drew)); exact Kd.V_mono (Kd.V_far (p := ⟨gb377, 3, none⟩) (Kd.V_far (p := ⟨gb377, 2, none⟩) (Kd.V_far (p := ⟨gb377, 1, none⟩) (Kd.V_far (p := ⟨gb377, 0, none⟩) (Kd.V_mono HO373.out (fun k_ hk => (⟨hk, hk.2⟩ : _ ∧ k_ ≠ gb377))) (fun _ hk => hk.2) (.int .i64 2)) (fun _ hk => hk.2) (.int .u32 0)) (fun _ hk => hk.2) (.slice none 0 0)) (fun _ hk => hk.2) (.slice none 0 0)) (fun _ hk => ⟨hk.1.1.1, ⟨hk.1.1.2, hk.1.2⟩⟩)))⟩; have n2_ : Aside0 (w35.heap[gb352]? = some (.cells #[.int .i64 0, .int .u32 0, .slice none 0 0, .slice none 0 0] 29 (0, 0))) := ⟨(by rw [hw]; exact (by (with_reducible repeat (first | refine blk_drewN ?_ _ | refine blk_drew ?_ | refine blk_alloc ?_ _)); refine blk_far ?_ NB352_377.out _; (with_reducible repeat (first | refine blk_drewN ?_ _ | refine blk_drew ?_ | refine blk_alloc ?_ _)); refine blk_far ?_ NB352_377.out _; (with_reducible repeat (first | refine blk_drewN ?_ _ | refine blk_drew ?_ | refine blk_alloc ?_ _)); refine blk_far ?_ NB352_377.out _; (with_reducible repeat (first | refine blk_drewN ?_ _ | refine blk_drew ?_ | refine blk_alloc ?_ _)); refine blk_far ?_ NB352_377.out _; (with_reducible repeat (first | refine blk_drewN ?_ _ | refine blk_drew ?_ | refine blk_alloc ?_ _)); exact BK352.out))⟩; have n3_ : Aside0 (w35.heap[gb377]? = some (.cells #[.int .i64 2, .int .u32 0, .slice none 0 0, .slice none 0 0] 29 (0, 0))) := ⟨(by rw [hw]; exact (by (with_reducible repeat (first | refine blk_drewN ?_ _ | refine blk_drew ?_ | refine blk_alloc ?_ _)); refine blk_put (cs := #[.int .i64 2, .int .u32 0, .slice none 0 0, .slice none 0 0]) ?_ 3 _ rfl; (with_reducible repeat (first | refine blk_drewN ?_ _ | refine blk_drew ?_ | refine blk_alloc ?_ _)); refine blk_put (cs := #[.int .i64 2, .int .u32 0, .slice none 0 0, .slice none 0 0]) ?_ 2 _ rfl; (with_reducible repeat (first | refine blk_drewN ?_ _ | refine blk_drew ?_ | refine blk_alloc ?_ _)); refine blk_put (cs := #[.int .i64 2, .int .u32 0, .slice none 0 0, .slice none 0 0]) ?_ 1 _ rfl; (with_reducible repeat (first | refine blk_drewN ?_ _ | refine blk_drew ?_ | refine blk_alloc ?_ _)); refine blk_put (cs := #[.int .i64 0, .int .u32 0, .slice none 0 0, .slice none 0 0]) ?_ 0 _ rfl; (with_reducible repeat (first | refine blk_drewN ?_ _ | refine blk_drew ?_ | refine blk_alloc ?_ _)); exact BK377.out))⟩; have n4_ : Aside0 (Below w.heap.size w w35) := ⟨(by rw [hw]; exact y59_)⟩; clear hw; clear HO0; clear HO373; clear BK352; clear BK377; clear HB; have HO0 := n0_; have HO373 := n1_; have BK352 := n2_; have BK377 := n3_; have HB := n4_; clear n0_ n1_ n2_ n3_ n4_; have q36 : ((ji27) : Int) ≤ ((l0.length : Int) : Int) := of_decide_eq_true y2_; obtain ⟨i036, hi036, _, hsz36, _⟩ := info_parts info5; have hroom36 : l0.length ≤ c0 := (Kd.V_reads' HO0.out).2.1; have hC36 : Kd.F (Kd.int .u8) _ _ (some ad353) l0.length l0 := (Kd.V_at (base := w.heap.size) HO0.out).2.2; have q036 : (0 : Int) ≤ ((ji27) : Int) := of_decide_eq_true y2_; have hcut36 := cut_from (P := Tryd.prog) 22 5 .i64 Tryd.underlying22 hi036 1 hsz36 (some ad353) l0.length c0 (ji27) q036 q36; have hr36 := Kd.F_cut (m := ((ji27) : Int).toNat) (c := c0) hC36 (by omega) hroom36; obtain ⟨A36, hA36⟩ : ∃ A1, A1 = (if c0 = ((ji27) : Int).toNat then (some ad353) else ((some ad353) : Option Addr).map (·.add (((ji27) : Int).toNat * 1))) := ⟨_, rfl⟩; obtain ⟨c36, hc36⟩ : ∃ c1, c1 = c0 - ((ji27) : Int).toNat := ⟨_, rfl⟩; have hy36 : y378.length = l0.length - ((ji27) : Int).toNat := (by rw [Ny378.out, List.length_drop] <;> omega); rw [show (l0).drop ((ji27) : Int).toNat = y378 from Ny378.out.symm] at hr36; replace hr36 : Kd.F (Kd.int .u8) _ _ A36 y378.length y378 := (by rw [hA36]; exact hr36); rw [← hy36, ← hA36, ← hc36] at hcut36; have HO382 := Aside0.mk (show Kd.V (Kd.int .u8) 5 _ w.heap.size _ (.slice A36 y378.length c36) y378 from Kd.V_mk (by rw [hy36, hc36]; exact Nat.sub_le_sub_right hroom36 _) hr36); have HC382 := Aside0.mk (show y378.length ≤ c36 from by rw [hy36, hc36]; exact Nat.sub_le_sub_right hroom36 _); clear hr36 hC36 hroom36 hi036 hsz36 hc36; have KY36 := Aside0.mk hy36; have KA36 := Aside0.mk hA36; clear hy36 hA36; replace q36 := eq_true q36) | ((with_reducible refine gate_dst (N := 8) rfl ?_); refine box_event ?hg (N := 8) ?hd (cs := #[.int .u32 0, .int .i64 0, .int .u64 0, .int .u64 0]) (t := 45) ?hr ?_; (case hd => rfl); (case hg => rfl); (case hr => first | (go_simp; done) | (go_simp; rfl)); intro gb383 hg w37 hbox hb; have n0_ := Aside0.mk (Kd.V_below (Kd.V_elderB y32_ gb383 (Nat.le_of_eq hg.symm)) hb); have n1_ := Aside0.mk (Kd.V_below (Kd.V_elderB y67_ gb383 (Nat.le_of_eq hg.symm)) hb); have n2_ := Aside0.mk (Kd.V_below (Kd.V_elderB (by (with_reducible repeat (first | apply Kd.V_alloc | apply Kd.V_drewN | apply Kd.V_drew)); exact HO382.out) gb383 (Nat.le_of_eq hg.symm)) hb); have n3_ := Aside0.mk (blk_below (g := gb352) (o := .cells #[.int .i64 0, .int .u32 0, .slice none 0 0, .slice none 0 0] 29 (0, 0)) y33_ hb); have n4_ := Aside0.mk (blk_below (g := gb377) (o := .cells #[.int .i64 2, .int .u32 0, .slice none 0 0, .slice none 0 0] 29 (0, 0)) y52_ hb); have n5_ := Aside0.mk (below_step y59_ hb); have n6_ := Aside0.mk (hbox); have n7_ := Aside0.mk ((by rw [hg]; exact (below_size y59_) : w.heap.size ≤ gb383)); have n8_ := Aside0.mk ((by rw [hg]; exact (below_size y59_) : w.heap.size ≤ gb383)); have n9_ := Aside0.mk ((by rw [hg]; exact Nat.ne_of_lt (blk_lt (g := gb352) (o := .cells #[.int .i64 0, .int .u32 0, .slice none 0 0, .slice none 0 0] 29 (0, 0)) y33_) : gb352 ≠ gb383)); have n10_ := Aside0.mk ((by rw [hg]; exact Nat.ne_of_gt (blk_lt (g := gb352) (o := .cells #[.int .i64 0, .int .u32 0, .slice none 0 0, .slice none 0 0] 29 (0, 0)) y33_) : gb383 ≠ gb352)); have n11_ := Aside0.mk ((by rw [hg]; exact Nat.ne_of_lt (blk_lt (g := gb377) (o := .cells #[.int .i64 2, .int .u32 0, .slice none 0 0, .slice none 0 0] 29 (0, 0)) y52_) : gb377 ≠ gb383)); have n12_ := Aside0.mk ((by rw [hg]; exact Nat.ne_of_gt (blk_lt (g := gb377) (o := .cells #[.int .i64 2, .int .u32 0, .slice none 0 0, .slice none 0 0] 29 (0, 0)) y52_) : gb383 ≠ gb377)); clear HO0; clear HO373; clear HO382; clear BK352; clear BK377; clear HB; have HO0 := n0_; have HO373 := n1_; have HO382 := n2_; have BK352 := n3_; have BK377 := n4_; have HB := n5_; have BK383 := n6_; have GW383 := n7_; have GE383 := n8_; have NB352_383 := n9_; have NB383_352 := n10_; have NB377_383 := n11_; have NB383_377 := n12_; clear n0_ n1_ n2_ n3_ n4_ n5_ n6_ n7_ n8_ n9_ n10_ n11_ n12_; clear hb hbox hg))
           go_loopg [0, 57] k (fun kq v0 v57 w' => ∃ (x0_1 : List Int) (x57_1 : Int) (x353000_1 : Int) (x353001_1 : Int) (x378003_1 : List (S45)) (x384000_1 : Int) (x384001_1 : Int) (x384002_1 : Int) (x384003_1 : Int) (u378003 : Value), v57 = .int .i64 x57_1 ∧ Aside0 (manometerref13_Take.l0 kq x0_1 (wrap64 (t374)) x57_1 2 0 x378003_1 x384000_1 x384001_1 x384002_1 x384003_1 = some (r1, r2, r3, r4, r5)) ∧ Aside0 (kq ≤ k) ∧ Aside0 (Kd.V (Kd.int .u8) 5 w' w.heap.size (fun k_ => (P0_ k_ ∨ w.heap.size ≤ k_) ∧ some k_ ≠ (u378003 : Value).ownBlock ∧ k_ ≠ gb352 ∧ k_ ≠ gb377 ∧ k_ ≠ gb383) v0 x0_1) ∧ Aside0 (Kd.R k45 45 w' w.heap.size (fun k_ => (w.heap.size ≤ k_) ∧ k_ ≠ gb383) u378003 x378003_1) ∧ Aside0 (w'.heap[gb352]? = some (.cells #[.int .i64 x353000_1, .int .u32 x353001_1, (.slice none 0 0), (.slice none 0 0)] 29 (0, 0))) ∧ Aside0 (w'.heap[gb377]? = some (.cells #[.int .i64 2, .int .u32 0, (.slice none 0 0), u378003] 29 (0, 0))) ∧ Aside0 (w'.heap[gb383]? = some (.cells #[.int .u32 x384000_1, .int .i64 x384001_1, .int .u64 x384002_1, .int .u64 x384003_1] 45 (0, 0))) ∧ Aside0 (Below w.heap.size w w'))
           case atStart => exact ⟨(y378), (0), (0), (0), (([] : List (S45))), (0), (0), (0), (0), (.slice none 0 0), y7_, H', ⟨Nat.le_refl _⟩, ⟨by (with_reducible repeat (first | apply Kd.V_alloc | apply Kd.V_drewN | apply Kd.V_drew)); exact Kd.V_mono HO382.out (fun _ hk => ⟨hk.1.1, ⟨(by simp [Value.ownBlock]), ⟨hk.1.2.1, ⟨hk.1.2.2, hk.2⟩⟩⟩⟩)⟩, ⟨y6_⟩, ⟨y33_⟩, ⟨y52_⟩, ⟨y87_⟩, ⟨y16_⟩⟩
           case round =>
            clear H'
            try clear c1
            try clear q1
            try clear c2
            try clear c2b0
            try clear c2b1
            try clear c2b2
            try clear p2
            try clear q2
            try clear c3
            try clear p3
            try clear q3
            try clear hx3
            try clear qi3
            try clear c5
            try clear c5b0
            try clear c5b1
            try clear c6
            try clear c6b0
            try clear c6b1
            try clear p6
            try clear c7
            try clear c7b0
            try clear c7b1
            try clear c10
            try clear q10
            try clear c15
            try clear c15b0
            try clear c15b1
            try clear c16
            try clear c16b0
            try clear c16b1
            try clear c18
            try clear c18b0
            try clear c18b1
            try clear c19
            try clear c19b0
            try clear c21
            try clear q21
            try clear c23
            try clear c23b0
            try clear c23b1
            try clear c24
            try clear c25
            try clear q25
            try clear c28
            try clear c28b0
            try clear c28b1
            try clear c29
            try clear c29b0
            try clear c29b1
            try clear c31
            try clear q31
            try clear c33
            try clear p35
            try clear q35
            try clear hx35
            try clear qi35
            try clear c36
            try clear p36
            try clear q36
            try clear hx36
            try clear qi36
            try clear hcz12_0
            try clear hcz12_1
            try clear hcz12_2
            try clear hcz12_3
            try clear hcz22_0
            try clear hcz22_1
            try clear hcz22_2
            try clear hcz22_3
            try clear hcz26_0
            try clear hcz26_1
            try clear hcz26_2
            try clear hcz26_3
            try clear hcz34_0
            try clear hcz34_1
            try clear hcz34_2
            try clear hcz34_3
            try clear hcz4_0
            try clear hcz4_1
            try clear hcz4_2
            try clear hcz4_3
            try clear hfz12_0
            try clear hfz12_1
            try clear hfz12_2
            try clear hfz12_3
            try clear hfz22_0
            try clear hfz22_1
            try clear hfz22_2
            try clear hfz22_3
            try clear hfz26_0
            try clear hfz26_1
            try clear hfz26_2
            try clear hfz26_3
            try clear hfz34_0
            try clear hfz34_1
            try clear hfz34_2
            try clear hfz34_3
            try clear hfz4_0
            try clear hfz4_1
            try clear hfz4_2
            try clear hfz4_3
            try clear hx353_0
            try clear hx368_0
            try clear p353
            try clear p368
            try clear q036
            try clear q10
            try clear q21
            try clear q25
            try clear q31
            try clear q353
            try clear q36
            try clear q368
            obtain ⟨x0_1, x57_1, x353000_1, x353001_1, x378003_1, x384000_1, x384001_1, x384002_1, x384003_1, u378003, rfl, HA, HK1, HO_0, HO_378003, BK352, BK377, BK383, HB⟩ := hrel
            cases gk with
            | zero => exact absurd HA.out (by simp [manometerref13_Take.l0])
            | succ k1 =>
             have H := HA.out
             clear HA
             simp only [manometerref13_Take.l0] at H
             by_cases c38 : x57_1 < (wrap64 (t374))
             ·rw [if_pos c38] at H
              have c38b0 : decide (x57_1 < (wrap64 (t374))) = true := decide_eq_true c38
              clear c38
              replace H := Option.bind_eq_some_iff.mp H
              obtain ⟨⟨t384, t385, t386, t387, t388, t391⟩, A390, H⟩ := H
              replace H : (if t391 = 0 then (if x378003_1.length < 4398046511104 then (manometerref13_Take.l0 k1 t388 (wrap64 (t374)) (wrap64 (x57_1 + 1)) 2 0 (x378003_1 ++ [(⟨t384, (⟨t385, t386, t387⟩ : S43)⟩ : S45)]) t384 t385 t386 t387) else (none)) else (some (0, 0, ([] : List (S52)), ([] : List (S45)), t391))) = some (r1, r2, r3, r4, r5) := H
              have A39 := Aside0.mk A390
              clear A390
              by_cases c40 : t391 = 0
              ·rw [if_pos c40] at H
               have c40b0 : (t391 == 0) = true := beq_iff_eq.mpr c40
               have c40b1 : (t391 != 0) = false := bne_eq_false_iff_eq.mpr c40
               clear c40
               by_cases c41 : x378003_1.length < 4398046511104
               ·rw [if_pos c41] at H
                have LMc41 := Aside0.mk c41
                clear c41
                obtain ⟨y392, hy392⟩ : ∃ y_ : List (S45), y_ = (x378003_1 ++ [(⟨t384, (⟨t385, t386, t387⟩ : S43)⟩ : S45)]) := ⟨_, rfl⟩
                replace H : (manometerref13_Take.l0 k1 t388 (wrap64 (t374)) (wrap64 (x57_1 + 1)) 2 0 y392 t384 t385 t386 t387) = some (r1, r2, r3, r4, r5) := by first | (rw [hy392]; with_reducible exact H) | (have H2_ := (Option.bind_some _ _).symm.trans H; rw [hy392]; with_reducible exact H2_) | (have H2_ := (Option.bind_some _ _).symm.trans H; with_reducible exact H2_) | with_reducible exact H | (rw [hy392]; exact H) | exact H
                have Ny392 := Aside0.mk hy392
                clear hy392
                have H' := Aside0.mk H
                clear H
                have hnb42 := NB383_352.out
                have hnc42 := NB352_383.out
                have hnb43 := NB383_377.out
                have hnc43 := NB377_383.out
                have hcz44_0 : wr.cell? ⟨gb383, 0, none⟩ = some (.int .u32 x384000_1) := (blk_cell BK383.out 0).trans rfl
                have hcz44_1 : wr.cell? ⟨gb383, 1, none⟩ = some (.int .i64 x384001_1) := (blk_cell BK383.out 1).trans rfl
                have hcz44_2 : wr.cell? ⟨gb383, 2, none⟩ = some (.int .u64 x384002_1) := (blk_cell BK383.out 2).trans rfl
                have hcz44_3 : wr.cell? ⟨gb383, 3, none⟩ = some (.int .u64 x384003_1) := (blk_cell BK383.out 3).trans rfl
                have hfz44_0 := blk_frozen BK383.out 0
                have hfz44_1 := blk_frozen BK383.out 1
                have hfz44_2 := blk_frozen BK383.out 2
                have hfz44_3 := blk_frozen BK383.out 3
                obtain ⟨Ao45, co45, eo45⟩ := Kd.V_slice HO_0.out
                subst eo45
                go_wp2_with (first | ((with_reducible refine gate_callee (f := 25) rfl ?_); refine goesL_ (some 62) rfl rfl Tryd.func25 (by kernel_rfl) rfl #[.slice Ao45 x0_1.length co45, .agg #[.int .u32 x384000_1, .int .i64 x384001_1, .int .u64 x384002_1, .int .u64 x384003_1]] rfl y3_ ?_; (with_reducible refine (manometerref13_one.calls k1 (fun k_ => ((P0_ k_ ∨ w.heap.size ≤ k_) ∧ (some k_ ≠ (u378003 : Value).ownBlock ∧ (k_ ≠ gb352 ∧ (k_ ≠ gb377 ∧ k_ ≠ gb383))))) _ _ x0_1 x384000_1 x384001_1 x384002_1 x384003_1 t384 t385 t386 t387 t388 t391 _ ?side1 A39.out).mono ?_); (case side1 => exact HO_0.out); rintro e w46 ⟨v389, rfl, ho0, hb⟩; refine ⟨_, rfl, ?_⟩; have n0_ := Aside0.mk (Kd.V_below y28_ hb); have n1_ := Aside0.mk (Kd.R_below y104_ hb); have n2_ := Aside0.mk (Kd.V_lower (Kd.V_mono (ok' := fun k_ => (P0_ k_ ∨ w.heap.size ≤ k_) ∧ some k_ ≠ (u378003 : Value).ownBlock ∧ k_ ≠ gb352 ∧ k_ ≠ gb377 ∧ k_ ≠ gb383) ho0 (fun k_ hk_ => ⟨Or.elim hk_ (fun hs_ => hs_.1) (fun hn_ => (.inr (Nat.le_trans (below_size y16_) hn_))), Or.elim hk_ (fun hs_ => hs_.2.1) (fun hn_ => (Kd.fresh' (Kd.R_lt y104_) k_ hn_)), Or.elim hk_ (fun hs_ => hs_.2.2.1) (fun hn_ => (Kd.freshB (g := gb352) (o := .cells #[.int .i64 x353000_1, .int .u32 x353001_1, .slice none 0 0, .slice none 0 0] 29 (0, 0)) y33_ k_ hn_)), Or.elim hk_ (fun hs_ => hs_.2.2.2.1) (fun hn_ => (Kd.freshB (g := gb377) (o := .cells #[.int .i64 2, .int .u32 0, .slice none 0 0, u378003] 29 (0, 0)) y52_ k_ hn_)), Or.elim hk_ (fun hs_ => hs_.2.2.2.2) (fun hn_ => (Kd.freshB (g := gb383) (o := .cells #[.int .u32 x384000_1, .int .i64 x384001_1, .int .u64 x384002_1, .int .u64 x384003_1] 45 (0, 0)) y87_ k_ hn_))⟩)) (below_size y16_)); have n3_ := Aside0.mk (blk_below (g := gb352) (o := .cells #[.int .i64 x353000_1, .int .u32 x353001_1, .slice none 0 0, .slice none 0 0] 29 (0, 0)) y33_ hb); have n4_ := Aside0.mk (blk_below (g := gb377) (o := .cells #[.int .i64 2, .int .u32 0, .slice none 0 0, u378003] 29 (0, 0)) y52_ hb); have n5_ := Aside0.mk (blk_below (g := gb383) (o := .cells #[.int .u32 x384000_1, .int .i64 x384001_1, .int .u64 x384002_1, .int .u64 x384003_1] 45 (0, 0)) y87_ hb); have n6_ := Aside0.mk (below_step y16_ hb); clear HO_0; clear HO_378003; clear BK352; clear BK377; clear BK383; clear HB; have HO_0 := n0_; have HO_378003 := n1_; have HO390 := n2_; have BK352 := n3_; have BK377 := n4_; have BK383 := n5_; have HB := n6_; clear n0_ n1_ n2_ n3_ n4_ n5_ n6_; (try clear hb); (try clear hb2); (try clear hk); (try clear hi); (try clear ho0); have hcz47_0 : w46.cell? ⟨gb383, 0, none⟩ = some (.int .u32 x384000_1) := (blk_cell BK383.out 0).trans rfl; have hcz47_1 : w46.cell? ⟨gb383, 1, none⟩ = some (.int .i64 x384001_1) := (blk_cell BK383.out 1).trans rfl; have hcz47_2 : w46.cell? ⟨gb383, 2, none⟩ = some (.int .u64 x384002_1) := (blk_cell BK383.out 2).trans rfl; have hcz47_3 : w46.cell? ⟨gb383, 3, none⟩ = some (.int .u64 x384003_1) := (blk_cell BK383.out 3).trans rfl; have hfz47_0 := blk_frozen BK383.out 0; have hfz47_1 := blk_frozen BK383.out 1; have hfz47_2 := blk_frozen BK383.out 2; have hfz47_3 := blk_frozen BK383.out 3; have hnb48 := NB377_352.out; have hnc48 := NB352_377.out; have hcz49_0 : w46.cell? ⟨gb377, 0, none⟩ = some (.int .i64 2) := (blk_cell BK377.out 0).trans rfl; have hcz49_1 : w46.cell? ⟨gb377, 1, none⟩ = some (.int .u32 0) := (blk_cell BK377.out 1).trans rfl; have hcz49_2 : w46.cell? ⟨gb377, 2, none⟩ = some (.slice none 0 0) := (blk_cell BK377.out 2).trans rfl; have hcz49_3 : w46.cell? ⟨gb377, 3, none⟩ = some (u378003) := (blk_cell BK377.out 3).trans rfl; have hfz49_0 := blk_frozen BK377.out 0; have hfz49_1 := blk_frozen BK377.out 1; have hfz49_2 := blk_frozen BK377.out 2; have hfz49_3 := blk_frozen BK377.out 3) | ((with_reducible refine gate_builtin (b := .append) (xs := #[.tmp 71, .tmp 73]) rfl ?_); at_builtin; refine Kd.R_append k45 (w0 := w) w.heap.size rfl (.tmp 71) (.tmp 73) 27 45 (.agg #[(.int .u32 0), (.int .i64 0), (.int .u64 0), (.int .u64 0)]) 32 rfl Tryd.underlying27 info45 rfl (by decide) (by omega) u378003 x378003_1 (⟨t384, (⟨t385, t386, t387⟩ : S43)⟩ : S45) [.int .u32 t384, .int .i64 t385, .int .u64 t386, .int .u64 t387] (fun k_ => (w.heap.size ≤ k_) ∧ k_ ≠ gb383) (fun _ => False) rfl (by first | (go_simp; done) | (go_simp; rfl)) ?aP (fun _ hk => hk.elim) ?aF ?aO ?aB ?aS ?aL ?_; (case aP => exact k45_mkM _ _ _ (⟨t384, (⟨t385, t386, t387⟩ : S43)⟩ : S45)); (case aB => exact y16_); (case aF => exact (fun k_ hk => ⟨(Nat.le_trans (below_size y16_) hk), Kd.freshB (g := gb383) (o := .cells #[.int .u32 t384, .int .i64 t385, .int .u64 t386, .int .u64 t387] 45 (0, 0)) y44_ k_ hk⟩)); (case aO => exact (by (with_reducible repeat (first | apply Kd.R_alloc | apply Kd.R_drewN | apply Kd.R_drew)); exact Kd.R_mono (Kd.R_far (p := ⟨gb383, 3, none⟩) (Kd.R_far (p := ⟨gb383, 2, none⟩) (Kd.R_far (p := ⟨gb383, 1, none⟩) (Kd.R_far (p := ⟨gb383, 0, none⟩) (Kd.R_mono HO_378003.out (fun k_ hk => (⟨hk, hk.2⟩ : _ ∧ k_ ≠ gb383))) (fun _ hk => hk.2) (.int .u32 t384)) (fun _ hk => hk.2) (.int .i64 t385)) (fun _ hk => hk.2) (.int .u64 t386)) (fun _ hk => hk.2) (.int .u64 t387)) (fun _ hk => ⟨hk.1.1, hk.1.2⟩))); (case aS => exact (below_size y16_)); (case aL => have := LMc41.out; omega); intro v393 w50 ho hb hg hat; rw [← Ny392.out] at ho; have n0_ := Aside0.mk (Kd.V_afterv (ok := (fun k_ => (P0_ k_ ∨ w.heap.size ≤ k_) ∧ k_ ≠ gb352 ∧ k_ ≠ gb377 ∧ k_ ≠ gb383)) (by (with_reducible repeat (first | apply Kd.V_alloc | apply Kd.V_drewN | apply Kd.V_drew)); exact Kd.V_mono (Kd.V_far (p := ⟨gb383, 3, none⟩) (Kd.V_far (p := ⟨gb383, 2, none⟩) (Kd.V_far (p := ⟨gb383, 1, none⟩) (Kd.V_far (p := ⟨gb383, 0, none⟩) (Kd.V_mono HO_0.out (fun k_ hk => (⟨hk, hk.2.2.2.2⟩ : _ ∧ k_ ≠ gb383))) (fun _ hk => hk.2) (.int .u32 t384)) (fun _ hk => hk.2) (.int .i64 t385)) (fun _ hk => hk.2) (.int .u64 t386)) (fun _ hk => hk.2) (.int .u64 t387)) (fun _ hk => ⟨⟨hk.1.1, ⟨hk.1.2.2.1, ⟨hk.1.2.2.2.1, hk.1.2.2.2.2⟩⟩⟩, hk.1.2.1⟩)) hg hat); have n1_ := Aside0.mk (blk_grown (g := gb352) (o := .cells #[.int .i64 x353000_1, .int .u32 x353001_1, .slice none 0 0, .slice none 0 0] 29 (0, 0)) (by (with_reducible repeat (first | refine blk_drewN ?_ _ | refine blk_drew ?_ | refine blk_alloc ?_ _)); refine blk_far ?_ NB352_383.out _; (with_reducible repeat (first | refine blk_drewN ?_ _ | refine blk_drew ?_ | refine blk_alloc ?_ _)); refine blk_far ?_ NB352_383.out _; (with_reducible repeat (first | refine blk_drewN ?_ _ | refine blk_drew ?_ | refine blk_alloc ?_ _)); refine blk_far ?_ NB352_383.out _; (with_reducible repeat (first | refine blk_drewN ?_ _ | refine blk_drew ?_ | refine blk_alloc ?_ _)); refine blk_far ?_ NB352_383.out _; (with_reducible repeat (first | refine blk_drewN ?_ _ | refine blk_drew ?_ | refine blk_alloc ?_ _)); exact BK352.out) hg (Kd.R_ne HO_378003.out BK352.out (by decide))); have n2_ := Aside0.mk (blk_grown (g := gb377) (o := .cells #[.int .i64 2, .int .u32 0, .slice none 0 0, u378003] 29 (0, 0)) (by (with_reducible repeat (first | refine blk_drewN ?_ _ | refine blk_drew ?_ | refine blk_alloc ?_ _)); refine blk_far ?_ NB377_383.out _; (with_reducible repeat (first | refine blk_drewN ?_ _ | refine blk_drew ?_ | refine blk_alloc ?_ _)); refine blk_far ?_ NB377_383.out _; (with_reducible repeat (first | refine blk_drewN ?_ _ | refine blk_drew ?_ | refine blk_alloc ?_ _)); refine blk_far ?_ NB377_383.out _; (with_reducible repeat (first | refine blk_drewN ?_ _ | refine blk_drew ?_ | refine blk_alloc ?_ _)); refine blk_far ?_ NB377_383.out _; (with_reducible repeat (first | refine blk_drewN ?_ _ | refine blk_drew ?_ | refine blk_alloc ?_ _)); exact BK377.out) hg (Kd.R_ne HO_378003.out BK377.out (by decide))); have n3_ := Aside0.mk (blk_grown (g := gb383) (o := .cells #[.int .u32 t384, .int .i64 t385, .int .u64 t386, .int .u64 t387] 45 (0, 0)) y44_ hg (Kd.R_away HO_378003.out (fun _ hk => hk.2))); have n4_ := Aside0.mk (Kd.V_afterv (ok := (fun k_ => (P0_ k_ ∨ w.heap.size ≤ k_) ∧ k_ ≠ gb352 ∧ k_ ≠ gb377 ∧ k_ ≠ gb383)) (by (with_reducible repeat (first | apply Kd.V_alloc | apply Kd.V_drewN | apply Kd.V_drew)); exact Kd.V_mono (Kd.V_far (p := ⟨gb383, 3, none⟩) (Kd.V_far (p := ⟨gb383, 2, none⟩) (Kd.V_far (p := ⟨gb383, 1, none⟩) (Kd.V_far (p := ⟨gb383, 0, none⟩) (Kd.V_mono HO390.out (fun k_ hk => (⟨hk, hk.2.2.2.2⟩ : _ ∧ k_ ≠ gb383))) (fun _ hk => hk.2) (.int .u32 t384)) (fun _ hk => hk.2) (.int .i64 t385)) (fun _ hk => hk.2) (.int .u64 t386)) (fun _ hk => hk.2) (.int .u64 t387)) (fun _ hk => ⟨⟨hk.1.1, ⟨hk.1.2.2.1, ⟨hk.1.2.2.2.1, hk.1.2.2.2.2⟩⟩⟩, hk.1.2.1⟩)) hg hat); have n5_ := Aside0.mk (hb); have n6_ := Aside0.mk (ho); clear HO_0; clear BK352; clear BK377; clear BK383; clear HO390; clear HB; clear HO_378003; have HO_0 := n0_; have BK352 := n1_; have BK377 := n2_; have BK383 := n3_; have HO390 := n4_; have HB := n5_; have HO394 := n6_; clear n0_ n1_ n2_ n3_ n4_ n5_ n6_; clear ho hb hg hat; obtain ⟨Ao51, co51, eo51⟩ := Kd.R_slice HO394.out; subst eo51; have hcz52_0 : w50.cell? ⟨gb377, 0, none⟩ = some (.int .i64 2) := (blk_cell BK377.out 0).trans rfl; have hcz52_1 : w50.cell? ⟨gb377, 1, none⟩ = some (.int .u32 0) := (blk_cell BK377.out 1).trans rfl; have hcz52_2 : w50.cell? ⟨gb377, 2, none⟩ = some (.slice none 0 0) := (blk_cell BK377.out 2).trans rfl; have hcz52_3 : w50.cell? ⟨gb377, 3, none⟩ = some (u378003) := (blk_cell BK377.out 3).trans rfl; have hfz52_0 := blk_frozen BK377.out 0; have hfz52_1 := blk_frozen BK377.out 1; have hfz52_2 := blk_frozen BK377.out 2; have hfz52_3 := blk_frozen BK377.out 3))
                go_roundg k1
                case measure => have := HK1.out; omega
                case rel => exact ⟨(t388), (wrap64 (x57_1 + 1)), (x353000_1), (x353001_1), (y392), (t384), (t385), (t386), (t387), (.slice Ao51 y392.length co51), y7_, H', ⟨y109_⟩, ⟨by (with_reducible repeat (first | apply Kd.V_alloc | apply Kd.V_drewN | apply Kd.V_drew)); exact Kd.V_mono (Kd.V_far (p := ⟨gb377, 3, none⟩) (Kd.V_mono HO390.out (fun k_ hk => (⟨hk, hk.1.2.2.1⟩ : _ ∧ k_ ≠ gb377))) (fun _ hk => hk.2) (.slice Ao51 y392.length co51)) (fun _ hk => ⟨hk.1.1.1, ⟨hk.1.2, ⟨hk.1.1.2.1, ⟨hk.1.1.2.2.1, hk.1.1.2.2.2⟩⟩⟩⟩)⟩, ⟨by (with_reducible repeat (first | apply Kd.R_alloc | apply Kd.R_drewN | apply Kd.R_drew)); exact Kd.R_mono (Kd.R_far (p := ⟨gb377, 3, none⟩) (Kd.R_types HO394.out BK377.out (by decide)) (fun _ hk => hk.2) (.slice Ao51 y392.length co51)) (fun _ hk => ⟨hk.1.1, hk.1.2⟩)⟩, ⟨by (with_reducible repeat (first | refine blk_drewN ?_ _ | refine blk_drew ?_ | refine blk_alloc ?_ _)); refine blk_far ?_ NB352_377.out _; (with_reducible repeat (first | refine blk_drewN ?_ _ | refine blk_drew ?_ | refine blk_alloc ?_ _)); exact BK352.out⟩, ⟨by (with_reducible repeat (first | refine blk_drewN ?_ _ | refine blk_drew ?_ | refine blk_alloc ?_ _)); refine blk_put (cs := #[.int .i64 2, .int .u32 0, .slice none 0 0, u378003]) ?_ 3 _ rfl; (with_reducible repeat (first | refine blk_drewN ?_ _ | refine blk_drew ?_ | refine blk_alloc ?_ _)); exact BK377.out⟩, ⟨by (with_reducible repeat (first | refine blk_drewN ?_ _ | refine blk_drew ?_ | refine blk_alloc ?_ _)); refine blk_far ?_ NB383_377.out _; (with_reducible repeat (first | refine blk_drewN ?_ _ | refine blk_drew ?_ | refine blk_alloc ?_ _)); exact BK383.out⟩, ⟨y16_⟩⟩
               ·rw [if_neg c41] at H
                exact absurd H (by simp)
              ·rw [if_neg c40] at H
               have c40b0 : (t391 == 0) = false := beq_eq_false_iff_ne.mpr c40
               have c40b1 : (t391 != 0) = true := bne_iff_ne.mpr c40
               simp only [Option.some.injEq, Prod.mk.injEq] at H
               obtain ⟨rfl, rfl, rfl, rfl, rfl⟩ := H
               have hnb53 := NB383_352.out
               have hnc53 := NB352_383.out
               have hnb54 := NB383_377.out
               have hnc54 := NB377_383.out
               have hcz55_0 : wr.cell? ⟨gb383, 0, none⟩ = some (.int .u32 x384000_1) := (blk_cell BK383.out 0).trans rfl
               have hcz55_1 : wr.cell? ⟨gb383, 1, none⟩ = some (.int .i64 x384001_1) := (blk_cell BK383.out 1).trans rfl
               have hcz55_2 : wr.cell? ⟨gb383, 2, none⟩ = some (.int .u64 x384002_1) := (blk_cell BK383.out 2).trans rfl
               have hcz55_3 : wr.cell? ⟨gb383, 3, none⟩ = some (.int .u64 x384003_1) := (blk_cell BK383.out 3).trans rfl
               have hfz55_0 := blk_frozen BK383.out 0
               have hfz55_1 := blk_frozen BK383.out 1
               have hfz55_2 := blk_frozen BK383.out 2
               have hfz55_3 := blk_frozen BK383.out 3
               obtain ⟨Ao56, co56, eo56⟩ := Kd.V_slice HO_0.out
               subst eo56
               go_wp2_with (first | ((with_reducible refine gate_callee (f := 25) rfl ?_); refine goesL_ (some 62) rfl rfl Tryd.func25 (by kernel_rfl) rfl #[.slice Ao56 x0_1.length co56, .agg #[.int .u32 x384000_1, .int .i64 x384001_1, .int .u64 x384002_1, .int .u64 x384003_1]] rfl y3_ ?_; (with_reducible refine (manometerref13_one.calls k1 (fun k_ => ((P0_ k_ ∨ w.heap.size ≤ k_) ∧ (some k_ ≠ (u378003 : Value).ownBlock ∧ (k_ ≠ gb352 ∧ (k_ ≠ gb377 ∧ k_ ≠ gb383))))) _ _ x0_1 x384000_1 x384001_1 x384002_1 x384003_1 t384 t385 t386 t387 t388 t391 _ ?side1 A39.out).mono ?_); (case side1 => exact HO_0.out); rintro e w57 ⟨v389, rfl, ho0, hb⟩; refine ⟨_, rfl, ?_⟩; have n0_ := Aside0.mk (Kd.V_below y28_ hb); have n1_ := Aside0.mk (Kd.R_below y104_ hb); have n2_ := Aside0.mk (Kd.V_lower (Kd.V_mono (ok' := fun k_ => (P0_ k_ ∨ w.heap.size ≤ k_) ∧ some k_ ≠ (u378003 : Value).ownBlock ∧ k_ ≠ gb352 ∧ k_ ≠ gb377 ∧ k_ ≠ gb383) ho0 (fun k_ hk_ => ⟨Or.elim hk_ (fun hs_ => hs_.1) (fun hn_ => (.inr (Nat.le_trans (below_size y16_) hn_))), Or.elim hk_ (fun hs_ => hs_.2.1) (fun hn_ => (Kd.fresh' (Kd.R_lt y104_) k_ hn_)), Or.elim hk_ (fun hs_ => hs_.2.2.1) (fun hn_ => (Kd.freshB (g := gb352) (o := .cells #[.int .i64 x353000_1, .int .u32 x353001_1, .slice none 0 0, .slice none 0 0] 29 (0, 0)) y33_ k_ hn_)), Or.elim hk_ (fun hs_ => hs_.2.2.2.1) (fun hn_ => (Kd.freshB (g := gb377) (o := .cells #[.int .i64 2, .int .u32 0, .slice none 0 0, u378003] 29 (0, 0)) y52_ k_ hn_)), Or.elim hk_ (fun hs_ => hs_.2.2.2.2) (fun hn_ => (Kd.freshB (g := gb383) (o := .cells #[.int .u32 x384000_1, .int .i64 x384001_1, .int .u64 x384002_1, .int .u64 x384003_1] 45 (0, 0)) y87_ k_ hn_))⟩)) (below_size y16_)); have n3_ := Aside0.mk (blk_below (g := gb352) (o := .cells #[.int .i64 x353000_1, .int .u32 x353001_1, .slice none 0 0, .slice none 0 0] 29 (0, 0)) y33_ hb); have n4_ := Aside0.mk (blk_below (g := gb377) (o := .cells #[.int .i64 2, .int .u32 0, .slice none 0 0, u378003] 29 (0, 0)) y52_ hb); have n5_ := Aside0.mk (blk_below (g := gb383) (o := .cells #[.int .u32 x384000_1, .int .i64 x384001_1, .int .u64 x384002_1, .int .u64 x384003_1] 45 (0, 0)) y87_ hb); have n6_ := Aside0.mk (below_step y16_ hb); clear HO_0; clear HO_378003; clear BK352; clear BK377; clear BK383; clear HB; have HO_0 := n0_; have HO_378003 := n1_; have HO390 := n2_; have BK352 := n3_; have BK377 := n4_; have BK383 := n5_; have HB := n6_; clear n0_ n1_ n2_ n3_ n4_ n5_ n6_; (try clear hb); (try clear hb2); (try clear hk); (try clear hi); (try clear ho0); have hcz58_0 : w57.cell? ⟨gb383, 0, none⟩ = some (.int .u32 x384000_1) := (blk_cell BK383.out 0).trans rfl; have hcz58_1 : w57.cell? ⟨gb383, 1, none⟩ = some (.int .i64 x384001_1) := (blk_cell BK383.out 1).trans rfl; have hcz58_2 : w57.cell? ⟨gb383, 2, none⟩ = some (.int .u64 x384002_1) := (blk_cell BK383.out 2).trans rfl; have hcz58_3 : w57.cell? ⟨gb383, 3, none⟩ = some (.int .u64 x384003_1) := (blk_cell BK383.out 3).trans rfl; have hfz58_0 := blk_frozen BK383.out 0; have hfz58_1 := blk_frozen BK383.out 1; have hfz58_2 := blk_frozen BK383.out 2; have hfz58_3 := blk_frozen BK383.out 3; have hnb59 := NB352_377.out; have hnc59 := NB377_352.out; have hcz60_0 : w57.cell? ⟨gb352, 0, none⟩ = some (.int .i64 x353000_1) := (blk_cell BK352.out 0).trans rfl; have hcz60_1 : w57.cell? ⟨gb352, 1, none⟩ = some (.int .u32 x353001_1) := (blk_cell BK352.out 1).trans rfl; have hcz60_2 : w57.cell? ⟨gb352, 2, none⟩ = some (.slice none 0 0) := (blk_cell BK352.out 2).trans rfl; have hcz60_3 : w57.cell? ⟨gb352, 3, none⟩ = some (.slice none 0 0) := (blk_cell BK352.out 3).trans rfl; have hfz60_0 := blk_frozen BK352.out 0; have hfz60_1 := blk_frozen BK352.out 1; have hfz60_2 := blk_frozen BK352.out 2; have hfz60_3 := blk_frozen BK352.out 3))
               refine bodyPost_ret (results_ct rfl _ _ gb352 29 #[.int .i64 0, .int .u32 0, .slice none 0 0, .slice none 0 0] (0, 0) _ rfl (by (with_reducible repeat (first | refine blk_drewN ?_ _ | refine blk_drew ?_ | refine blk_alloc ?_ _)); refine blk_put (cs := #[.int .i64 0, .int .u32 0, .slice none 0 0, .slice none 0 0]) ?_ 3 _ rfl; (with_reducible repeat (first | refine blk_drewN ?_ _ | refine blk_drew ?_ | refine blk_alloc ?_ _)); refine blk_put (cs := #[.int .i64 0, .int .u32 0, .slice none 0 0, .slice none 0 0]) ?_ 2 _ rfl; (with_reducible repeat (first | refine blk_drewN ?_ _ | refine blk_drew ?_ | refine blk_alloc ?_ _)); refine blk_put (cs := #[.int .i64 0, .int .u32 x353001_1, .slice none 0 0, .slice none 0 0]) ?_ 1 _ rfl; (with_reducible repeat (first | refine blk_drewN ?_ _ | refine blk_drew ?_ | refine blk_alloc ?_ _)); refine blk_put (cs := #[.int .i64 x353000_1, .int .u32 x353001_1, .slice none 0 0, .slice none 0 0]) ?_ 0 _ rfl; (with_reducible repeat (first | refine blk_drewN ?_ _ | refine blk_drew ?_ | refine blk_alloc ?_ _)); refine blk_far ?_ NB352_383.out _; (with_reducible repeat (first | refine blk_drewN ?_ _ | refine blk_drew ?_ | refine blk_alloc ?_ _)); refine blk_far ?_ NB352_383.out _; (with_reducible repeat (first | refine blk_drewN ?_ _ | refine blk_drew ?_ | refine blk_alloc ?_ _)); refine blk_far ?_ NB352_383.out _; (with_reducible repeat (first | refine blk_drewN ?_ _ | refine blk_drew ?_ | refine blk_alloc ?_ _)); refine blk_far ?_ NB352_383.out _; (with_reducible repeat (first | refine blk_drewN ?_ _ | refine blk_drew ?_ | refine blk_alloc ?_ _)); exact BK352.out) Tryd.underlying29 rfl (by kernel_rfl)) rfl ?_
               exact ⟨_, _, y96_, y6_, y6_, y16_⟩
             ·rw [if_neg c38] at H
              have c38b0 : decide (x57_1 < (wrap64 (t374))) = false := decide_eq_false c38
              clear c38
              by_cases c61 : (x0_1.length : Int) > 0
              ·rw [if_pos c61] at H
               have c61b0 : decide (0 < (x0_1.length : Int)) = true := decide_eq_true c61
               have c61b1 : decide (0 < x0_1.length) = true := decide_eq_true (by omega)
               clear c61
               simp only [Option.some.injEq, Prod.mk.injEq] at H
               obtain ⟨rfl, rfl, rfl, rfl, rfl⟩ := H
               obtain ⟨Ao62, co62, eo62⟩ := Kd.V_slice HO_0.out
               subst eo62
               have hnb63 := NB352_377.out
               have hnc63 := NB377_352.out
               have hnb64 := NB352_383.out
               have hnc64 := NB383_352.out
               have hcz65_0 : wr.cell? ⟨gb352, 0, none⟩ = some (.int .i64 x353000_1) := (blk_cell BK352.out 0).trans rfl
               have hcz65_1 : wr.cell? ⟨gb352, 1, none⟩ = some (.int .u32 x353001_1) := (blk_cell BK352.out 1).trans rfl
               have hcz65_2 : wr.cell? ⟨gb352, 2, none⟩ = some (.slice none 0 0) := (blk_cell BK352.out 2).trans rfl
               have hcz65_3 : wr.cell? ⟨gb352, 3, none⟩ = some (.slice none 0 0) := (blk_cell BK352.out 3).trans rfl
               have hfz65_0 := blk_frozen BK352.out 0
               have hfz65_1 := blk_frozen BK352.out 1
               have hfz65_2 := blk_frozen BK352.out 2
               have hfz65_3 := blk_frozen BK352.out 3
               go_wp2
               refine bodyPost_ret (results_ct rfl _ _ gb352 29 #[.int .i64 0, .int .u32 0, .slice none 0 0, .slice none 0 0] (0, 0) _ rfl (by (with_reducible repeat (first | refine blk_drewN ?_ _ | refine blk_drew ?_ | refine blk_alloc ?_ _)); refine blk_put (cs := #[.int .i64 0, .int .u32 0, .slice none 0 0, .slice none 0 0]) ?_ 3 _ rfl; (with_reducible repeat (first | refine blk_drewN ?_ _ | refine blk_drew ?_ | refine blk_alloc ?_ _)); refine blk_put (cs := #[.int .i64 0, .int .u32 0, .slice none 0 0, .slice none 0 0]) ?_ 2 _ rfl; (with_reducible repeat (first | refine blk_drewN ?_ _ | refine blk_drew ?_ | refine blk_alloc ?_ _)); refine blk_put (cs := #[.int .i64 0, .int .u32 x353001_1, .slice none 0 0, .slice none 0 0]) ?_ 1 _ rfl; (with_reducible repeat (first | refine blk_drewN ?_ _ | refine blk_drew ?_ | refine blk_alloc ?_ _)); refine blk_put (cs := #[.int .i64 x353000_1, .int .u32 x353001_1, .slice none 0 0, .slice none 0 0]) ?_ 0 _ rfl; (with_reducible repeat (first | refine blk_drewN ?_ _ | refine blk_drew ?_ | refine blk_alloc ?_ _)); exact BK352.out) Tryd.underlying29 rfl (by kernel_rfl)) rfl ?_
               exact ⟨_, _, y96_, y6_, y6_, y16_⟩
              ·rw [if_neg c61] at H
               have c61b0 : decide (0 < (x0_1.length : Int)) = false := decide_eq_false c61
               have c61b1 : decide (0 < x0_1.length) = false := decide_eq_false (by omega)
               clear c61
               simp only [Option.some.injEq, Prod.mk.injEq] at H
               obtain ⟨rfl, rfl, rfl, rfl, rfl⟩ := H
               obtain ⟨Ao66, co66, eo66⟩ := Kd.V_slice HO_0.out
               subst eo66
               have hnb67 := NB377_352.out
               have hnc67 := NB352_377.out
               have hnb68 := NB377_383.out
               have hnc68 := NB383_377.out
               have hcz69_0 : wr.cell? ⟨gb377, 0, none⟩ = some (.int .i64 2) := (blk_cell BK377.out 0).trans rfl
               have hcz69_1 : wr.cell? ⟨gb377, 1, none⟩ = some (.int .u32 0) := (blk_cell BK377.out 1).trans rfl
               have hcz69_2 : wr.cell? ⟨gb377, 2, none⟩ = some (.slice none 0 0) := (blk_cell BK377.out 2).trans rfl
               have hcz69_3 : wr.cell? ⟨gb377, 3, none⟩ = some (u378003) := (blk_cell BK377.out 3).trans rfl
               have hfz69_0 := blk_frozen BK377.out 0
               have hfz69_1 := blk_frozen BK377.out 1
               have hfz69_2 := blk_frozen BK377.out 2
               have hfz69_3 := blk_frozen BK377.out 3
               have hnb70 := NB352_383.out
               have hnc70 := NB383_352.out
               have hcz71_0 : wr.cell? ⟨gb352, 0, none⟩ = some (.int .i64 x353000_1) := (blk_cell BK352.out 0).trans rfl
               have hcz71_1 : wr.cell? ⟨gb352, 1, none⟩ = some (.int .u32 x353001_1) := (blk_cell BK352.out 1).trans rfl
               have hcz71_2 : wr.cell? ⟨gb352, 2, none⟩ = some (.slice none 0 0) := (blk_cell BK352.out 2).trans rfl
               have hcz71_3 : wr.cell? ⟨gb352, 3, none⟩ = some (.slice none 0 0) := (blk_cell BK352.out 3).trans rfl
               have hfz71_0 := blk_frozen BK352.out 0
               have hfz71_1 := blk_frozen BK352.out 1
               have hfz71_2 := blk_frozen BK352.out 2
               have hfz71_3 := blk_frozen BK352.out 3
               obtain ⟨Ao72, co72, eo72⟩ := Kd.R_slice HO_378003.out
               subst eo72
               go_wp2
               refine bodyPost_ret (results_ct rfl _ _ gb352 29 #[.int .i64 2, .int .u32 0, .slice none 0 0, .slice Ao72 x378003_1.length co72] (0, 0) _ rfl (by (with_reducible repeat (first | refine blk_drewN ?_ _ | refine blk_drew ?_ | refine blk_alloc ?_ _)); refine blk_put (cs := #[.int .i64 2, .int .u32 0, .slice none 0 0, .slice none 0 0]) ?_ 3 _ rfl; (with_reducible repeat (first | refine blk_drewN ?_ _ | refine blk_drew ?_ | refine blk_alloc ?_ _)); refine blk_put (cs := #[.int .i64 2, .int .u32 0, .slice none 0 0, .slice none 0 0]) ?_ 2 _ rfl; (with_reducible repeat (first | refine blk_drewN ?_ _ | refine blk_drew ?_ | refine blk_alloc ?_ _)); refine blk_put (cs := #[.int .i64 2, .int .u32 x353001_1, .slice none 0 0, .slice none 0 0]) ?_ 1 _ rfl; (with_reducible repeat (first | refine blk_drewN ?_ _ | refine blk_drew ?_ | refine blk_alloc ?_ _)); refine blk_put (cs := #[.int .i64 x353000_1, .int .u32 x353001_1, .slice none 0 0, .slice none 0 0]) ?_ 0 _ rfl; (with_reducible repeat (first | refine blk_drewN ?_ _ | refine blk_drew ?_ | refine blk_alloc ?_ _)); exact BK352.out) Tryd.underlying29 rfl (by kernel_rfl)) rfl ?_
               exact ⟨_, _, y96_, y6_, by (with_reducible repeat (first | apply Kd.R_alloc | apply Kd.R_drewN | apply Kd.R_drew)); exact Kd.R_mono (Kd.R_far (p := ⟨gb352, 3, none⟩) (Kd.R_far (p := ⟨gb352, 2, none⟩) (Kd.R_far (p := ⟨gb352, 1, none⟩) (Kd.R_far (p := ⟨gb352, 0, none⟩) (Kd.R_types HO_378003.out BK352.out (by decide)) (fun _ hk => hk.2) (.int .i64 2)) (fun _ hk => hk.2) (.int .u32 0)) (fun _ hk => hk.2) (.slice none 0 0)) (fun _ hk => hk.2) (.slice Ao72 x378003_1.length co72)) (fun _ hk => hk.1.1), y16_⟩
          ·rw [if_neg c29] at H
           exact absurd H (by simp)
         ·rw [if_neg c28] at H
          exact absurd H (by simp)
      ·rw [if_neg c18] at H
       have c18b0 : (t376 == 0) = false := beq_eq_false_iff_ne.mpr c18
       have c18b1 : (t376 != 0) = true := bne_iff_ne.mpr c18
       simp only [Option.some.injEq, Prod.mk.injEq] at H
       obtain ⟨rfl, rfl, rfl, rfl, rfl⟩ := H
       go_enter Tryd.func10, Tryd.ntmps10
       go_wp2_with (first | ((with_reducible refine gate_dst (N := 2) rfl ?_); refine box_event ?hg (N := 2) ?hd (cs := #[.int .i64 0, .int .u32 0, .slice none 0 0, .slice none 0 0]) (t := 29) ?hr ?_; (case hd => rfl); (case hg => rfl); (case hr => first | (go_simp; done) | (go_simp; rfl)); intro gb352 hg w73 hbox hb; have n0_ := Aside0.mk (Kd.V_below (Kd.V_elderB y32_ gb352 (Nat.le_of_eq hg.symm)) hb); have n1_ := Aside0.mk (below_step y1_ hb); have n2_ := Aside0.mk (hbox); have n3_ := Aside0.mk ((y12_ : w.heap.size ≤ gb352)); have n4_ := Aside0.mk ((y12_ : w.heap.size ≤ gb352)); clear HO0; clear HB; have HO0 := n0_; have HB := n1_; have BK352 := n2_; have GW352 := n3_; have GE352 := n4_; clear n0_ n1_ n2_ n3_ n4_; clear hb hbox hg; have p353 : 0 ≤ (0 : Int) := (by omega); have q353 : 0 < (l0.length : Int) := of_decide_eq_true y2_; obtain ⟨ad353, e353, hx353_0⟩ := Kd.at_int (Kd.V_reads' HO0.out).2.2 0 p353 q353; cases e353; have qi353 : (0 < l0.length) = True := eq_true (by omega); (try rw [show ((0 : Int)).toNat = 0 from rfl] at hx353_0); (try rw [Addr.add_zero'] at hx353_0); replace p353 := eq_true p353; replace q353 := eq_true q353; have p368 : 0 ≤ (0 : Int) := (by omega); have q368 : 0 < (l0.length : Int) := of_decide_eq_true y2_; obtain ⟨ad368, e368, hx368_0⟩ := Kd.at_int (Kd.V_reads' HO0.out).2.2 0 p368 q368; obtain rfl : ad353 = ad368 := (by injection e368); have qi368 : (0 < l0.length) = True := eq_true (by omega); (try rw [show ((0 : Int)).toNat = 0 from rfl] at hx368_0); (try rw [Addr.add_zero'] at hx368_0); replace p368 := eq_true p368; replace q368 := eq_true q368; have q74 : (1 : Int) ≤ ((l0.length : Int) : Int) := of_decide_eq_true y2_; obtain ⟨i074, hi074, _, hsz74, _⟩ := info_parts info5; have hroom74 : l0.length ≤ c0 := (Kd.V_reads' HO0.out).2.1; have hC74 : Kd.F (Kd.int .u8) _ _ (some ad353) l0.length l0 := (Kd.V_at (base := w.heap.size) HO0.out).2.2; have hcut74 := cut_from (P := Tryd.prog) 22 5 .i64 Tryd.underlying22 hi074 1 hsz74 (some ad353) l0.length c0 1 (by omega) q74; have hr74 := Kd.F_cut (m := (1 : Int).toNat) (c := c0) hC74 (by omega) hroom74; obtain ⟨A74, hA74⟩ : ∃ A1, A1 = (if c0 = (1 : Int).toNat then (some ad353) else ((some ad353) : Option Addr).map (·.add ((1 : Int).toNat * 1))) := ⟨_, rfl⟩; obtain ⟨c74, hc74⟩ : ∃ c1, c1 = c0 - (1 : Int).toNat := ⟨_, rfl⟩; have hy74 : y369.length = l0.length - (1 : Int).toNat := (by rw [Ny369.out, List.length_drop] <;> omega); rw [show (l0).drop (1 : Int).toNat = y369 from Ny369.out.symm] at hr74; replace hr74 : Kd.F (Kd.int .u8) _ _ A74 y369.length y369 := (by rw [hA74]; exact hr74); rw [← hy74, ← hA74, ← hc74] at hcut74; have HO373 := Aside0.mk (show Kd.V (Kd.int .u8) 5 _ w.heap.size _ (.slice A74 y369.length c74) y369 from Kd.V_mk (by rw [hy74, hc74]; exact Nat.sub_le_sub_right hroom74 _) hr74); have HC373 := Aside0.mk (show y369.length ≤ c74 from by rw [hy74, hc74]; exact Nat.sub_le_sub_right hroom74 _); clear hr74 hC74 hroom74 hi074 hsz74 hc74; have KY74 := Aside0.mk hy74; have KA74 := Aside0.mk hA74; clear hy74 hA74; replace q74 := eq_true q74) | ((with_reducible refine gate_callee (f := 24) rfl ?_); refine goesL_ (some 33) rfl rfl Tryd.func24 (by kernel_rfl) rfl #[.slice A74 y369.length c74] rfl y3_ ?_; (with_reducible refine (manometerref01_Uvarint.calls k _ _ y369 t374 t375 t376 _ ?side1 ?side2 A17.out).mono ?_); (case side1 => repeat (first | exact (Kd.V_reads' HO373.out).2.2 | (with_reducible refine Kd.C_alloc ?_ _) | (with_reducible refine Kd.C_drewN ?_ _) | (with_reducible refine Kd.C_drew ?_))); (case side2 => exact (Kd.V_reads' HO373.out).2.1); rintro e w' ⟨rfl, ⟨nd, rfl⟩⟩; refine ⟨_, rfl, ?_⟩; (try (rw [drewN_self w73]; generalize hq_ : World.drewN w73 _ = w73; have n0_ : Aside0 (Kd.V (Kd.int .u8) 5 w73 w.heap.size (fun k_ => (P0_ k_ ∨ w.heap.size ≤ k_) ∧ k_ ≠ gb352) (.slice (some ad353) l0.length c0) l0) := ⟨by rw [← hq_]; exact y32_⟩; have n1_ : Aside0 (Kd.V (Kd.int .u8) 5 w73 w.heap.size (fun k_ => (P0_ k_ ∨ w.heap.size ≤ k_) ∧ k_ ≠ gb352) (.slice A74 y369.length c74) y369) := ⟨by rw [← hq_]; exact y67_⟩; have n2_ : Aside0 (w73.heap[gb352]? = some (.cells #[.int .i64 0, .int .u32 0, .slice none 0 0, .slice none 0 0] 29 (0, 0))) := ⟨by rw [← hq_]; exact y33_⟩; have n3_ : Aside0 (Below w.heap.size w w73) := ⟨by rw [← hq_]; exact y19_⟩; clear HO0 HO373 BK352 HB hq_; have HO0 := n0_; have HO373 := n1_; have BK352 := n2_; have HB := n3_; clear n0_ n1_ n2_ n3_)); have hcz75_0 : w73.cell? ⟨gb352, 0, none⟩ = some (.int .i64 0) := (blk_cell BK352.out 0).trans rfl; have hcz75_1 : w73.cell? ⟨gb352, 1, none⟩ = some (.int .u32 0) := (blk_cell BK352.out 1).trans rfl; have hcz75_2 : w73.cell? ⟨gb352, 2, none⟩ = some (.slice none 0 0) := (blk_cell BK352.out 2).trans rfl; have hcz75_3 : w73.cell? ⟨gb352, 3, none⟩ = some (.slice none 0 0) := (blk_cell BK352.out 3).trans rfl; have hfz75_0 := blk_frozen BK352.out 0; have hfz75_1 := blk_frozen BK352.out 1; have hfz75_2 := blk_frozen BK352.out 2; have hfz75_3 := blk_frozen BK352.out 3))
       refine bodyPost_ret (results_ct rfl _ _ gb352 29 #[.int .i64 0, .int .u32 0, .slice none 0 0, .slice none 0 0] (0, 0) _ rfl y11_ Tryd.underlying29 rfl (by kernel_rfl)) rfl ?_
       exact ⟨_, _, y4_, y6_, y6_, y19_⟩
     ·rw [if_neg c16] at H
      exact absurd H (by simp)
    ·rw [if_neg c15] at H
     have c15b0 : ((rd l0 0) == 2) = false := beq_eq_false_iff_ne.mpr c15
     have c15b1 : ((rd l0 0) != 2) = true := bne_iff_ne.mpr c15
     simp only [Option.some.injEq, Prod.mk.injEq] at H
     obtain ⟨rfl, rfl, rfl, rfl, rfl⟩ := H
     go_enter Tryd.func10, Tryd.ntmps10
     go_wp2_with (first | ((with_reducible refine gate_dst (N := 2) rfl ?_); refine box_event ?hg (N := 2) ?hd (cs := #[.int .i64 0, .int .u32 0, .slice none 0 0, .slice none 0 0]) (t := 29) ?hr ?_; (case hd => rfl); (case hg => rfl); (case hr => first | (go_simp; done) | (go_simp; rfl)); intro gb352 hg w76 hbox hb; have n0_ := Aside0.mk (Kd.V_below (Kd.V_elderB y32_ gb352 (Nat.le_of_eq hg.symm)) hb); have n1_ := Aside0.mk (below_step y1_ hb); have n2_ := Aside0.mk (hbox); have n3_ := Aside0.mk ((y12_ : w.heap.size ≤ gb352)); have n4_ := Aside0.mk ((y12_ : w.heap.size ≤ gb352)); clear HO0; clear HB; have HO0 := n0_; have HB := n1_; have BK352 := n2_; have GW352 := n3_; have GE352 := n4_; clear n0_ n1_ n2_ n3_ n4_; clear hb hbox hg; have p353 : 0 ≤ (0 : Int) := (by omega); have q353 : 0 < (l0.length : Int) := of_decide_eq_true y2_; obtain ⟨ad353, e353, hx353_0⟩ := Kd.at_int (Kd.V_reads' HO0.out).2.2 0 p353 q353; cases e353; have qi353 : (0 < l0.length) = True := eq_true (by omega); (try rw [show ((0 : Int)).toNat = 0 from rfl] at hx353_0); (try rw [Addr.add_zero'] at hx353_0); replace p353 := eq_true p353; replace q353 := eq_true q353; have p368 : 0 ≤ (0 : Int) := (by omega); have q368 : 0 < (l0.length : Int) := of_decide_eq_true y2_; obtain ⟨ad368, e368, hx368_0⟩ := Kd.at_int (Kd.V_reads' HO0.out).2.2 0 p368 q368; obtain rfl : ad353 = ad368 := (by injection e368); have qi368 : (0 < l0.length) = True := eq_true (by omega); (try rw [show ((0 : Int)).toNat = 0 from rfl] at hx368_0); (try rw [Addr.add_zero'] at hx368_0); replace p368 := eq_true p368; replace q368 := eq_true q368; have hcz77_0 : w76.cell? ⟨gb352, 0, none⟩ = some (.int .i64 0) := (blk_cell BK352.out 0).trans rfl; have hcz77_1 : w76.cell? ⟨gb352, 1, none⟩ = some (.int .u32 0) := (blk_cell BK352.out 1).trans rfl; have hcz77_2 : w76.cell? ⟨gb352, 2, none⟩ = some (.slice none 0 0) := (blk_cell BK352.out 2).trans rfl; have hcz77_3 : w76.cell? ⟨gb352, 3, none⟩ = some (.slice none 0 0) := (blk_cell BK352.out 3).trans rfl; have hfz77_0 := blk_frozen BK352.out 0; have hfz77_1 := blk_frozen BK352.out 1; have hfz77_2 := blk_frozen BK352.out 2; have hfz77_3 := blk_frozen BK352.out 3))
     refine bodyPost_ret (results_ct rfl _ _ gb352 29 #[.int .i64 0, .int .u32 0, .slice none 0 0, .slice none 0 0] (0, 0) _ rfl y11_ Tryd.underlying29 rfl (by kernel_rfl)) rfl ?_
     exact ⟨_, _, y4_, y6_, y6_, y19_⟩
  ·rw [if_neg c5] at H
   exact absurd H (by simp)
def manometerref05_Same.l0 : Nat → List (S52) → List (S52) → Int → Int → Option (Bool)
 | 0, _, _, _, _ => none
 | k + 1, x0, x1, x12, x13 => if x13 < x12 then (if 0 ≤ x13 then (if x13 < (x0.length : Int) then (if x13 < (x1.length : Int) then (if (!((((rd_T52 x0 x13).f0).toList) == (((rd_T52 x1 x13).f0).toList)) || (!((((rd_T52 x0 x13).f1).toList) == (((rd_T52 x1 x13).f1).toList)))) = true then (some false) else (manometerref05_Same.l0 k x0 x1 x12 (wrap64 (x13 + 1)))) else (none)) else (none)) else (none)) else (some true)
def manometerref05_Same.f (k : Nat) (l0 : List (S52)) (l1 : List (S52)) : Option (Bool) := if (l0.length : Int) = (l1.length : Int) then (manometerref05_Same.l0 k l0 l1 (l0.length : Int) 0) else (some false)
set_option maxHeartbeats 8000000 in
set_option maxRecDepth 100000 in
theorem manometerref05_Same.calls (k : Nat) (A0 : Option Addr) (c0 : Nat) (l0 : List (S52)) (A1 : Option Addr) (c1 : Nat) (l1 : List (S52)) (r : Bool) (w : World) (hr0 : Kd.C k52 w A0 l0.length l0) (hc0 : l0.length ≤ c0) (hr1 : Kd.C k52 w A1 l1.length l1) (hc1 : l1.length ≤ c1) (h : manometerref05_Same.f k l0 l1 = some r) :
  Calls Tryd.prog 26 #[.slice A0 l0.length c0, .slice A1 l1.length c1] w fun e w' => e = .returned (.bool r) ∧ Drawn0 w w' := by
 have hu52 := Tryd.underlying52
 have HR0 := Aside0.mk hr0
 have HC0 := Aside0.mk hc0
 clear hr0 hc0
 have HR1 := Aside0.mk hr1
 have HC1 := Aside0.mk hc1
 clear hr1 hc1
 have H : (if (l0.length : Int) = (l1.length : Int) then (manometerref05_Same.l0 k l0 l1 (l0.length : Int) 0) else (some false)) = some r := h
 clear h
 by_cases c3 : (l0.length : Int) = (l1.length : Int)
 ·rw [if_pos c3] at H
  have c3b0 : ((l0.length : Int) == (l1.length : Int)) = true := beq_iff_eq.mpr c3
  have c3b1 : ((l0.length : Int) != (l1.length : Int)) = false := bne_eq_false_iff_eq.mpr c3
  have c3b2 : (l0.length == l1.length) = true := by first | simpa using c3 | (simp at c3 ⊢; omega)
  clear c3
  have H' := Aside0.mk H
  clear H
  go_enter Tryd.func26, Tryd.ntmps26
  go_wp2
  repeat (go_quiet (fail); try go_wp2)
  go_loopg [13] k (fun kq v13 w' => ∃ (x13_1 : Int), v13 = .int .i64 x13_1 ∧ Aside0 (manometerref05_Same.l0 kq l0 l1 (l0.length : Int) x13_1 = some r) ∧ Aside0 (kq ≤ k) ∧ Drawn0 w w')
  case atStart => exact ⟨(0), y7_, H', ⟨Nat.le_refl _⟩, y8_⟩
  case round =>
   clear H'
   try clear c1
   try clear c2
   try clear p2
   try clear c3
   try clear c3b0
   try clear c3b1
   try clear c3b2
   obtain ⟨x13_1, rfl, HA, HK1, ⟨m1, rfl⟩⟩ := hrel
   cases gk with
   | zero => exact absurd HA.out (by simp [manometerref05_Same.l0])
   | succ k1 =>
    have H := HA.out
    clear HA
    simp only [manometerref05_Same.l0] at H
    by_cases c4 : x13_1 < (l0.length : Int)
    ·rw [if_pos c4] at H
     have c4b0 : decide (x13_1 < (l0.length : Int)) = true := decide_eq_true c4
     clear c4
     by_cases c5 : 0 ≤ x13_1
     ·rw [if_pos c5] at H
      have c5b0 : decide (0 ≤ x13_1) = true := decide_eq_true c5
      clear c5
      by_cases c6 : x13_1 < (l0.length : Int)
      ·rw [if_pos c6] at H
       have c6b0 : decide (x13_1 < (l0.length : Int)) = true := decide_eq_true c6
       clear c6
       by_cases c7 : x13_1 < (l1.length : Int)
       ·rw [if_pos c7] at H
        have c7b0 : decide (x13_1 < (l1.length : Int)) = true := decide_eq_true c7
        clear c7
        by_cases c8 : (!((((rd_T52 l0 x13_1).f0).toList) == (((rd_T52 l1 x13_1).f0).toList)) || (!((((rd_T52 l0 x13_1).f1).toList) == (((rd_T52 l1 x13_1).f1).toList)))) = true
        ·rw [if_pos c8] at H
         have c8b0 : (!((((rd_T52 l0 x13_1).f0).toList) == (((rd_T52 l1 x13_1).f0).toList)) || (!((((rd_T52 l0 x13_1).f1).toList) == (((rd_T52 l1 x13_1).f1).toList)))) = true := c8
         clear c8
         obtain rfl := Option.some.inj H
         have p395 : 0 ≤ (x13_1 : Int) := of_decide_eq_true y2_
         have q395 : x13_1 < (l0.length : Int) := of_decide_eq_true y2_
         obtain ⟨ad395, e395, hx395_0, hx395_1⟩ := at_T52 HR0.out x13_1 p395 q395
         cases e395
         replace p395 := eq_true p395
         replace q395 := eq_true q395
         have p396 : 0 ≤ (x13_1 : Int) := of_decide_eq_true y2_
         have q396 : x13_1 < (l1.length : Int) := of_decide_eq_true y2_
         obtain ⟨ad396, e396, hx396_0, hx396_1⟩ := at_T52 HR1.out x13_1 p396 q396
         cases e396
         replace p396 := eq_true p396
         replace q396 := eq_true q396
         go_wp2
         repeat (go_quiet (fail); try go_wp2)
         go_ret
         exact ⟨y17_, y8_⟩
        ·rw [if_neg c8] at H
         have c8b0 : (!((((rd_T52 l0 x13_1).f0).toList) == (((rd_T52 l1 x13_1).f0).toList)) || (!((((rd_T52 l0 x13_1).f1).toList) == (((rd_T52 l1 x13_1).f1).toList)))) = false := by simpa using c8
         clear c8
         have H' := Aside0.mk H
         clear H
         have p395 : 0 ≤ (x13_1 : Int) := of_decide_eq_true y2_
         have q395 : x13_1 < (l0.length : Int) := of_decide_eq_true y2_
         obtain ⟨ad395, e395, hx395_0, hx395_1⟩ := at_T52 HR0.out x13_1 p395 q395
         cases e395
         replace p395 := eq_true p395
         replace q395 := eq_true q395
         have p396 : 0 ≤ (x13_1 : Int) := of_decide_eq_true y2_
         have q396 : x13_1 < (l1.length : Int) := of_decide_eq_true y2_
         obtain ⟨ad396, e396, hx396_0, hx396_1⟩ := at_T52 HR1.out x13_1 p396 q396
         cases e396
         replace p396 := eq_true p396
         replace q396 := eq_true q396
         go_wp2
         repeat (go_quiet (fail); try go_wp2)
         go_roundg k1
         case measure => have := HK1.out; omega
         case rel => exact ⟨(wrap64 (x13_1 + 1)), y7_, H', ⟨y109_⟩, y8_⟩
       ·rw [if_neg c7] at H
        exact absurd H (by simp)
      ·rw [if_neg c6] at H
       exact absurd H (by simp)
     ·rw [if_neg c5] at H
      exact absurd H (by simp)
    ·rw [if_neg c4] at H
     have c4b0 : decide (x13_1 < (l0.length : Int)) = false := decide_eq_false c4
     clear c4
     obtain rfl := Option.some.inj H
     go_wp2
     repeat (go_quiet (fail); try go_wp2)
     go_ret
     exact ⟨y17_, y8_⟩
 ·rw [if_neg c3] at H
  have c3b0 : ((l0.length : Int) == (l1.length : Int)) = false := beq_eq_false_iff_ne.mpr c3
  have c3b1 : ((l0.length : Int) != (l1.length : Int)) = true := bne_iff_ne.mpr c3
  have c3b2 : (l0.length == l1.length) = false := by first | simpa using c3 | (simp at c3 ⊢; omega)
  obtain rfl := Option.some.inj H
  go_enter Tryd.func26, Tryd.ntmps26
  go_wp2
  repeat (go_quiet (fail); try go_wp2)
  go_ret
  exact ⟨y17_, y8_⟩
end Go.Proofs.YtdckhaejhfkkbaaDoor.PRT
