import Derived.Test.YtkkomfomjpcbfaaDoorCTokenMintedPLAx0
import Derived.Test.YtkkomfomjpcbfaaDoorCTokenMintedPTSx1
import Derived.Test.YtkkomfomjpcbfaaDoorCTokenMintedPTSx2
import Derived.Test.YtkkomfomjpcbfaaDoorCTokenMintedPTSx5
import Derived.Test.YtkkomfomjpcbfaaDoorCTokenMintedPTSx6
import Derived.Test.YtkkomfomjpcbfaaDoorCTokenMintedPTSx7
import Derived.Test.YtkkomfomjpcbfaaDoorCTokenMintedPTSx8
import Derived.Test.YtkkomfomjpcbfaaDoorCTokenMintedPTSx16
import Derived.Laws.RangeAny
import Derived.Lib.OthersKept
import Derived.Test.YtkkomfomjpcbfaaDoorCTokenMintedG1
import Derived.Test.YtkkomfomjpcbfaaDoorCTokenMintedTT
import Derived.Test.YtkkomfomjpcbfaaDoorCTokenMintedY
namespace Go.Proofs.YtkkomfomjpcbfaaDoor.PTS
open Go.RowKit Go.Proofs.YtkkomfomjpcbfaaDoorW.PrintWords Go.Proofs.YtkkomfomjpcbfaaDoorW.PrintLast Go.Proofs.YtkkomfomjpcbfaaDoorW.PrintMore
attribute [local go_sem] max2_int min2_int max_two min_two max_three min_three max_four min_four
set_option linter.unusedVariables false
set_option linter.unusedSimpArgs false
attribute [local go_sem high] eqA26
mutual
def manometerlaw17_TokenMinted.j0 : Nat → List (S43) → Int → Int → Bool → Int → ByteArray → ByteArray → Int → Int → Int → Int → Option (Bool)
 | 0, _, _, _, _, _, _, _, _, _, _, _ => none
 | k + 1, x2, x3, x4, x38, x439000, x439001, x440000, x440001, x440002, x440003, x440004 => if x38 = true then ((manometerlaw17_live.f k).bind fun t442 => (some t442)) else ((token_Mint.f k x439000 x439001 x440000 x440001 x440002 x440003 x440004).bind fun bt443 => (if bt443.2 = 0 then ((some (([(⟨x440000, (⟨x439000, x439001⟩ : S23)⟩ : S43)] : List (S43)) : List (S43))).bind fun y447 => (if y447.length + x2.length < 3518437208883 then (manometerlaw17_TokenMinted.l0 k x3 x4 bt443.1 (y447 ++ x2) x2 (x2.length : Int) 0 x439000 x439001 x440000 x440001 x440002 x440003 x440004) else (none))) else (if bt443.1.toList = ([] : List UInt8) then ((token_Check.f k x440000 x440001 x440002 x440003 x440004).bind fun t445 => (if t445 = 0 then ((token_Keyed.f x439000 x439001).bind fun t446 => (if t446 = true then (some (x439000 != x440001)) else (some true))) else (some true))) else (some false))))
def manometerlaw17_TokenMinted.l0 : Nat → Int → Int → ByteArray → List (S43) → List (S43) → Int → Int → Int → ByteArray → ByteArray → Int → Int → Int → Int → Option (Bool)
 | 0, _, _, _, _, _, _, _, _, _, _, _, _, _, _ => none
 | k + 1, x3, x4, x11, x13, x74, x75, x76, x439000, x439001, x440000, x440001, x440002, x440003, x440004 => if x76 < x75 then (if 0 ≤ x76 then (if x76 < (x74.length : Int) then (if ((rd_T43 x74 x76).f0).toList = x440000.toList then (if ((rd_T43 x74 x76).f1.f0) = x439000 then (manometerlaw17_TokenMinted.l0 k x3 x4 x11 x13 x74 x75 (wrap64 (x76 + 1)) x439000 x439001 x440000 x440001 x440002 x440003 x440004) else ((some (([(⟨(rd_T43 x74 x76).f0, (⟨(rd_T43 x74 x76).f1.f0, (rd_T43 x74 x76).f1.f1⟩ : S23)⟩ : S43)] : List (S43)) : List (S43))).bind fun y455 => (if y455.length + x13.length < 3518437208883 then (manometerlaw17_TokenMinted.l0 k x3 x4 x11 (y455 ++ x13) x74 x75 (wrap64 (x76 + 1)) x439000 x439001 x440000 x440001 x440002 x440003 x440004) else (none)))) else ((some (([(⟨(rd_T43 x74 x76).f0, (⟨(rd_T43 x74 x76).f1.f0, (rd_T43 x74 x76).f1.f1⟩ : S23)⟩ : S43)] : List (S43)) : List (S43))).bind fun y461 => (if y461.length + x13.length < 3518437208883 then (manometerlaw17_TokenMinted.l0 k x3 x4 x11 (y461 ++ x13) x74 x75 (wrap64 (x76 + 1)) x439000 x439001 x440000 x440001 x440002 x440003 x440004) else (none)))) else (none)) else (none)) else ((token_Verify.f k x11 x13 x3 x4).bind fun bt467 => ((token_Read.f k x11).bind fun bt474 => (if bt474.2.2.2.2.2 = 0 then (if (!(bt474.1.toList == x440000.toList) || (!(bt474.2.1 == x440001) || (!(bt474.2.2.1 == x440002) || (!(bt474.2.2.2.1 == x440003) || (!(bt474.2.2.2.2.1 == x440004)))))) = true then (manometerlaw17_TokenMinted.j2 k x3 x4 bt467.2.2.2.2.2 true x440000 x440001 x440002 x440003 x440004 bt467.1 bt467.2.1 bt467.2.2.1 bt467.2.2.2.1 bt467.2.2.2.2.1) else ((token_Signed.f k x11 x439000 x439001).bind fun t481 => (manometerlaw17_TokenMinted.j2 k x3 x4 bt467.2.2.2.2.2 (!t481) x440000 x440001 x440002 x440003 x440004 bt467.1 bt467.2.1 bt467.2.2.1 bt467.2.2.2.1 bt467.2.2.2.2.1))) else (manometerlaw17_TokenMinted.j2 k x3 x4 bt467.2.2.2.2.2 true x440000 x440001 x440002 x440003 x440004 bt467.1 bt467.2.1 bt467.2.2.1 bt467.2.2.2.1 bt467.2.2.2.2.1))))
def manometerlaw17_TokenMinted.j2 : Nat → Int → Int → Int → Bool → ByteArray → Int → Int → Int → Int → ByteArray → Int → Int → Int → Int → Option (Bool)
 | 0, _, _, _, _, _, _, _, _, _, _, _, _, _, _ => none
 | k + 1, x3, x4, x17, x111, x440000, x440001, x440002, x440003, x440004, x474000, x474001, x474002, x474003, x474004 => if x111 = true then (some false) else (if x3 ≥ x440002 then (if x17 = 171 then (some (x474000.toList == ([] : List UInt8) && (x474001 == 0 && (x474002 == 0 && (x474003 == 0 && (x474004 == 0)))))) else (some false)) else (if (Go.bits .and .u8 x440003 (Go.bits .and .u8 x4 7)) = (Go.bits .and .u8 x4 7) then (if x17 = 0 then (some (x474000.toList == x440000.toList && (x474001 == x440001 && (x474002 == x440002 && (x474003 == x440003 && (x474004 == x440004)))))) else (some false)) else (if x17 = 172 then (some (x474000.toList == ([] : List UInt8) && (x474001 == 0 && (x474002 == 0 && (x474003 == 0 && (x474004 == 0)))))) else (some false))))
end
def manometerlaw17_TokenMinted.f (k : Nat) (a0_0 : Int) (a0_1 : ByteArray) (a1_0 : ByteArray) (a1_1 : Int) (a1_2 : Int) (a1_3 : Int) (a1_4 : Int) (l2 : List (S43)) (a3 : Int) (a4 : Int) : Option (Bool) := (manometerlaw17_live.f k).bind fun t440 => (if t440 = true then (if (a0_1.size : Int) > 300 then (manometerlaw17_TokenMinted.j0 k l2 a3 a4 true a0_0 a0_1 a1_0 a1_1 a1_2 a1_3 a1_4) else (if (a1_0.size : Int) > 300 then (manometerlaw17_TokenMinted.j0 k l2 a3 a4 true a0_0 a0_1 a1_0 a1_1 a1_2 a1_3 a1_4) else ((manometerlaw17_few.f k l2).bind fun t441 => (manometerlaw17_TokenMinted.j0 k l2 a3 a4 (!t441) a0_0 a0_1 a1_0 a1_1 a1_2 a1_3 a1_4)))) else (manometerlaw17_TokenMinted.j0 k l2 a3 a4 true a0_0 a0_1 a1_0 a1_1 a1_2 a1_3 a1_4))
set_option maxHeartbeats 8000000 in
set_option maxRecDepth 100000 in
theorem manometerlaw17_TokenMinted.calls (k : Nat) (a0_0 : Int) (a0_1 : ByteArray) (a1_0 : ByteArray) (a1_1 : Int) (a1_2 : Int) (a1_3 : Int) (a1_4 : Int) (A2 : Option Addr) (c2 : Nat) (l2 : List (S43)) (a3 : Int) (a4 : Int) (r : Bool) (w : World) (hT : Aside0 (Tab w)) (hr2 : Kd.C k43 w A2 l2.length l2) (hc2 : l2.length ≤ c2) (h : manometerlaw17_TokenMinted.f k a0_0 a0_1 a1_0 a1_1 a1_2 a1_3 a1_4 l2 a3 a4 = some r) :
  Calls Tryd.prog 6 #[.agg #[.int .i64 a0_0, .string a0_1], .agg #[.string a1_0, .int .i64 a1_1, .int .i64 a1_2, .int .u8 a1_3, .int .u64 a1_4], .slice A2 l2.length c2, .int .i64 a3, .int .u8 a4] w fun e w' => e = .returned (.bool r) ∧ Below w.heap.size w w' := by
 have hu23 := Tryd.underlying23
 have hu26 := Tryd.underlying26
 have hu43 := Tryd.underlying43
 have HR2 := Aside0.mk hr2
 have HC2 := Aside0.mk hc2
 clear hr2 hc2
 have HB := Aside0.mk (Below.refl w.heap.size w)
 have H : ((manometerlaw17_live.f k).bind fun t440 => (if t440 = true then (if (a0_1.size : Int) > 300 then (manometerlaw17_TokenMinted.j0 k l2 a3 a4 true a0_0 a0_1 a1_0 a1_1 a1_2 a1_3 a1_4) else (if (a1_0.size : Int) > 300 then (manometerlaw17_TokenMinted.j0 k l2 a3 a4 true a0_0 a0_1 a1_0 a1_1 a1_2 a1_3 a1_4) else ((manometerlaw17_few.f k l2).bind fun t441 => (manometerlaw17_TokenMinted.j0 k l2 a3 a4 (!t441) a0_0 a0_1 a1_0 a1_1 a1_2 a1_3 a1_4)))) else (manometerlaw17_TokenMinted.j0 k l2 a3 a4 true a0_0 a0_1 a1_0 a1_1 a1_2 a1_3 a1_4))) = some r := h
 clear h
 have HC6 := Aside0.mk H
 clear H
 go_enter Tryd.func6, Tryd.ntmps6
 go_upto_region 1 with (first | ((with_reducible refine gate_dst (N := 5) rfl ?_); (try (refine gate_guard (by rfl) ?_; dsimp only)); refine box_event ?hg (N := 5) ?hd (cs := #[.int .i64 a0_0, .string a0_1]) (t := 23) ?hr ?_; (case hd => rfl); (case hg => rfl); (case hr => first | (go_simp; done) | (go_simp; rfl)); intro gb438 hg w7 hbox hb; have n0_ := Aside0.mk (below_step y2_ hb); have n1_ := Aside0.mk (hbox); have n2_ := Aside0.mk ((y45_ : w.heap.size ≤ gb438)); have n3_ := Aside0.mk ((y45_ : w.heap.size ≤ gb438)); clear HB; have HB := n0_; have BK438 := n1_; have GW438 := n2_; have GE438 := n3_; clear n0_ n1_ n2_ n3_; clear hb hbox hg) | ((with_reducible refine gate_dst (N := 6) rfl ?_); (try (refine gate_guard (by rfl) ?_; dsimp only)); refine box_event ?hg (N := 6) ?hd (cs := #[.string a1_0, .int .i64 a1_1, .int .i64 a1_2, .int .u8 a1_3, .int .u64 a1_4]) (t := 26) ?hr ?_; (case hd => rfl); (case hg => rfl); (case hr => first | (go_simp; done) | (go_simp; rfl)); intro gb439 hg w8 hbox hb; have n0_ := Aside0.mk (blk_below (g := gb438) (o := .cells #[.int .i64 a0_0, .string a0_1] 23 (0, 0)) y3_ hb); have n1_ := Aside0.mk (below_step y75_ hb); have n2_ := Aside0.mk (hbox); have n3_ := Aside0.mk ((by rw [hg]; exact (below_size y75_) : w.heap.size ≤ gb439)); have n4_ := Aside0.mk ((by rw [hg]; exact (below_size y75_) : w.heap.size ≤ gb439)); have n5_ := Aside0.mk ((y56_ : gb438 ≠ gb439)); have n6_ := Aside0.mk ((y57_ : gb439 ≠ gb438)); clear BK438; clear HB; have BK438 := n0_; have HB := n1_; have BK439 := n2_; have GW439 := n3_; have GE439 := n4_; have NB438_439 := n5_; have NB439_438 := n6_; clear n0_ n1_ n2_ n3_ n4_ n5_ n6_; clear hb hbox hg))
 (try simp only [Act.put, List.setIfInBounds_toArray, List.set_cons_zero, List.set_cons_succ])
 go_cut [38] (fun v38 wc => ∃ (kq : Nat) (x38_5 : Bool), v38 = .bool x38_5 ∧ Aside0 (manometerlaw17_TokenMinted.j0 kq l2 a3 a4 x38_5 a0_0 a0_1 a1_0 a1_1 a1_2 a1_3 a1_4 = some r) ∧ Aside0 (kq ≤ k) ∧ Aside0 (wc.heap[gb438]? = some (.cells #[.int .i64 a0_0, .string a0_1] 23 (0, 0))) ∧ Aside0 (wc.heap[gb439]? = some (.cells #[.string a1_0, .int .i64 a1_1, .int .i64 a1_2, .int .u8 a1_3, .int .u64 a1_4] 26 (0, 0))) ∧ Aside0 (Below w.heap.size w wc))
 case first =>
  have H := HC6.out
  clear HC6
  replace H := Option.bind_eq_some_iff.mp H
  obtain ⟨t440, A90, H⟩ := H
  replace H : (if t440 = true then (if (a0_1.size : Int) > 300 then (manometerlaw17_TokenMinted.j0 k l2 a3 a4 true a0_0 a0_1 a1_0 a1_1 a1_2 a1_3 a1_4) else (if (a1_0.size : Int) > 300 then (manometerlaw17_TokenMinted.j0 k l2 a3 a4 true a0_0 a0_1 a1_0 a1_1 a1_2 a1_3 a1_4) else ((manometerlaw17_few.f k l2).bind fun t441 => (manometerlaw17_TokenMinted.j0 k l2 a3 a4 (!t441) a0_0 a0_1 a1_0 a1_1 a1_2 a1_3 a1_4)))) else (manometerlaw17_TokenMinted.j0 k l2 a3 a4 true a0_0 a0_1 a1_0 a1_1 a1_2 a1_3 a1_4)) = some r := H
  have A9 := Aside0.mk A90
  clear A90
  by_cases c10 : t440 = true
  ·subst c10
   have H1 : (if (a0_1.size : Int) > 300 then (manometerlaw17_TokenMinted.j0 k l2 a3 a4 true a0_0 a0_1 a1_0 a1_1 a1_2 a1_3 a1_4) else (if (a1_0.size : Int) > 300 then (manometerlaw17_TokenMinted.j0 k l2 a3 a4 true a0_0 a0_1 a1_0 a1_1 a1_2 a1_3 a1_4) else ((manometerlaw17_few.f k l2).bind fun t441 => (manometerlaw17_TokenMinted.j0 k l2 a3 a4 (!t441) a0_0 a0_1 a1_0 a1_1 a1_2 a1_3 a1_4)))) = some r := by rw [if_pos rfl] at H; exact H
   clear H
   have H := H1
   clear H1
   by_cases c11 : (a0_1.size : Int) > 300
   ·rw [if_pos c11] at H
    have c11b0 : decide (300 < (a0_1.size : Int)) = true := decide_eq_true c11
    have c11b1 : decide (300 < a0_1.size) = true := decide_eq_true (by omega)
    clear c11
    (first | rw [c11b0] | (simp only [i64_w, i32_w]; rw [c11b0]) | skip)
    have H' := Aside0.mk H
    clear H
    go_wp2_with (first | ((with_reducible refine gate_callee (f := 9) rfl ?_); refine goesL_ (some 20) rfl rfl Tryd.func9 (by kernel_rfl) rfl #[] rfl y7_ ?_; (with_reducible refine (manometerlaw17_live.calls k  true _ ?side1 A9.out).mono ?_); (case side1 => exact ⟨Tab_below hT.out y1_⟩); rintro e w12 ⟨rfl, hb⟩; refine ⟨_, rfl, ?_⟩; have n0_ := Aside0.mk (blk_below (g := gb438) (o := .cells #[.int .i64 a0_0, .string a0_1] 23 (0, 0)) y3_ hb); have n1_ := Aside0.mk (blk_below (g := gb439) (o := .cells #[.string a1_0, .int .i64 a1_1, .int .i64 a1_2, .int .u8 a1_3, .int .u64 a1_4] 26 (0, 0)) y4_ hb); have n2_ := Aside0.mk (below_step y1_ hb); clear BK438; clear BK439; clear HB; have BK438 := n0_; have BK439 := n1_; have HB := n2_; clear n0_ n1_ n2_; (try clear hb); (try clear hb2); (try clear hk); (try clear hi); have hnb13 := NB438_439.out; have hnc13 := NB439_438.out; have hcz14_0 : w12.cell? ⟨gb438, 0, none⟩ = some (.int .i64 a0_0) := (blk_cell BK438.out 0).trans rfl; have hcz14_1 : w12.cell? ⟨gb438, 1, none⟩ = some (.string a0_1) := (blk_cell BK438.out 1).trans rfl; have hfz14_0 := blk_frozen BK438.out 0; have hfz14_1 := blk_frozen BK438.out 1))
    go_meet
    case rel => exact ⟨_, (true), y5_, H', ⟨y80_⟩, ⟨y3_⟩, ⟨y4_⟩, ⟨y1_⟩⟩
   ·rw [if_neg c11] at H
    have c11b0 : decide (300 < (a0_1.size : Int)) = false := decide_eq_false c11
    have c11b1 : decide (300 < a0_1.size) = false := decide_eq_false (by omega)
    clear c11
    (first | rw [c11b0] | (simp only [i64_w, i32_w]; rw [c11b0]) | skip)
    by_cases c15 : (a1_0.size : Int) > 300
    ·rw [if_pos c15] at H
     have c15b0 : decide (300 < (a1_0.size : Int)) = true := decide_eq_true c15
     have c15b1 : decide (300 < a1_0.size) = true := decide_eq_true (by omega)
     clear c15
     have H' := Aside0.mk H
     clear H
     go_wp2_with (first | ((with_reducible refine gate_callee (f := 9) rfl ?_); refine goesL_ (some 20) rfl rfl Tryd.func9 (by kernel_rfl) rfl #[] rfl y7_ ?_; (with_reducible refine (manometerlaw17_live.calls k  true _ ?side1 A9.out).mono ?_); (case side1 => exact ⟨Tab_below hT.out y1_⟩); rintro e w16 ⟨rfl, hb⟩; refine ⟨_, rfl, ?_⟩; have n0_ := Aside0.mk (blk_below (g := gb438) (o := .cells #[.int .i64 a0_0, .string a0_1] 23 (0, 0)) y3_ hb); have n1_ := Aside0.mk (blk_below (g := gb439) (o := .cells #[.string a1_0, .int .i64 a1_1, .int .i64 a1_2, .int .u8 a1_3, .int .u64 a1_4] 26 (0, 0)) y4_ hb); have n2_ := Aside0.mk (below_step y1_ hb); clear BK438; clear BK439; clear HB; have BK438 := n0_; have BK439 := n1_; have HB := n2_; clear n0_ n1_ n2_; (try clear hb); (try clear hb2); (try clear hk); (try clear hi); have hnb17 := NB438_439.out; have hnc17 := NB439_438.out; have hcz18_0 : w16.cell? ⟨gb438, 0, none⟩ = some (.int .i64 a0_0) := (blk_cell BK438.out 0).trans rfl; have hcz18_1 : w16.cell? ⟨gb438, 1, none⟩ = some (.string a0_1) := (blk_cell BK438.out 1).trans rfl; have hfz18_0 := blk_frozen BK438.out 0; have hfz18_1 := blk_frozen BK438.out 1; have hcz19_0 : w16.cell? ⟨gb439, 0, none⟩ = some (.string a1_0) := (blk_cell BK439.out 0).trans rfl; have hcz19_1 : w16.cell? ⟨gb439, 1, none⟩ = some (.int .i64 a1_1) := (blk_cell BK439.out 1).trans rfl; have hcz19_2 : w16.cell? ⟨gb439, 2, none⟩ = some (.int .i64 a1_2) := (blk_cell BK439.out 2).trans rfl; have hcz19_3 : w16.cell? ⟨gb439, 3, none⟩ = some (.int .u8 a1_3) := (blk_cell BK439.out 3).trans rfl; have hcz19_4 : w16.cell? ⟨gb439, 4, none⟩ = some (.int .u64 a1_4) := (blk_cell BK439.out 4).trans rfl; have hfz19_0 := blk_frozen BK439.out 0; have hfz19_1 := blk_frozen BK439.out 1; have hfz19_2 := blk_frozen BK439.out 2; have hfz19_3 := blk_frozen BK439.out 3; have hfz19_4 := blk_frozen BK439.out 4))
     go_meet
     case rel => exact ⟨_, (true), y5_, H', ⟨y80_⟩, ⟨y3_⟩, ⟨y4_⟩, ⟨y1_⟩⟩
    ·rw [if_neg c15] at H
     have c15b0 : decide (300 < (a1_0.size : Int)) = false := decide_eq_false c15
     have c15b1 : decide (300 < a1_0.size) = false := decide_eq_false (by omega)
     clear c15
     replace H := Option.bind_eq_some_iff.mp H
     obtain ⟨t441, A200, H⟩ := H
     replace H : (manometerlaw17_TokenMinted.j0 k l2 a3 a4 (!t441) a0_0 a0_1 a1_0 a1_1 a1_2 a1_3 a1_4) = some r := H
     have A20 := Aside0.mk A200
     clear A200
     have H' := Aside0.mk H
     clear H
     go_wp2_with (first | ((with_reducible refine gate_callee (f := 9) rfl ?_); refine goesL_ (some 20) rfl rfl Tryd.func9 (by kernel_rfl) rfl #[] rfl y7_ ?_; (with_reducible refine (manometerlaw17_live.calls k  true _ ?side1 A9.out).mono ?_); (case side1 => exact ⟨Tab_below hT.out y1_⟩); rintro e w21 ⟨rfl, hb⟩; refine ⟨_, rfl, ?_⟩; have n0_ := Aside0.mk (blk_below (g := gb438) (o := .cells #[.int .i64 a0_0, .string a0_1] 23 (0, 0)) y3_ hb); have n1_ := Aside0.mk (blk_below (g := gb439) (o := .cells #[.string a1_0, .int .i64 a1_1, .int .i64 a1_2, .int .u8 a1_3, .int .u64 a1_4] 26 (0, 0)) y4_ hb); have n2_ := Aside0.mk (below_step y1_ hb); clear BK438; clear BK439; clear HB; have BK438 := n0_; have BK439 := n1_; have HB := n2_; clear n0_ n1_ n2_; (try clear hb); (try clear hb2); (try clear hk); (try clear hi); have hnb22 := NB438_439.out; have hnc22 := NB439_438.out; have hcz23_0 : w21.cell? ⟨gb438, 0, none⟩ = some (.int .i64 a0_0) := (blk_cell BK438.out 0).trans rfl; have hcz23_1 : w21.cell? ⟨gb438, 1, none⟩ = some (.string a0_1) := (blk_cell BK438.out 1).trans rfl; have hfz23_0 := blk_frozen BK438.out 0; have hfz23_1 := blk_frozen BK438.out 1; have hcz24_0 : w21.cell? ⟨gb439, 0, none⟩ = some (.string a1_0) := (blk_cell BK439.out 0).trans rfl; have hcz24_1 : w21.cell? ⟨gb439, 1, none⟩ = some (.int .i64 a1_1) := (blk_cell BK439.out 1).trans rfl; have hcz24_2 : w21.cell? ⟨gb439, 2, none⟩ = some (.int .i64 a1_2) := (blk_cell BK439.out 2).trans rfl; have hcz24_3 : w21.cell? ⟨gb439, 3, none⟩ = some (.int .u8 a1_3) := (blk_cell BK439.out 3).trans rfl; have hcz24_4 : w21.cell? ⟨gb439, 4, none⟩ = some (.int .u64 a1_4) := (blk_cell BK439.out 4).trans rfl; have hfz24_0 := blk_frozen BK439.out 0; have hfz24_1 := blk_frozen BK439.out 1; have hfz24_2 := blk_frozen BK439.out 2; have hfz24_3 := blk_frozen BK439.out 3; have hfz24_4 := blk_frozen BK439.out 4) | (go_at_call 22; (with_reducible refine (manometerlaw17_few.calls k _ _ l2 t441 _ ?side1 ?side2 A20.out).mono ?_); (case side1 => repeat (first | exact (Kd.C_below HR2.out HB.out) | (with_reducible refine Kd.C_alloc ?_ _) | (with_reducible refine Kd.C_drewN ?_ _) | (with_reducible refine Kd.C_drew ?_))); (case side2 => exact HC2.out); rintro e w25 ⟨rfl, hb⟩; have n0_ := Aside0.mk (blk_below (g := gb438) (o := .cells #[.int .i64 a0_0, .string a0_1] 23 (0, 0)) y3_ hb); have n1_ := Aside0.mk (blk_below (g := gb439) (o := .cells #[.string a1_0, .int .i64 a1_1, .int .i64 a1_2, .int .u8 a1_3, .int .u64 a1_4] 26 (0, 0)) y4_ hb); have n2_ := Aside0.mk (below_step y1_ hb); clear BK438; clear BK439; clear HB; have BK438 := n0_; have BK439 := n1_; have HB := n2_; clear n0_ n1_ n2_; (try clear hb); (try clear hb2); (try clear hk); (try clear hi)))
     go_meet
     case rel => exact ⟨_, (!t441), y5_, H', ⟨y80_⟩, ⟨y3_⟩, ⟨y4_⟩, ⟨y1_⟩⟩
  ·replace c10 := Bool.eq_false_iff.mpr c10
   subst c10
   have H1 : (manometerlaw17_TokenMinted.j0 k l2 a3 a4 true a0_0 a0_1 a1_0 a1_1 a1_2 a1_3 a1_4) = some r := by rw [if_neg (show ¬ (false = true) by decide)] at H; exact H
   clear H
   have H := H1
   clear H1
   have H' := Aside0.mk H
   clear H
   go_wp2_with (first | ((with_reducible refine gate_callee (f := 9) rfl ?_); refine goesL_ (some 20) rfl rfl Tryd.func9 (by kernel_rfl) rfl #[] rfl y7_ ?_; (with_reducible refine (manometerlaw17_live.calls k  false _ ?side1 A9.out).mono ?_); (case side1 => exact ⟨Tab_below hT.out y1_⟩); rintro e w26 ⟨rfl, hb⟩; refine ⟨_, rfl, ?_⟩; have n0_ := Aside0.mk (blk_below (g := gb438) (o := .cells #[.int .i64 a0_0, .string a0_1] 23 (0, 0)) y3_ hb); have n1_ := Aside0.mk (blk_below (g := gb439) (o := .cells #[.string a1_0, .int .i64 a1_1, .int .i64 a1_2, .int .u8 a1_3, .int .u64 a1_4] 26 (0, 0)) y4_ hb); have n2_ := Aside0.mk (below_step y1_ hb); clear BK438; clear BK439; clear HB; have BK438 := n0_; have BK439 := n1_; have HB := n2_; clear n0_ n1_ n2_; (try clear hb); (try clear hb2); (try clear hk); (try clear hi)))
   go_meet
   case rel => exact ⟨_, (true), y5_, H', ⟨y80_⟩, ⟨y3_⟩, ⟨y4_⟩, ⟨y1_⟩⟩
 case rest =>
  clear HC6
  try clear c1
  try clear c2
  try clear p2
  try clear c6
  try clear c9
  try clear c10
  try clear c11
  try clear c11b0
  try clear c11b1
  try clear c13
  try clear c15
  try clear c15b0
  try clear c15b1
  try clear c17
  try clear c22
  try clear hcz14_0
  try clear hcz14_1
  try clear hcz18_0
  try clear hcz18_1
  try clear hcz19_0
  try clear hcz19_1
  try clear hcz19_2
  try clear hcz19_3
  try clear hcz19_4
  try clear hcz23_0
  try clear hcz23_1
  try clear hcz24_0
  try clear hcz24_1
  try clear hcz24_2
  try clear hcz24_3
  try clear hcz24_4
  try clear hfz14_0
  try clear hfz14_1
  try clear hfz18_0
  try clear hfz18_1
  try clear hfz19_0
  try clear hfz19_1
  try clear hfz19_2
  try clear hfz19_3
  try clear hfz19_4
  try clear hfz23_0
  try clear hfz23_1
  try clear hfz24_0
  try clear hfz24_1
  try clear hfz24_2
  try clear hfz24_3
  try clear hfz24_4
  obtain ⟨kq, x38_5, rfl, HA, HJ5, BK438, BK439, HB⟩ := hcut
  cases kq with
  | zero => exact absurd HA.out (by simp [manometerlaw17_TokenMinted.j0])
  | succ kj5 =>
   have H := HA.out
   clear HA
   simp only [manometerlaw17_TokenMinted.j0] at H
   by_cases c27 : x38_5 = true
   ·subst c27
    have H1 : ((manometerlaw17_live.f kj5).bind fun t442 => (some t442)) = some r := by rw [if_pos rfl] at H; exact H
    clear H
    have H := H1
    clear H1
    replace H := Option.bind_eq_some_iff.mp H
    obtain ⟨t442, A280, H⟩ := H
    replace H : (some t442) = some r := H
    have A28 := Aside0.mk A280
    clear A280
    obtain rfl := Option.some.inj H
    go_wp2_with (first | ((with_reducible refine gate_callee (f := 9) rfl ?_); refine goesL_ (some 39) rfl rfl Tryd.func9 (by kernel_rfl) rfl #[] rfl y7_ ?_; (with_reducible refine (manometerlaw17_live.calls kj5  t442 _ ?side1 A28.out).mono ?_); (case side1 => exact ⟨Tab_below hT.out y1_⟩); rintro e w29 ⟨rfl, hb⟩; refine ⟨_, rfl, ?_⟩; have n0_ := Aside0.mk (blk_below (g := gb438) (o := .cells #[.int .i64 a0_0, .string a0_1] 23 (0, 0)) y3_ hb); have n1_ := Aside0.mk (blk_below (g := gb439) (o := .cells #[.string a1_0, .int .i64 a1_1, .int .i64 a1_2, .int .u8 a1_3, .int .u64 a1_4] 26 (0, 0)) y4_ hb); have n2_ := Aside0.mk (below_step y1_ hb); clear BK438; clear BK439; clear HB; have BK438 := n0_; have BK439 := n1_; have HB := n2_; clear n0_ n1_ n2_; (try clear hb); (try clear hb2); (try clear hk); (try clear hi)))
    go_ret
    exact ⟨y10_, y1_⟩
   ·replace c27 := Bool.eq_false_iff.mpr c27
    subst c27
    have H1 : ((token_Mint.f kj5 a0_0 a0_1 a1_0 a1_1 a1_2 a1_3 a1_4).bind fun bt443 => (if bt443.2 = 0 then ((some (([(⟨a1_0, (⟨a0_0, a0_1⟩ : S23)⟩ : S43)] : List (S43)) : List (S43))).bind fun y447 => (if y447.length + l2.length < 3518437208883 then (manometerlaw17_TokenMinted.l0 kj5 a3 a4 bt443.1 (y447 ++ l2) l2 (l2.length : Int) 0 a0_0 a0_1 a1_0 a1_1 a1_2 a1_3 a1_4) else (none))) else (if bt443.1.toList = ([] : List UInt8) then ((token_Check.f kj5 a1_0 a1_1 a1_2 a1_3 a1_4).bind fun t445 => (if t445 = 0 then ((token_Keyed.f a0_0 a0_1).bind fun t446 => (if t446 = true then (some (a0_0 != a1_1)) else (some true))) else (some true))) else (some false)))) = some r := by rw [if_neg (show ¬ (false = true) by decide)] at H; exact H
    clear H
    have H := H1
    clear H1
    replace H := Option.bind_eq_some_iff.mp H
    obtain ⟨⟨t443, t444⟩, A300, H⟩ := H
    replace H : (if t444 = 0 then ((some (([(⟨a1_0, (⟨a0_0, a0_1⟩ : S23)⟩ : S43)] : List (S43)) : List (S43))).bind fun y447 => (if y447.length + l2.length < 3518437208883 then (manometerlaw17_TokenMinted.l0 kj5 a3 a4 t443 (y447 ++ l2) l2 (l2.length : Int) 0 a0_0 a0_1 a1_0 a1_1 a1_2 a1_3 a1_4) else (none))) else (if t443.toList = ([] : List UInt8) then ((token_Check.f kj5 a1_0 a1_1 a1_2 a1_3 a1_4).bind fun t445 => (if t445 = 0 then ((token_Keyed.f a0_0 a0_1).bind fun t446 => (if t446 = true then (some (a0_0 != a1_1)) else (some true))) else (some true))) else (some false))) = some r := H
    have A30 := Aside0.mk A300
    clear A300
    by_cases c31 : t444 = 0
    ·rw [if_pos c31] at H
     have c31b0 : (t444 == 0) = true := beq_iff_eq.mpr c31
     have c31b1 : (t444 != 0) = false := bne_eq_false_iff_eq.mpr c31
     clear c31
     obtain ⟨y447, hy447⟩ : ∃ y_ : List (S43), y_ = (([(⟨a1_0, (⟨a0_0, a0_1⟩ : S23)⟩ : S43)] : List (S43))) := ⟨_, rfl⟩
     replace H : (if y447.length + l2.length < 3518437208883 then (manometerlaw17_TokenMinted.l0 kj5 a3 a4 t443 (y447 ++ l2) l2 (l2.length : Int) 0 a0_0 a0_1 a1_0 a1_1 a1_2 a1_3 a1_4) else (none)) = some r := by first | (rw [hy447]; with_reducible exact H) | (have H2_ := (Option.bind_some _ _).symm.trans H; rw [hy447]; with_reducible exact H2_) | (have H2_ := (Option.bind_some _ _).symm.trans H; with_reducible exact H2_) | with_reducible exact H | (rw [hy447]; exact H) | exact H
     have Ny447 := Aside0.mk hy447
     clear hy447
     by_cases c32 : y447.length + l2.length < 3518437208883
     ·rw [if_pos c32] at H
      have LMc32 := Aside0.mk c32
      clear c32
      obtain ⟨y450, hy450⟩ : ∃ y_ : List (S43), y_ = (y447 ++ l2) := ⟨_, rfl⟩
      replace H : (manometerlaw17_TokenMinted.l0 kj5 a3 a4 t443 y450 l2 (l2.length : Int) 0 a0_0 a0_1 a1_0 a1_1 a1_2 a1_3 a1_4) = some r := by first | (rw [hy450]; with_reducible exact H) | (have H2_ := (Option.bind_some _ _).symm.trans H; rw [hy450]; with_reducible exact H2_) | (have H2_ := (Option.bind_some _ _).symm.trans H; with_reducible exact H2_) | with_reducible exact H | (rw [hy450]; exact H) | exact H
      have Ny450 := Aside0.mk hy450
      clear hy450
      have H' := Aside0.mk H
      clear H
      have hnb33 := NB438_439.out
      have hnc33 := NB439_438.out
      have hcz34_0 : wc.cell? ⟨gb438, 0, none⟩ = some (.int .i64 a0_0) := (blk_cell BK438.out 0).trans rfl
      have hcz34_1 : wc.cell? ⟨gb438, 1, none⟩ = some (.string a0_1) := (blk_cell BK438.out 1).trans rfl
      have hfz34_0 := blk_frozen BK438.out 0
      have hfz34_1 := blk_frozen BK438.out 1
      have hcz35_0 : wc.cell? ⟨gb439, 0, none⟩ = some (.string a1_0) := (blk_cell BK439.out 0).trans rfl
      have hcz35_1 : wc.cell? ⟨gb439, 1, none⟩ = some (.int .i64 a1_1) := (blk_cell BK439.out 1).trans rfl
      have hcz35_2 : wc.cell? ⟨gb439, 2, none⟩ = some (.int .i64 a1_2) := (blk_cell BK439.out 2).trans rfl
      have hcz35_3 : wc.cell? ⟨gb439, 3, none⟩ = some (.int .u8 a1_3) := (blk_cell BK439.out 3).trans rfl
      have hcz35_4 : wc.cell? ⟨gb439, 4, none⟩ = some (.int .u64 a1_4) := (blk_cell BK439.out 4).trans rfl
      have hfz35_0 := blk_frozen BK439.out 0
      have hfz35_1 := blk_frozen BK439.out 1
      have hfz35_2 := blk_frozen BK439.out 2
      have hfz35_3 := blk_frozen BK439.out 3
      have hfz35_4 := blk_frozen BK439.out 4
      go_wp2_with (first | ((with_reducible refine gate_callee (f := 10) rfl ?_); refine goesL_ (some 43) rfl rfl Tryd.func10 (by kernel_rfl) rfl #[.agg #[.int .i64 a0_0, .string a0_1], .agg #[.string a1_0, .int .i64 a1_1, .int .i64 a1_2, .int .u8 a1_3, .int .u64 a1_4]] rfl y7_ ?_; (with_reducible refine (token_Mint.calls kj5 a0_0 a0_1 a1_0 a1_1 a1_2 a1_3 a1_4 t443 t444 _ ?side1 A30.out).mono ?_); (case side1 => exact ⟨Tab_below hT.out y1_⟩); rintro e w36 ⟨rfl, hb⟩; refine ⟨_, rfl, ?_⟩; have n0_ := Aside0.mk (blk_below (g := gb438) (o := .cells #[.int .i64 a0_0, .string a0_1] 23 (0, 0)) y3_ hb); have n1_ := Aside0.mk (blk_below (g := gb439) (o := .cells #[.string a1_0, .int .i64 a1_1, .int .i64 a1_2, .int .u8 a1_3, .int .u64 a1_4] 26 (0, 0)) y4_ hb); have n2_ := Aside0.mk (below_step y1_ hb); clear BK438; clear BK439; clear HB; have BK438 := n0_; have BK439 := n1_; have HB := n2_; clear n0_ n1_ n2_; (try clear hb); (try clear hb2); (try clear hk); (try clear hi); have hcz37_0 : w36.cell? ⟨gb439, 0, none⟩ = some (.string a1_0) := (blk_cell BK439.out 0).trans rfl; have hcz37_1 : w36.cell? ⟨gb439, 1, none⟩ = some (.int .i64 a1_1) := (blk_cell BK439.out 1).trans rfl; have hcz37_2 : w36.cell? ⟨gb439, 2, none⟩ = some (.int .i64 a1_2) := (blk_cell BK439.out 2).trans rfl; have hcz37_3 : w36.cell? ⟨gb439, 3, none⟩ = some (.int .u8 a1_3) := (blk_cell BK439.out 3).trans rfl; have hcz37_4 : w36.cell? ⟨gb439, 4, none⟩ = some (.int .u64 a1_4) := (blk_cell BK439.out 4).trans rfl; have hfz37_0 := blk_frozen BK439.out 0; have hfz37_1 := blk_frozen BK439.out 1; have hfz37_2 := blk_frozen BK439.out 2; have hfz37_3 := blk_frozen BK439.out 3; have hfz37_4 := blk_frozen BK439.out 4; have hcz38_0 : w36.cell? ⟨gb438, 0, none⟩ = some (.int .i64 a0_0) := (blk_cell BK438.out 0).trans rfl; have hcz38_1 : w36.cell? ⟨gb438, 1, none⟩ = some (.string a0_1) := (blk_cell BK438.out 1).trans rfl; have hfz38_0 := blk_frozen BK438.out 0; have hfz38_1 := blk_frozen BK438.out 1) | ((with_reducible refine gate_dst (N := 71) rfl ?_); (try (refine gate_guard (by rfl) ?_; dsimp only)); refine Kd.R_lit k43 _ 43 ?hg (N := 71) ?hd (xs := ([(⟨a1_0, (⟨a0_0, a0_1⟩ : S23)⟩ : S43)] : List (S43))) (inner := [.string a1_0, .int .i64 a0_0, .string a0_1]) (ok := fun _ => True) (okp := fun _ => True) ?hr ?hp (fun _ hk => hk) trivial (Below.refl _ _) (Nat.le_refl _) (by simp) ?_; (case hd => rfl); (case hg => rfl); (case hr => first | (go_simp; done) | (go_simp; rfl)); (case hp => exact (Reps.c3 (show Kd.M k43 _ _ _ (⟨a1_0, (⟨a0_0, a0_1⟩ : S23)⟩ : S43) [.string a1_0, .int .i64 a0_0, .string a0_1] from (k43_mkM _ _ _ (⟨a1_0, (⟨a0_0, a0_1⟩ : S23)⟩ : S43) )) (Reps.none _ _))); intro v448 w39 ho40 hb hg_ hnew_; clear hg_ hnew_; (first | rw [← Ny447.out] at ho40 | (simp only [Int.reduceToNat] at ho40; rw [← Ny447.out] at ho40)); have n0_ := Aside0.mk (Kd.R_lower ho40 (below_size y1_)); have n1_ := Aside0.mk (blk_below (g := gb438) (o := .cells #[.int .i64 a0_0, .string a0_1] 23 (0, 0)) y3_ hb); have n2_ := Aside0.mk (blk_below (g := gb439) (o := .cells #[.string a1_0, .int .i64 a1_1, .int .i64 a1_2, .int .u8 a1_3, .int .u64 a1_4] 26 (0, 0)) y4_ hb); have n3_ := Aside0.mk (below_step y1_ hb); clear BK438; clear BK439; clear HB; have HO449 := n0_; have BK438 := n1_; have BK439 := n2_; have HB := n3_; clear n0_ n1_ n2_ n3_; clear hb ho40) | ((with_reducible refine gate_builtin (b := .append) (xs := #[.tmp 71, .tmp 72]) rfl ?_); (try (refine gate_guard (by rfl) ?_; dsimp only)); at_builtin; refine Kd.R_append_rows k43 (w0 := w) w.heap.size rfl (.tmp 71) (.tmp 72) 38 43 (.agg #[(.string ⟨#[]⟩), (.int .i64 0), (.string ⟨#[]⟩)]) 40 rfl Tryd.underlying38 info43 rfl (by decide) (by omega) v448 y447 l2 _ _ _ (fun _ => True) (fun _ => False) rfl rfl ?aO ?aR (fun _ _ h => h) (fun _ h => h.elim) ?aF ?aB ?aS ?aL ?_; (case aR => repeat (first | exact (Kd.C_below HR2.out HB.out) | (with_reducible refine Kd.C_alloc ?_ _) | (with_reducible refine Kd.C_drewN ?_ _) | (with_reducible refine Kd.C_drew ?_))); (case aB => exact y1_); (case aF => exact (fun _ _ => trivial)); (case aO => exact (by (with_reducible repeat (first | apply Kd.R_alloc | apply Kd.R_drewN | apply Kd.R_drew)); exact HO449.out)); (case aS => exact (below_size y1_)); (case aL => have := LMc32.out; omega); intro v451 w41 ho hb hg hat; rw [← Ny450.out] at ho; have n0_ := Aside0.mk (blk_grown (g := gb438) (o := .cells #[.int .i64 a0_0, .string a0_1] 23 (0, 0)) y3_ hg (Kd.R_ne HO449.out BK438.out (by decide))); have n1_ := Aside0.mk (blk_grown (g := gb439) (o := .cells #[.string a1_0, .int .i64 a1_1, .int .i64 a1_2, .int .u8 a1_3, .int .u64 a1_4] 26 (0, 0)) y4_ hg (Kd.R_ne HO449.out BK439.out (by decide))); have n2_ := Aside0.mk (hb); have n3_ := Aside0.mk (ho); clear BK438; clear BK439; clear HB; clear HO449; have BK438 := n0_; have BK439 := n1_; have HB := n2_; have HO452 := n3_; clear n0_ n1_ n2_ n3_; clear ho hb hg hat))
      go_loopg [13, 76] kj5 (fun kq v13 v76 w' => ∃ (x13_2 : List (S43)) (x76_2 : Int), v76 = .int .i64 x76_2 ∧ Aside0 (manometerlaw17_TokenMinted.l0 kq a3 a4 t443 x13_2 l2 (l2.length : Int) x76_2 a0_0 a0_1 a1_0 a1_1 a1_2 a1_3 a1_4 = some r) ∧ Aside0 (kq ≤ kj5) ∧ Aside0 (Kd.R k43 43 w' w.heap.size (fun _ => True) v13 x13_2) ∧ Aside0 (w'.heap[gb438]? = some (.cells #[.int .i64 a0_0, .string a0_1] 23 (0, 0))) ∧ Aside0 (w'.heap[gb439]? = some (.cells #[.string a1_0, .int .i64 a1_1, .int .i64 a1_2, .int .u8 a1_3, .int .u64 a1_4] 26 (0, 0))) ∧ Aside0 (Below w.heap.size w w'))
      case atStart => exact ⟨(y450), (0), y5_, H', ⟨Nat.le_refl _⟩, ⟨by (with_reducible repeat (first | apply Kd.R_alloc | apply Kd.R_drewN | apply Kd.R_drew)); exact HO452.out⟩, ⟨y3_⟩, ⟨y4_⟩, ⟨y1_⟩⟩
      case round =>
       clear H'
       try clear c1
       try clear c2
       try clear p2
       try clear c3
       try clear c6
       try clear c9
       try clear c10
       try clear c11
       try clear c11b0
       try clear c11b1
       try clear c13
       try clear c15
       try clear c15b0
       try clear c15b1
       try clear c17
       try clear c22
       try clear c27
       try clear c31
       try clear c31b0
       try clear c31b1
       try clear c32
       try clear c33
       try clear hcz14_0
       try clear hcz14_1
       try clear hcz18_0
       try clear hcz18_1
       try clear hcz19_0
       try clear hcz19_1
       try clear hcz19_2
       try clear hcz19_3
       try clear hcz19_4
       try clear hcz23_0
       try clear hcz23_1
       try clear hcz24_0
       try clear hcz24_1
       try clear hcz24_2
       try clear hcz24_3
       try clear hcz24_4
       try clear hcz34_0
       try clear hcz34_1
       try clear hcz35_0
       try clear hcz35_1
       try clear hcz35_2
       try clear hcz35_3
       try clear hcz35_4
       try clear hcz37_0
       try clear hcz37_1
       try clear hcz37_2
       try clear hcz37_3
       try clear hcz37_4
       try clear hcz38_0
       try clear hcz38_1
       try clear hfz14_0
       try clear hfz14_1
       try clear hfz18_0
       try clear hfz18_1
       try clear hfz19_0
       try clear hfz19_1
       try clear hfz19_2
       try clear hfz19_3
       try clear hfz19_4
       try clear hfz23_0
       try clear hfz23_1
       try clear hfz24_0
       try clear hfz24_1
       try clear hfz24_2
       try clear hfz24_3
       try clear hfz24_4
       try clear hfz34_0
       try clear hfz34_1
       try clear hfz35_0
       try clear hfz35_1
       try clear hfz35_2
       try clear hfz35_3
       try clear hfz35_4
       try clear hfz37_0
       try clear hfz37_1
       try clear hfz37_2
       try clear hfz37_3
       try clear hfz37_4
       try clear hfz38_0
       try clear hfz38_1
       try clear p2
       obtain ⟨x13_2, x76_2, rfl, HA, HK2, HO_13, BK438, BK439, HB⟩ := hrel
       cases gk with
       | zero => exact absurd HA.out (by simp [manometerlaw17_TokenMinted.l0])
       | succ k2 =>
        have H := HA.out
        clear HA
        simp only [manometerlaw17_TokenMinted.l0] at H
        by_cases c42 : x76_2 < (l2.length : Int)
        ·rw [if_pos c42] at H
         have c42b0 : decide (x76_2 < (l2.length : Int)) = true := decide_eq_true c42
         clear c42
         by_cases c43 : 0 ≤ x76_2
         ·rw [if_pos c43] at H
          have c43b0 : decide (0 ≤ x76_2) = true := decide_eq_true c43
          clear c43
          by_cases c44 : x76_2 < (l2.length : Int)
          ·rw [if_pos c44] at H
           have c44b0 : decide (x76_2 < (l2.length : Int)) = true := decide_eq_true c44
           clear c44
           by_cases c45 : ((rd_T43 l2 x76_2).f0).toList = a1_0.toList
           ·rw [if_pos c45] at H
            have c45b0 : (((rd_T43 l2 x76_2).f0).toList == a1_0.toList) = true := beq_iff_eq.mpr c45
            have c45b1 : (((rd_T43 l2 x76_2).f0).toList != a1_0.toList) = false := bne_eq_false_iff_eq.mpr c45
            clear c45
            by_cases c46 : ((rd_T43 l2 x76_2).f1.f0) = a0_0
            ·rw [if_pos c46] at H
             have c46b0 : (((rd_T43 l2 x76_2).f1.f0) == a0_0) = true := beq_iff_eq.mpr c46
             have c46b1 : (((rd_T43 l2 x76_2).f1.f0) != a0_0) = false := bne_eq_false_iff_eq.mpr c46
             clear c46
             have H' := Aside0.mk H
             clear H
             have p453 : 0 ≤ (x76_2 : Int) := of_decide_eq_true y14_
             have q453 : x76_2 < (l2.length : Int) := of_decide_eq_true y14_
             obtain ⟨ad453, e453, hx453_0, hx453_1, hx453_2⟩ := at_T43 HR2.out x76_2 p453 q453
             cases e453
             replace hx453_0 := (HB.out.cell (World.block_lt_of_cell? w _ hx453_0)).trans hx453_0
             replace hx453_1 := (HB.out.cell (World.block_lt_of_cell? w _ hx453_1)).trans hx453_1
             replace hx453_2 := (HB.out.cell (World.block_lt_of_cell? w _ hx453_2)).trans hx453_2
             replace p453 := eq_true p453
             replace q453 := eq_true q453
             go_wp2_with (first | ((with_reducible refine gate_dst (N := 15) rfl ?_); (try (refine gate_guard (by rfl) ?_; dsimp only)); refine box_event ?hg (N := 15) ?hd (cs := #[.string (⟨#[]⟩ : ByteArray), .int .i64 0, .string (⟨#[]⟩ : ByteArray)]) (t := 43) ?hr ?_; (case hd => rfl); (case hg => rfl); (case hr => first | (go_simp; done) | (go_simp; rfl)); intro gb454 hg w47 hbox hb; have n0_ := Aside0.mk (Kd.R_below (Kd.R_elderB y48_ gb454 (Nat.le_of_eq hg.symm)) hb); have n1_ := Aside0.mk (blk_below (g := gb438) (o := .cells #[.int .i64 a0_0, .string a0_1] 23 (0, 0)) y3_ hb); have n2_ := Aside0.mk (blk_below (g := gb439) (o := .cells #[.string a1_0, .int .i64 a1_1, .int .i64 a1_2, .int .u8 a1_3, .int .u64 a1_4] 26 (0, 0)) y4_ hb); have n3_ := Aside0.mk (below_step y1_ hb); have n4_ := Aside0.mk (hbox); have n5_ := Aside0.mk ((y83_ : w.heap.size ≤ gb454)); have n6_ := Aside0.mk ((y83_ : w.heap.size ≤ gb454)); have n7_ := Aside0.mk ((y56_ : gb438 ≠ gb454)); have n8_ := Aside0.mk ((y57_ : gb454 ≠ gb438)); have n9_ := Aside0.mk ((y52_ : gb439 ≠ gb454)); have n10_ := Aside0.mk ((y53_ : gb454 ≠ gb439)); clear HO_13; clear BK438; clear BK439; clear HB; have HO_13 := n0_; have BK438 := n1_; have BK439 := n2_; have HB := n3_; have BK454 := n4_; have GW454 := n5_; have GE454 := n6_; have NB438_454 := n7_; have NB454_438 := n8_; have NB439_454 := n9_; have NB454_439 := n10_; clear n0_ n1_ n2_ n3_ n4_ n5_ n6_ n7_ n8_ n9_ n10_; clear hb hbox hg; have hnb48 := NB454_438.out; have hnc48 := NB438_454.out; have hnb49 := NB454_439.out; have hnc49 := NB439_454.out; have hcz50_0 : w47.cell? ⟨gb454, 0, none⟩ = some (.string (⟨#[]⟩ : ByteArray)) := (blk_cell BK454.out 0).trans rfl; have hcz50_1 : w47.cell? ⟨gb454, 1, none⟩ = some (.int .i64 0) := (blk_cell BK454.out 1).trans rfl; have hcz50_2 : w47.cell? ⟨gb454, 2, none⟩ = some (.string (⟨#[]⟩ : ByteArray)) := (blk_cell BK454.out 2).trans rfl; have hfz50_0 := blk_frozen BK454.out 0; have hfz50_1 := blk_frozen BK454.out 1; have hfz50_2 := blk_frozen BK454.out 2; have hnb51 := NB439_438.out; have hnc51 := NB438_439.out; have hcz52_0 : w47.cell? ⟨gb439, 0, none⟩ = some (.string a1_0) := (blk_cell BK439.out 0).trans rfl; have hcz52_1 : w47.cell? ⟨gb439, 1, none⟩ = some (.int .i64 a1_1) := (blk_cell BK439.out 1).trans rfl; have hcz52_2 : w47.cell? ⟨gb439, 2, none⟩ = some (.int .i64 a1_2) := (blk_cell BK439.out 2).trans rfl; have hcz52_3 : w47.cell? ⟨gb439, 3, none⟩ = some (.int .u8 a1_3) := (blk_cell BK439.out 3).trans rfl; have hcz52_4 : w47.cell? ⟨gb439, 4, none⟩ = some (.int .u64 a1_4) := (blk_cell BK439.out 4).trans rfl; have hfz52_0 := blk_frozen BK439.out 0; have hfz52_1 := blk_frozen BK439.out 1; have hfz52_2 := blk_frozen BK439.out 2; have hfz52_3 := blk_frozen BK439.out 3; have hfz52_4 := blk_frozen BK439.out 4; have hcz53_0 : w47.cell? ⟨gb438, 0, none⟩ = some (.int .i64 a0_0) := (blk_cell BK438.out 0).trans rfl; have hcz53_1 : w47.cell? ⟨gb438, 1, none⟩ = some (.string a0_1) := (blk_cell BK438.out 1).trans rfl; have hfz53_0 := blk_frozen BK438.out 0; have hfz53_1 := blk_frozen BK438.out 1))
             go_roundg k2
             case measure => have := HJ5.out; have := HK2.out; omega
             case rel => exact ⟨(x13_2), (wrap64 (x76_2 + 1)), y5_, H', ⟨by have := HJ5.out; have := HK2.out; omega⟩, ⟨by (with_reducible repeat (first | apply Kd.R_alloc | apply Kd.R_drewN | apply Kd.R_drew)); exact Kd.R_mono (Kd.R_far (p := ⟨gb454, 2, none⟩) (Kd.R_far (p := ⟨gb454, 1, none⟩) (Kd.R_far (p := ⟨gb454, 0, none⟩) (Kd.R_mono HO_13.out (fun k_ hk => (⟨hk, hk.2⟩ : _ ∧ k_ ≠ gb454))) (fun _ hk => hk.2) (.string ((rd_T43 l2 x76_2).f0))) (fun _ hk => hk.2) (.int .i64 ((rd_T43 l2 x76_2).f1.f0))) (fun _ hk => hk.2) (.string ((rd_T43 l2 x76_2).f1.f1))) (fun _ hk => trivial)⟩, ⟨y36_⟩, ⟨y35_⟩, ⟨y18_⟩⟩
            ·rw [if_neg c46] at H
             have c46b0 : (((rd_T43 l2 x76_2).f1.f0) == a0_0) = false := beq_eq_false_iff_ne.mpr c46
             have c46b1 : (((rd_T43 l2 x76_2).f1.f0) != a0_0) = true := bne_iff_ne.mpr c46
             obtain ⟨y455, hy455⟩ : ∃ y_ : List (S43), y_ = (([(⟨(rd_T43 l2 x76_2).f0, (⟨(rd_T43 l2 x76_2).f1.f0, (rd_T43 l2 x76_2).f1.f1⟩ : S23)⟩ : S43)] : List (S43))) := ⟨_, rfl⟩
             replace H : (if y455.length + x13_2.length < 3518437208883 then (manometerlaw17_TokenMinted.l0 k2 a3 a4 t443 (y455 ++ x13_2) l2 (l2.length : Int) (wrap64 (x76_2 + 1)) a0_0 a0_1 a1_0 a1_1 a1_2 a1_3 a1_4) else (none)) = some r := by first | (rw [hy455]; with_reducible exact H) | (have H2_ := (Option.bind_some _ _).symm.trans H; rw [hy455]; with_reducible exact H2_) | (have H2_ := (Option.bind_some _ _).symm.trans H; with_reducible exact H2_) | with_reducible exact H | (rw [hy455]; exact H) | exact H
             have Ny455 := Aside0.mk hy455
             clear hy455
             by_cases c54 : y455.length + x13_2.length < 3518437208883
             ·rw [if_pos c54] at H
              have LMc54 := Aside0.mk c54
              clear c54
              obtain ⟨y458, hy458⟩ : ∃ y_ : List (S43), y_ = (y455 ++ x13_2) := ⟨_, rfl⟩
              replace H : (manometerlaw17_TokenMinted.l0 k2 a3 a4 t443 y458 l2 (l2.length : Int) (wrap64 (x76_2 + 1)) a0_0 a0_1 a1_0 a1_1 a1_2 a1_3 a1_4) = some r := by first | (rw [hy458]; with_reducible exact H) | (have H2_ := (Option.bind_some _ _).symm.trans H; rw [hy458]; with_reducible exact H2_) | (have H2_ := (Option.bind_some _ _).symm.trans H; with_reducible exact H2_) | with_reducible exact H | (rw [hy458]; exact H) | exact H
              have Ny458 := Aside0.mk hy458
              clear hy458
              have H' := Aside0.mk H
              clear H
              have p453 : 0 ≤ (x76_2 : Int) := of_decide_eq_true y14_
              have q453 : x76_2 < (l2.length : Int) := of_decide_eq_true y14_
              obtain ⟨ad453, e453, hx453_0, hx453_1, hx453_2⟩ := at_T43 HR2.out x76_2 p453 q453
              cases e453
              replace hx453_0 := (HB.out.cell (World.block_lt_of_cell? w _ hx453_0)).trans hx453_0
              replace hx453_1 := (HB.out.cell (World.block_lt_of_cell? w _ hx453_1)).trans hx453_1
              replace hx453_2 := (HB.out.cell (World.block_lt_of_cell? w _ hx453_2)).trans hx453_2
              replace p453 := eq_true p453
              replace q453 := eq_true q453
              go_wp2_with (first | ((with_reducible refine gate_dst (N := 15) rfl ?_); (try (refine gate_guard (by rfl) ?_; dsimp only)); refine box_event ?hg (N := 15) ?hd (cs := #[.string (⟨#[]⟩ : ByteArray), .int .i64 0, .string (⟨#[]⟩ : ByteArray)]) (t := 43) ?hr ?_; (case hd => rfl); (case hg => rfl); (case hr => first | (go_simp; done) | (go_simp; rfl)); intro gb454 hg w55 hbox hb; have n0_ := Aside0.mk (Kd.R_below (Kd.R_elderB y48_ gb454 (Nat.le_of_eq hg.symm)) hb); have n1_ := Aside0.mk (blk_below (g := gb438) (o := .cells #[.int .i64 a0_0, .string a0_1] 23 (0, 0)) y3_ hb); have n2_ := Aside0.mk (blk_below (g := gb439) (o := .cells #[.string a1_0, .int .i64 a1_1, .int .i64 a1_2, .int .u8 a1_3, .int .u64 a1_4] 26 (0, 0)) y4_ hb); have n3_ := Aside0.mk (below_step y1_ hb); have n4_ := Aside0.mk (hbox); have n5_ := Aside0.mk ((y83_ : w.heap.size ≤ gb454)); have n6_ := Aside0.mk ((y83_ : w.heap.size ≤ gb454)); have n7_ := Aside0.mk ((y56_ : gb438 ≠ gb454)); have n8_ := Aside0.mk ((y57_ : gb454 ≠ gb438)); have n9_ := Aside0.mk ((y52_ : gb439 ≠ gb454)); have n10_ := Aside0.mk ((y53_ : gb454 ≠ gb439)); clear HO_13; clear BK438; clear BK439; clear HB; have HO_13 := n0_; have BK438 := n1_; have BK439 := n2_; have HB := n3_; have BK454 := n4_; have GW454 := n5_; have GE454 := n6_; have NB438_454 := n7_; have NB454_438 := n8_; have NB439_454 := n9_; have NB454_439 := n10_; clear n0_ n1_ n2_ n3_ n4_ n5_ n6_ n7_ n8_ n9_ n10_; clear hb hbox hg; have hnb56 := NB454_438.out; have hnc56 := NB438_454.out; have hnb57 := NB454_439.out; have hnc57 := NB439_454.out; have hcz58_0 : w55.cell? ⟨gb454, 0, none⟩ = some (.string (⟨#[]⟩ : ByteArray)) := (blk_cell BK454.out 0).trans rfl; have hcz58_1 : w55.cell? ⟨gb454, 1, none⟩ = some (.int .i64 0) := (blk_cell BK454.out 1).trans rfl; have hcz58_2 : w55.cell? ⟨gb454, 2, none⟩ = some (.string (⟨#[]⟩ : ByteArray)) := (blk_cell BK454.out 2).trans rfl; have hfz58_0 := blk_frozen BK454.out 0; have hfz58_1 := blk_frozen BK454.out 1; have hfz58_2 := blk_frozen BK454.out 2; have hnb59 := NB439_438.out; have hnc59 := NB438_439.out; have hcz60_0 : w55.cell? ⟨gb439, 0, none⟩ = some (.string a1_0) := (blk_cell BK439.out 0).trans rfl; have hcz60_1 : w55.cell? ⟨gb439, 1, none⟩ = some (.int .i64 a1_1) := (blk_cell BK439.out 1).trans rfl; have hcz60_2 : w55.cell? ⟨gb439, 2, none⟩ = some (.int .i64 a1_2) := (blk_cell BK439.out 2).trans rfl; have hcz60_3 : w55.cell? ⟨gb439, 3, none⟩ = some (.int .u8 a1_3) := (blk_cell BK439.out 3).trans rfl; have hcz60_4 : w55.cell? ⟨gb439, 4, none⟩ = some (.int .u64 a1_4) := (blk_cell BK439.out 4).trans rfl; have hfz60_0 := blk_frozen BK439.out 0; have hfz60_1 := blk_frozen BK439.out 1; have hfz60_2 := blk_frozen BK439.out 2; have hfz60_3 := blk_frozen BK439.out 3; have hfz60_4 := blk_frozen BK439.out 4; have hcz61_0 : w55.cell? ⟨gb438, 0, none⟩ = some (.int .i64 a0_0) := (blk_cell BK438.out 0).trans rfl; have hcz61_1 : w55.cell? ⟨gb438, 1, none⟩ = some (.string a0_1) := (blk_cell BK438.out 1).trans rfl; have hfz61_0 := blk_frozen BK438.out 0; have hfz61_1 := blk_frozen BK438.out 1) | ((with_reducible refine gate_dst (N := 94) rfl ?_); (try (refine gate_guard (by rfl) ?_; dsimp only)); refine Kd.R_lit k43 _ 43 ?hg (N := 94) ?hd (xs := ([(⟨(rd_T43 l2 x76_2).f0, (⟨(rd_T43 l2 x76_2).f1.f0, (rd_T43 l2 x76_2).f1.f1⟩ : S23)⟩ : S43)] : List (S43))) (inner := [.string ((rd_T43 l2 x76_2).f0), .int .i64 ((rd_T43 l2 x76_2).f1.f0), .string ((rd_T43 l2 x76_2).f1.f1)]) (ok := fun _ => True) (okp := fun _ => True) ?hr ?hp (fun _ hk => hk) trivial (Below.refl _ _) (Nat.le_refl _) (by simp) ?_; (case hd => rfl); (case hg => rfl); (case hr => first | (go_simp; done) | (go_simp; rfl)); (case hp => exact (Reps.c3 (show Kd.M k43 _ _ _ (⟨(rd_T43 l2 x76_2).f0, (⟨(rd_T43 l2 x76_2).f1.f0, (rd_T43 l2 x76_2).f1.f1⟩ : S23)⟩ : S43) [.string ((rd_T43 l2 x76_2).f0), .int .i64 ((rd_T43 l2 x76_2).f1.f0), .string ((rd_T43 l2 x76_2).f1.f1)] from (k43_mkM _ _ _ (⟨(rd_T43 l2 x76_2).f0, (⟨(rd_T43 l2 x76_2).f1.f0, (rd_T43 l2 x76_2).f1.f1⟩ : S23)⟩ : S43) )) (Reps.none _ _))); intro v456 w62 ho63 hb hg_ hnew_; clear hg_ hnew_; (first | rw [← Ny455.out] at ho63 | (simp only [Int.reduceToNat] at ho63; rw [← Ny455.out] at ho63)); have n0_ := Aside0.mk (Kd.R_elder' y27_ (Kd.R_base ho63) hb); have n1_ := Aside0.mk (Kd.R_lower (Kd.R_newB (Kd.R_new' ho63 (Kd.R_lt y27_)) (g := gb454) (o := .cells #[.string ((rd_T43 l2 x76_2).f0), .int .i64 ((rd_T43 l2 x76_2).f1.f0), .string ((rd_T43 l2 x76_2).f1.f1)] 43 (0, 0)) y15_) (below_size y18_)); have n2_ := Aside0.mk (blk_below (g := gb438) (o := .cells #[.int .i64 a0_0, .string a0_1] 23 (0, 0)) y36_ hb); have n3_ := Aside0.mk (blk_below (g := gb439) (o := .cells #[.string a1_0, .int .i64 a1_1, .int .i64 a1_2, .int .u8 a1_3, .int .u64 a1_4] 26 (0, 0)) y35_ hb); have n4_ := Aside0.mk (blk_below (g := gb454) (o := .cells #[.string ((rd_T43 l2 x76_2).f0), .int .i64 ((rd_T43 l2 x76_2).f1.f0), .string ((rd_T43 l2 x76_2).f1.f1)] 43 (0, 0)) y15_ hb); have n5_ := Aside0.mk (below_step y18_ hb); clear HO_13; clear BK438; clear BK439; clear BK454; clear HB; have HO_13 := n0_; have HO457 := n1_; have BK438 := n2_; have BK439 := n3_; have BK454 := n4_; have HB := n5_; clear n0_ n1_ n2_ n3_ n4_ n5_; clear hb ho63; obtain ⟨Ao65, co65, eo65⟩ := Kd.R_slice HO_13.out; subst eo65) | ((with_reducible refine gate_builtin (b := .append) (xs := #[.tmp 94, .tmp 95]) rfl ?_); (try (refine gate_guard (by rfl) ?_; dsimp only)); at_builtin; refine Kd.R_append_rows k43 (w0 := w) w.heap.size rfl (.tmp 94) (.tmp 95) 38 43 (.agg #[(.string ⟨#[]⟩), (.int .i64 0), (.string ⟨#[]⟩)]) 40 rfl Tryd.underlying38 info43 rfl (by decide) (by omega) v456 y455 x13_2 _ _ _ (fun k_ => some k_ ≠ (.slice Ao65 x13_2.length co65 : Value).ownBlock ∧ k_ ≠ gb454) (fun _ => False) rfl rfl ?aO ?aR (fun _ _ h => h) (fun _ h => h.elim) ?aF ?aB ?aS ?aL ?_; (case aR => repeat (first | exact (Kd.R_reads' HO_13.out).2.2 | (with_reducible refine Kd.C_alloc ?_ _) | (with_reducible refine Kd.C_drewN ?_ _) | (with_reducible refine Kd.C_drew ?_))); (case aB => exact y18_); (case aF => exact (fun k_ hk => ⟨Kd.fresh' (Kd.R_lt y48_) k_ hk, Kd.freshB (g := gb454) (o := .cells #[.string ((rd_T43 l2 x76_2).f0), .int .i64 ((rd_T43 l2 x76_2).f1.f0), .string ((rd_T43 l2 x76_2).f1.f1)] 43 (0, 0)) y66_ k_ hk⟩)); (case aO => exact (by (with_reducible repeat (first | apply Kd.R_alloc | apply Kd.R_drewN | apply Kd.R_drew)); exact Kd.R_mono HO457.out (fun _ hk => ⟨hk.1.2, hk.2⟩))); (case aS => exact (below_size y18_)); (case aL => have := LMc54.out; omega); intro v459 w64 ho hb hg hat; rw [← Ny458.out] at ho; have n0_ := Aside0.mk (Kd.R_after (ok := (fun k_ => k_ ≠ gb454)) (by (with_reducible repeat (first | apply Kd.R_alloc | apply Kd.R_drewN | apply Kd.R_drew)); exact Kd.R_mono HO_13.out (fun _ hk => ⟨hk.1.2, hk.2⟩)) hg hat); have n1_ := Aside0.mk (blk_grown (g := gb438) (o := .cells #[.int .i64 a0_0, .string a0_1] 23 (0, 0)) y3_ hg (Kd.R_ne HO457.out BK438.out (by decide))); have n2_ := Aside0.mk (blk_grown (g := gb439) (o := .cells #[.string a1_0, .int .i64 a1_1, .int .i64 a1_2, .int .u8 a1_3, .int .u64 a1_4] 26 (0, 0)) y4_ hg (Kd.R_ne HO457.out BK439.out (by decide))); have n3_ := Aside0.mk (blk_grown (g := gb454) (o := .cells #[.string ((rd_T43 l2 x76_2).f0), .int .i64 ((rd_T43 l2 x76_2).f1.f0), .string ((rd_T43 l2 x76_2).f1.f1)] 43 (0, 0)) y66_ hg (Kd.R_away HO457.out (fun _ hk => hk.2))); have n4_ := Aside0.mk (hb); have n5_ := Aside0.mk (ho); clear HO_13; clear BK438; clear BK439; clear BK454; clear HB; clear HO457; have HO_13 := n0_; have BK438 := n1_; have BK439 := n2_; have BK454 := n3_; have HB := n4_; have HO460 := n5_; clear n0_ n1_ n2_ n3_ n4_ n5_; clear ho hb hg hat))
              go_roundg k2
              case measure => have := HJ5.out; have := HK2.out; omega
              case rel => exact ⟨(y458), (wrap64 (x76_2 + 1)), y5_, H', ⟨by have := HJ5.out; have := HK2.out; omega⟩, ⟨by (with_reducible repeat (first | apply Kd.R_alloc | apply Kd.R_drewN | apply Kd.R_drew)); exact Kd.R_mono HO460.out (fun _ hk => trivial)⟩, ⟨y3_⟩, ⟨y4_⟩, ⟨y18_⟩⟩
             ·rw [if_neg c54] at H
              exact absurd H (by simp)
           ·rw [if_neg c45] at H
            have c45b0 : (((rd_T43 l2 x76_2).f0).toList == a1_0.toList) = false := beq_eq_false_iff_ne.mpr c45
            have c45b1 : (((rd_T43 l2 x76_2).f0).toList != a1_0.toList) = true := bne_iff_ne.mpr c45
            obtain ⟨y461, hy461⟩ : ∃ y_ : List (S43), y_ = (([(⟨(rd_T43 l2 x76_2).f0, (⟨(rd_T43 l2 x76_2).f1.f0, (rd_T43 l2 x76_2).f1.f1⟩ : S23)⟩ : S43)] : List (S43))) := ⟨_, rfl⟩
            replace H : (if y461.length + x13_2.length < 3518437208883 then (manometerlaw17_TokenMinted.l0 k2 a3 a4 t443 (y461 ++ x13_2) l2 (l2.length : Int) (wrap64 (x76_2 + 1)) a0_0 a0_1 a1_0 a1_1 a1_2 a1_3 a1_4) else (none)) = some r := by first | (rw [hy461]; with_reducible exact H) | (have H2_ := (Option.bind_some _ _).symm.trans H; rw [hy461]; with_reducible exact H2_) | (have H2_ := (Option.bind_some _ _).symm.trans H; with_reducible exact H2_) | with_reducible exact H | (rw [hy461]; exact H) | exact H
            have Ny461 := Aside0.mk hy461
            clear hy461
            by_cases c66 : y461.length + x13_2.length < 3518437208883
            ·rw [if_pos c66] at H
             have LMc66 := Aside0.mk c66
             clear c66
             obtain ⟨y464, hy464⟩ : ∃ y_ : List (S43), y_ = (y461 ++ x13_2) := ⟨_, rfl⟩
             replace H : (manometerlaw17_TokenMinted.l0 k2 a3 a4 t443 y464 l2 (l2.length : Int) (wrap64 (x76_2 + 1)) a0_0 a0_1 a1_0 a1_1 a1_2 a1_3 a1_4) = some r := by first | (rw [hy464]; with_reducible exact H) | (have H2_ := (Option.bind_some _ _).symm.trans H; rw [hy464]; with_reducible exact H2_) | (have H2_ := (Option.bind_some _ _).symm.trans H; with_reducible exact H2_) | with_reducible exact H | (rw [hy464]; exact H) | exact H
             have Ny464 := Aside0.mk hy464
             clear hy464
             have H' := Aside0.mk H
             clear H
             have p453 : 0 ≤ (x76_2 : Int) := of_decide_eq_true y14_
             have q453 : x76_2 < (l2.length : Int) := of_decide_eq_true y14_
             obtain ⟨ad453, e453, hx453_0, hx453_1, hx453_2⟩ := at_T43 HR2.out x76_2 p453 q453
             cases e453
             replace hx453_0 := (HB.out.cell (World.block_lt_of_cell? w _ hx453_0)).trans hx453_0
             replace hx453_1 := (HB.out.cell (World.block_lt_of_cell? w _ hx453_1)).trans hx453_1
             replace hx453_2 := (HB.out.cell (World.block_lt_of_cell? w _ hx453_2)).trans hx453_2
             replace p453 := eq_true p453
             replace q453 := eq_true q453
             go_wp2_with (first | ((with_reducible refine gate_dst (N := 15) rfl ?_); (try (refine gate_guard (by rfl) ?_; dsimp only)); refine box_event ?hg (N := 15) ?hd (cs := #[.string (⟨#[]⟩ : ByteArray), .int .i64 0, .string (⟨#[]⟩ : ByteArray)]) (t := 43) ?hr ?_; (case hd => rfl); (case hg => rfl); (case hr => first | (go_simp; done) | (go_simp; rfl)); intro gb454 hg w67 hbox hb; have n0_ := Aside0.mk (Kd.R_below (Kd.R_elderB y48_ gb454 (Nat.le_of_eq hg.symm)) hb); have n1_ := Aside0.mk (blk_below (g := gb438) (o := .cells #[.int .i64 a0_0, .string a0_1] 23 (0, 0)) y3_ hb); have n2_ := Aside0.mk (blk_below (g := gb439) (o := .cells #[.string a1_0, .int .i64 a1_1, .int .i64 a1_2, .int .u8 a1_3, .int .u64 a1_4] 26 (0, 0)) y4_ hb); have n3_ := Aside0.mk (below_step y1_ hb); have n4_ := Aside0.mk (hbox); have n5_ := Aside0.mk ((y83_ : w.heap.size ≤ gb454)); have n6_ := Aside0.mk ((y83_ : w.heap.size ≤ gb454)); have n7_ := Aside0.mk ((y56_ : gb438 ≠ gb454)); have n8_ := Aside0.mk ((y57_ : gb454 ≠ gb438)); have n9_ := Aside0.mk ((y52_ : gb439 ≠ gb454)); have n10_ := Aside0.mk ((y53_ : gb454 ≠ gb439)); clear HO_13; clear BK438; clear BK439; clear HB; have HO_13 := n0_; have BK438 := n1_; have BK439 := n2_; have HB := n3_; have BK454 := n4_; have GW454 := n5_; have GE454 := n6_; have NB438_454 := n7_; have NB454_438 := n8_; have NB439_454 := n9_; have NB454_439 := n10_; clear n0_ n1_ n2_ n3_ n4_ n5_ n6_ n7_ n8_ n9_ n10_; clear hb hbox hg; have hnb68 := NB454_438.out; have hnc68 := NB438_454.out; have hnb69 := NB454_439.out; have hnc69 := NB439_454.out; have hcz70_0 : w67.cell? ⟨gb454, 0, none⟩ = some (.string (⟨#[]⟩ : ByteArray)) := (blk_cell BK454.out 0).trans rfl; have hcz70_1 : w67.cell? ⟨gb454, 1, none⟩ = some (.int .i64 0) := (blk_cell BK454.out 1).trans rfl; have hcz70_2 : w67.cell? ⟨gb454, 2, none⟩ = some (.string (⟨#[]⟩ : ByteArray)) := (blk_cell BK454.out 2).trans rfl; have hfz70_0 := blk_frozen BK454.out 0; have hfz70_1 := blk_frozen BK454.out 1; have hfz70_2 := blk_frozen BK454.out 2; have hnb71 := NB439_438.out; have hnc71 := NB438_439.out; have hcz72_0 : w67.cell? ⟨gb439, 0, none⟩ = some (.string a1_0) := (blk_cell BK439.out 0).trans rfl; have hcz72_1 : w67.cell? ⟨gb439, 1, none⟩ = some (.int .i64 a1_1) := (blk_cell BK439.out 1).trans rfl; have hcz72_2 : w67.cell? ⟨gb439, 2, none⟩ = some (.int .i64 a1_2) := (blk_cell BK439.out 2).trans rfl; have hcz72_3 : w67.cell? ⟨gb439, 3, none⟩ = some (.int .u8 a1_3) := (blk_cell BK439.out 3).trans rfl; have hcz72_4 : w67.cell? ⟨gb439, 4, none⟩ = some (.int .u64 a1_4) := (blk_cell BK439.out 4).trans rfl; have hfz72_0 := blk_frozen BK439.out 0; have hfz72_1 := blk_frozen BK439.out 1; have hfz72_2 := blk_frozen BK439.out 2; have hfz72_3 := blk_frozen BK439.out 3; have hfz72_4 := blk_frozen BK439.out 4) | ((with_reducible refine gate_dst (N := 94) rfl ?_); (try (refine gate_guard (by rfl) ?_; dsimp only)); refine Kd.R_lit k43 _ 43 ?hg (N := 94) ?hd (xs := ([(⟨(rd_T43 l2 x76_2).f0, (⟨(rd_T43 l2 x76_2).f1.f0, (rd_T43 l2 x76_2).f1.f1⟩ : S23)⟩ : S43)] : List (S43))) (inner := [.string ((rd_T43 l2 x76_2).f0), .int .i64 ((rd_T43 l2 x76_2).f1.f0), .string ((rd_T43 l2 x76_2).f1.f1)]) (ok := fun _ => True) (okp := fun _ => True) ?hr ?hp (fun _ hk => hk) trivial (Below.refl _ _) (Nat.le_refl _) (by simp) ?_; (case hd => rfl); (case hg => rfl); (case hr => first | (go_simp; done) | (go_simp; rfl)); (case hp => exact (Reps.c3 (show Kd.M k43 _ _ _ (⟨(rd_T43 l2 x76_2).f0, (⟨(rd_T43 l2 x76_2).f1.f0, (rd_T43 l2 x76_2).f1.f1⟩ : S23)⟩ : S43) [.string ((rd_T43 l2 x76_2).f0), .int .i64 ((rd_T43 l2 x76_2).f1.f0), .string ((rd_T43 l2 x76_2).f1.f1)] from (k43_mkM _ _ _ (⟨(rd_T43 l2 x76_2).f0, (⟨(rd_T43 l2 x76_2).f1.f0, (rd_T43 l2 x76_2).f1.f1⟩ : S23)⟩ : S43) )) (Reps.none _ _))); intro v462 w73 ho74 hb hg_ hnew_; clear hg_ hnew_; (first | rw [← Ny461.out] at ho74 | (simp only [Int.reduceToNat] at ho74; rw [← Ny461.out] at ho74)); have n0_ := Aside0.mk (Kd.R_elder' y27_ (Kd.R_base ho74) hb); have n1_ := Aside0.mk (Kd.R_lower (Kd.R_newB (Kd.R_new' ho74 (Kd.R_lt y27_)) (g := gb454) (o := .cells #[.string ((rd_T43 l2 x76_2).f0), .int .i64 ((rd_T43 l2 x76_2).f1.f0), .string ((rd_T43 l2 x76_2).f1.f1)] 43 (0, 0)) y15_) (below_size y18_)); have n2_ := Aside0.mk (blk_below (g := gb438) (o := .cells #[.int .i64 a0_0, .string a0_1] 23 (0, 0)) y36_ hb); have n3_ := Aside0.mk (blk_below (g := gb439) (o := .cells #[.string a1_0, .int .i64 a1_1, .int .i64 a1_2, .int .u8 a1_3, .int .u64 a1_4] 26 (0, 0)) y35_ hb); have n4_ := Aside0.mk (blk_below (g := gb454) (o := .cells #[.string ((rd_T43 l2 x76_2).f0), .int .i64 ((rd_T43 l2 x76_2).f1.f0), .string ((rd_T43 l2 x76_2).f1.f1)] 43 (0, 0)) y15_ hb); have n5_ := Aside0.mk (below_step y18_ hb); clear HO_13; clear BK438; clear BK439; clear BK454; clear HB; have HO_13 := n0_; have HO463 := n1_; have BK438 := n2_; have BK439 := n3_; have BK454 := n4_; have HB := n5_; clear n0_ n1_ n2_ n3_ n4_ n5_; clear hb ho74; obtain ⟨Ao76, co76, eo76⟩ := Kd.R_slice HO_13.out; subst eo76) | ((with_reducible refine gate_builtin (b := .append) (xs := #[.tmp 94, .tmp 95]) rfl ?_); (try (refine gate_guard (by rfl) ?_; dsimp only)); at_builtin; refine Kd.R_append_rows k43 (w0 := w) w.heap.size rfl (.tmp 94) (.tmp 95) 38 43 (.agg #[(.string ⟨#[]⟩), (.int .i64 0), (.string ⟨#[]⟩)]) 40 rfl Tryd.underlying38 info43 rfl (by decide) (by omega) v462 y461 x13_2 _ _ _ (fun k_ => some k_ ≠ (.slice Ao76 x13_2.length co76 : Value).ownBlock ∧ k_ ≠ gb454) (fun _ => False) rfl rfl ?aO ?aR (fun _ _ h => h) (fun _ h => h.elim) ?aF ?aB ?aS ?aL ?_; (case aR => repeat (first | exact (Kd.R_reads' HO_13.out).2.2 | (with_reducible refine Kd.C_alloc ?_ _) | (with_reducible refine Kd.C_drewN ?_ _) | (with_reducible refine Kd.C_drew ?_))); (case aB => exact y18_); (case aF => exact (fun k_ hk => ⟨Kd.fresh' (Kd.R_lt y48_) k_ hk, Kd.freshB (g := gb454) (o := .cells #[.string ((rd_T43 l2 x76_2).f0), .int .i64 ((rd_T43 l2 x76_2).f1.f0), .string ((rd_T43 l2 x76_2).f1.f1)] 43 (0, 0)) y66_ k_ hk⟩)); (case aO => exact (by (with_reducible repeat (first | apply Kd.R_alloc | apply Kd.R_drewN | apply Kd.R_drew)); exact Kd.R_mono HO463.out (fun _ hk => ⟨hk.1.2, hk.2⟩))); (case aS => exact (below_size y18_)); (case aL => have := LMc66.out; omega); intro v465 w75 ho hb hg hat; rw [← Ny464.out] at ho; have n0_ := Aside0.mk (Kd.R_after (ok := (fun k_ => k_ ≠ gb454)) (by (with_reducible repeat (first | apply Kd.R_alloc | apply Kd.R_drewN | apply Kd.R_drew)); exact Kd.R_mono HO_13.out (fun _ hk => ⟨hk.1.2, hk.2⟩)) hg hat); have n1_ := Aside0.mk (blk_grown (g := gb438) (o := .cells #[.int .i64 a0_0, .string a0_1] 23 (0, 0)) y3_ hg (Kd.R_ne HO463.out BK438.out (by decide))); have n2_ := Aside0.mk (blk_grown (g := gb439) (o := .cells #[.string a1_0, .int .i64 a1_1, .int .i64 a1_2, .int .u8 a1_3, .int .u64 a1_4] 26 (0, 0)) y4_ hg (Kd.R_ne HO463.out BK439.out (by decide))); have n3_ := Aside0.mk (blk_grown (g := gb454) (o := .cells #[.string ((rd_T43 l2 x76_2).f0), .int .i64 ((rd_T43 l2 x76_2).f1.f0), .string ((rd_T43 l2 x76_2).f1.f1)] 43 (0, 0)) y66_ hg (Kd.R_away HO463.out (fun _ hk => hk.2))); have n4_ := Aside0.mk (hb); have n5_ := Aside0.mk (ho); clear HO_13; clear BK438; clear BK439; clear BK454; clear HB; clear HO463; have HO_13 := n0_; have BK438 := n1_; have BK439 := n2_; have BK454 := n3_; have HB := n4_; have HO466 := n5_; clear n0_ n1_ n2_ n3_ n4_ n5_; clear ho hb hg hat))
             go_roundg k2
             case measure => have := HJ5.out; have := HK2.out; omega
             case rel => exact ⟨(y464), (wrap64 (x76_2 + 1)), y5_, H', ⟨by have := HJ5.out; have := HK2.out; omega⟩, ⟨by (with_reducible repeat (first | apply Kd.R_alloc | apply Kd.R_drewN | apply Kd.R_drew)); exact Kd.R_mono HO466.out (fun _ hk => trivial)⟩, ⟨y3_⟩, ⟨y4_⟩, ⟨y18_⟩⟩
            ·rw [if_neg c66] at H
             exact absurd H (by simp)
          ·rw [if_neg c44] at H
           exact absurd H (by simp)
         ·rw [if_neg c43] at H
          exact absurd H (by simp)
        ·rw [if_neg c42] at H
         have c42b0 : decide (x76_2 < (l2.length : Int)) = false := decide_eq_false c42
         clear c42
         replace H := Option.bind_eq_some_iff.mp H
         obtain ⟨⟨t467, t468, t469, t470, t471, t472⟩, A770, H⟩ := H
         replace H : ((token_Read.f k2 t443).bind fun bt474 => (if bt474.2.2.2.2.2 = 0 then (if (!(bt474.1.toList == a1_0.toList) || (!(bt474.2.1 == a1_1) || (!(bt474.2.2.1 == a1_2) || (!(bt474.2.2.2.1 == a1_3) || (!(bt474.2.2.2.2.1 == a1_4)))))) = true then (manometerlaw17_TokenMinted.j2 k2 a3 a4 t472 true a1_0 a1_1 a1_2 a1_3 a1_4 t467 t468 t469 t470 t471) else ((token_Signed.f k2 t443 a0_0 a0_1).bind fun t481 => (manometerlaw17_TokenMinted.j2 k2 a3 a4 t472 (!t481) a1_0 a1_1 a1_2 a1_3 a1_4 t467 t468 t469 t470 t471))) else (manometerlaw17_TokenMinted.j2 k2 a3 a4 t472 true a1_0 a1_1 a1_2 a1_3 a1_4 t467 t468 t469 t470 t471))) = some r := H
         have A77 := Aside0.mk A770
         clear A770
         replace H := Option.bind_eq_some_iff.mp H
         obtain ⟨⟨t474, t475, t476, t477, t478, t479⟩, A780, H⟩ := H
         replace H : (if t479 = 0 then (if (!(t474.toList == a1_0.toList) || (!(t475 == a1_1) || (!(t476 == a1_2) || (!(t477 == a1_3) || (!(t478 == a1_4)))))) = true then (manometerlaw17_TokenMinted.j2 k2 a3 a4 t472 true a1_0 a1_1 a1_2 a1_3 a1_4 t467 t468 t469 t470 t471) else ((token_Signed.f k2 t443 a0_0 a0_1).bind fun t481 => (manometerlaw17_TokenMinted.j2 k2 a3 a4 t472 (!t481) a1_0 a1_1 a1_2 a1_3 a1_4 t467 t468 t469 t470 t471))) else (manometerlaw17_TokenMinted.j2 k2 a3 a4 t472 true a1_0 a1_1 a1_2 a1_3 a1_4 t467 t468 t469 t470 t471)) = some r := H
         have A78 := Aside0.mk A780
         clear A780
         have HC79 := Aside0.mk H
         clear H
         obtain ⟨Ao80, co80, eo80⟩ := Kd.R_slice HO_13.out
         subst eo80
         go_upto_region 15 with (first | ((with_reducible refine gate_callee (f := 23) rfl ?_); refine goesL_ (some 103) rfl rfl Tryd.func23 (by kernel_rfl) rfl #[.string t443, .slice Ao80 x13_2.length co80, .int .i64 a3, .int .u8 a4] rfl y7_ ?_; (with_reducible refine (token_Verify.calls k2 t443 _ _ x13_2 a3 a4 t467 t468 t469 t470 t471 t472 _ ?side1 ?side2 ?side3 A77.out).mono ?_); (case side1 => exact ⟨Tab_below hT.out y1_⟩); (case side2 => repeat (first | exact (Kd.R_reads' HO_13.out).2.2 | (with_reducible refine Kd.C_alloc ?_ _) | (with_reducible refine Kd.C_drewN ?_ _) | (with_reducible refine Kd.C_drew ?_))); (case side3 => exact (Kd.R_reads' HO_13.out).2.1); rintro e w81 ⟨rfl, hb⟩; refine ⟨_, rfl, ?_⟩; have n0_ := Aside0.mk (Kd.R_below y48_ hb); have n1_ := Aside0.mk (blk_below (g := gb438) (o := .cells #[.int .i64 a0_0, .string a0_1] 23 (0, 0)) y3_ hb); have n2_ := Aside0.mk (blk_below (g := gb439) (o := .cells #[.string a1_0, .int .i64 a1_1, .int .i64 a1_2, .int .u8 a1_3, .int .u64 a1_4] 26 (0, 0)) y4_ hb); have n3_ := Aside0.mk (below_step y1_ hb); clear HO_13; clear BK438; clear BK439; clear HB; have HO_13 := n0_; have BK438 := n1_; have BK439 := n2_; have HB := n3_; clear n0_ n1_ n2_ n3_; (try clear hb); (try clear hb2); (try clear hk); (try clear hi)) | ((with_reducible refine gate_dst (N := 16) rfl ?_); (try (refine gate_guard (by rfl) ?_; dsimp only)); refine box_event ?hg (N := 16) ?hd (cs := #[.string (⟨#[]⟩ : ByteArray), .int .i64 0, .int .i64 0, .int .u8 0, .int .u64 0]) (t := 26) ?hr ?_; (case hd => rfl); (case hg => rfl); (case hr => first | (go_simp; done) | (go_simp; rfl)); intro gb473 hg w82 hbox hb; have n0_ := Aside0.mk (Kd.R_below y48_ hb); have n1_ := Aside0.mk (blk_below (g := gb438) (o := .cells #[.int .i64 a0_0, .string a0_1] 23 (0, 0)) y3_ hb); have n2_ := Aside0.mk (blk_below (g := gb439) (o := .cells #[.string a1_0, .int .i64 a1_1, .int .i64 a1_2, .int .u8 a1_3, .int .u64 a1_4] 26 (0, 0)) y4_ hb); have n3_ := Aside0.mk (below_step y1_ hb); have n4_ := Aside0.mk (hbox); have n5_ := Aside0.mk ((y83_ : w.heap.size ≤ gb473)); have n6_ := Aside0.mk ((y83_ : w.heap.size ≤ gb473)); have n7_ := Aside0.mk ((y56_ : gb438 ≠ gb473)); have n8_ := Aside0.mk ((y57_ : gb473 ≠ gb438)); have n9_ := Aside0.mk ((y52_ : gb439 ≠ gb473)); have n10_ := Aside0.mk ((y53_ : gb473 ≠ gb439)); clear HO_13; clear BK438; clear BK439; clear HB; have HO_13 := n0_; have BK438 := n1_; have BK439 := n2_; have HB := n3_; have BK473 := n4_; have GW473 := n5_; have GE473 := n6_; have NB438_473 := n7_; have NB473_438 := n8_; have NB439_473 := n9_; have NB473_439 := n10_; clear n0_ n1_ n2_ n3_ n4_ n5_ n6_ n7_ n8_ n9_ n10_; clear hb hbox hg; have hnb83 := NB473_438.out; have hnc83 := NB438_473.out; have hnb84 := NB473_439.out; have hnc84 := NB439_473.out; have hcz85_0 : w82.cell? ⟨gb473, 0, none⟩ = some (.string (⟨#[]⟩ : ByteArray)) := (blk_cell BK473.out 0).trans rfl; have hcz85_1 : w82.cell? ⟨gb473, 1, none⟩ = some (.int .i64 0) := (blk_cell BK473.out 1).trans rfl; have hcz85_2 : w82.cell? ⟨gb473, 2, none⟩ = some (.int .i64 0) := (blk_cell BK473.out 2).trans rfl; have hcz85_3 : w82.cell? ⟨gb473, 3, none⟩ = some (.int .u8 0) := (blk_cell BK473.out 3).trans rfl; have hcz85_4 : w82.cell? ⟨gb473, 4, none⟩ = some (.int .u64 0) := (blk_cell BK473.out 4).trans rfl; have hfz85_0 := blk_frozen BK473.out 0; have hfz85_1 := blk_frozen BK473.out 1; have hfz85_2 := blk_frozen BK473.out 2; have hfz85_3 := blk_frozen BK473.out 3; have hfz85_4 := blk_frozen BK473.out 4) | ((with_reducible refine gate_callee (f := 18) rfl ?_); refine goesL_ (some 108) rfl rfl Tryd.func18 (by kernel_rfl) rfl #[.string t443] rfl y7_ ?_; (with_reducible refine (token_Read.calls k2 t443 t474 t475 t476 t477 t478 t479 _ A78.out).mono ?_); rintro e w86 ⟨rfl, hb⟩; refine ⟨_, rfl, ?_⟩; have n0_ := Aside0.mk (Kd.R_below (by (with_reducible repeat (first | apply Kd.R_alloc | apply Kd.R_drewN | apply Kd.R_drew)); exact (Kd.R_mono (Kd.R_far (p := ⟨gb473, 4, none⟩) (Kd.R_far (p := ⟨gb473, 3, none⟩) (Kd.R_far (p := ⟨gb473, 2, none⟩) (Kd.R_far (p := ⟨gb473, 1, none⟩) (Kd.R_far (p := ⟨gb473, 0, none⟩) (Kd.R_types HO_13.out BK473.out (by decide)) (fun _ hk => hk.2) (.string t467)) (fun _ hk => hk.2) (.int .i64 t468)) (fun _ hk => hk.2) (.int .i64 t469)) (fun _ hk => hk.2) (.int .u8 t470)) (fun _ hk => hk.2) (.int .u64 t471)) (fun _ h_ => h_.1))) hb); have n1_ := Aside0.mk (blk_below (g := gb438) (o := .cells #[.int .i64 a0_0, .string a0_1] 23 (0, 0)) (by (with_reducible repeat (first | refine blk_drewN ?_ _ | refine blk_drew ?_ | refine blk_alloc ?_ _)); refine blk_far ?_ NB438_473.out _; (with_reducible repeat (first | refine blk_drewN ?_ _ | refine blk_drew ?_ | refine blk_alloc ?_ _)); refine blk_far ?_ NB438_473.out _; (with_reducible repeat (first | refine blk_drewN ?_ _ | refine blk_drew ?_ | refine blk_alloc ?_ _)); refine blk_far ?_ NB438_473.out _; (with_reducible repeat (first | refine blk_drewN ?_ _ | refine blk_drew ?_ | refine blk_alloc ?_ _)); refine blk_far ?_ NB438_473.out _; (with_reducible repeat (first | refine blk_drewN ?_ _ | refine blk_drew ?_ | refine blk_alloc ?_ _)); refine blk_far ?_ NB438_473.out _; (with_reducible repeat (first | refine blk_drewN ?_ _ | refine blk_drew ?_ | refine blk_alloc ?_ _)); exact BK438.out) hb); have n2_ := Aside0.mk (blk_below (g := gb439) (o := .cells #[.string a1_0, .int .i64 a1_1, .int .i64 a1_2, .int .u8 a1_3, .int .u64 a1_4] 26 (0, 0)) (by (with_reducible repeat (first | refine blk_drewN ?_ _ | refine blk_drew ?_ | refine blk_alloc ?_ _)); refine blk_far ?_ NB439_473.out _; (with_reducible repeat (first | refine blk_drewN ?_ _ | refine blk_drew ?_ | refine blk_alloc ?_ _)); refine blk_far ?_ NB439_473.out _; (with_reducible repeat (first | refine blk_drewN ?_ _ | refine blk_drew ?_ | refine blk_alloc ?_ _)); refine blk_far ?_ NB439_473.out _; (with_reducible repeat (first | refine blk_drewN ?_ _ | refine blk_drew ?_ | refine blk_alloc ?_ _)); refine blk_far ?_ NB439_473.out _; (with_reducible repeat (first | refine blk_drewN ?_ _ | refine blk_drew ?_ | refine blk_alloc ?_ _)); refine blk_far ?_ NB439_473.out _; (with_reducible repeat (first | refine blk_drewN ?_ _ | refine blk_drew ?_ | refine blk_alloc ?_ _)); exact BK439.out) hb); have n3_ := Aside0.mk (blk_below (g := gb473) (o := .cells #[.string t467, .int .i64 t468, .int .i64 t469, .int .u8 t470, .int .u64 t471] 26 (0, 0)) (by (with_reducible repeat (first | refine blk_drewN ?_ _ | refine blk_drew ?_ | refine blk_alloc ?_ _)); refine blk_put (cs := #[.string t467, .int .i64 t468, .int .i64 t469, .int .u8 t470, .int .u64 0]) ?_ 4 _ rfl; (with_reducible repeat (first | refine blk_drewN ?_ _ | refine blk_drew ?_ | refine blk_alloc ?_ _)); refine blk_put (cs := #[.string t467, .int .i64 t468, .int .i64 t469, .int .u8 0, .int .u64 0]) ?_ 3 _ rfl; (with_reducible repeat (first | refine blk_drewN ?_ _ | refine blk_drew ?_ | refine blk_alloc ?_ _)); refine blk_put (cs := #[.string t467, .int .i64 t468, .int .i64 0, .int .u8 0, .int .u64 0]) ?_ 2 _ rfl; (with_reducible repeat (first | refine blk_drewN ?_ _ | refine blk_drew ?_ | refine blk_alloc ?_ _)); refine blk_put (cs := #[.string t467, .int .i64 0, .int .i64 0, .int .u8 0, .int .u64 0]) ?_ 1 _ rfl; (with_reducible repeat (first | refine blk_drewN ?_ _ | refine blk_drew ?_ | refine blk_alloc ?_ _)); refine blk_put (cs := #[.string (⟨#[]⟩ : ByteArray), .int .i64 0, .int .i64 0, .int .u8 0, .int .u64 0]) ?_ 0 _ rfl; (with_reducible repeat (first | refine blk_drewN ?_ _ | refine blk_drew ?_ | refine blk_alloc ?_ _)); exact BK473.out) hb); have n4_ := Aside0.mk (below_step y50_ hb); clear HO_13; clear BK438; clear BK439; clear BK473; clear HB; have HO_13 := n0_; have BK438 := n1_; have BK439 := n2_; have BK473 := n3_; have HB := n4_; clear n0_ n1_ n2_ n3_ n4_; (try clear hb); (try clear hb2); (try clear hk); (try clear hi)) | ((with_reducible refine gate_dst (N := 18) rfl ?_); (try (refine gate_guard (by rfl) ?_; dsimp only)); refine box_event ?hg (N := 18) ?hd (cs := #[.string (⟨#[]⟩ : ByteArray), .int .i64 0, .int .i64 0, .int .u8 0, .int .u64 0]) (t := 26) ?hr ?_; (case hd => rfl); (case hg => rfl); (case hr => first | (go_simp; done) | (go_simp; rfl)); intro gb480 hg w87 hbox hb; have n0_ := Aside0.mk (Kd.R_below y48_ hb); have n1_ := Aside0.mk (blk_below (g := gb438) (o := .cells #[.int .i64 a0_0, .string a0_1] 23 (0, 0)) y3_ hb); have n2_ := Aside0.mk (blk_below (g := gb439) (o := .cells #[.string a1_0, .int .i64 a1_1, .int .i64 a1_2, .int .u8 a1_3, .int .u64 a1_4] 26 (0, 0)) y4_ hb); have n3_ := Aside0.mk (blk_below (g := gb473) (o := .cells #[.string t467, .int .i64 t468, .int .i64 t469, .int .u8 t470, .int .u64 t471] 26 (0, 0)) y65_ hb); have n4_ := Aside0.mk (below_step y50_ hb); have n5_ := Aside0.mk (hbox); have n6_ := Aside0.mk ((by rw [hg]; exact (below_size y50_) : w.heap.size ≤ gb480)); have n7_ := Aside0.mk ((by rw [hg]; exact (below_size y50_) : w.heap.size ≤ gb480)); have n8_ := Aside0.mk ((y56_ : gb438 ≠ gb480)); have n9_ := Aside0.mk ((y57_ : gb480 ≠ gb438)); have n10_ := Aside0.mk ((y52_ : gb439 ≠ gb480)); have n11_ := Aside0.mk ((y53_ : gb480 ≠ gb439)); have n12_ := Aside0.mk ((by rw [hg]; exact Nat.ne_of_lt (blk_lt (g := gb473) (o := .cells #[.string t467, .int .i64 t468, .int .i64 t469, .int .u8 t470, .int .u64 t471] 26 (0, 0)) y65_) : gb473 ≠ gb480)); have n13_ := Aside0.mk ((by rw [hg]; exact Nat.ne_of_gt (blk_lt (g := gb473) (o := .cells #[.string t467, .int .i64 t468, .int .i64 t469, .int .u8 t470, .int .u64 t471] 26 (0, 0)) y65_) : gb480 ≠ gb473)); clear HO_13; clear BK438; clear BK439; clear BK473; clear HB; have HO_13 := n0_; have BK438 := n1_; have BK439 := n2_; have BK473 := n3_; have HB := n4_; have BK480 := n5_; have GW480 := n6_; have GE480 := n7_; have NB438_480 := n8_; have NB480_438 := n9_; have NB439_480 := n10_; have NB480_439 := n11_; have NB473_480 := n12_; have NB480_473 := n13_; clear n0_ n1_ n2_ n3_ n4_ n5_ n6_ n7_ n8_ n9_ n10_ n11_ n12_ n13_; clear hb hbox hg; have hnb88 := NB480_438.out; have hnc88 := NB438_480.out; have hnb89 := NB480_439.out; have hnc89 := NB439_480.out; have hnb90 := NB480_473.out; have hnc90 := NB473_480.out; have hcz91_0 : w87.cell? ⟨gb480, 0, none⟩ = some (.string (⟨#[]⟩ : ByteArray)) := (blk_cell BK480.out 0).trans rfl; have hcz91_1 : w87.cell? ⟨gb480, 1, none⟩ = some (.int .i64 0) := (blk_cell BK480.out 1).trans rfl; have hcz91_2 : w87.cell? ⟨gb480, 2, none⟩ = some (.int .i64 0) := (blk_cell BK480.out 2).trans rfl; have hcz91_3 : w87.cell? ⟨gb480, 3, none⟩ = some (.int .u8 0) := (blk_cell BK480.out 3).trans rfl; have hcz91_4 : w87.cell? ⟨gb480, 4, none⟩ = some (.int .u64 0) := (blk_cell BK480.out 4).trans rfl; have hfz91_0 := blk_frozen BK480.out 0; have hfz91_1 := blk_frozen BK480.out 1; have hfz91_2 := blk_frozen BK480.out 2; have hfz91_3 := blk_frozen BK480.out 3; have hfz91_4 := blk_frozen BK480.out 4))
         (try simp only [Act.put, List.setIfInBounds_toArray, List.set_cons_zero, List.set_cons_succ])
         go_cut [111] (fun v111 wc => ∃ (kq : Nat) (x111_78 : Bool), v111 = .bool x111_78 ∧ Aside0 (manometerlaw17_TokenMinted.j2 kq a3 a4 t472 x111_78 a1_0 a1_1 a1_2 a1_3 a1_4 t467 t468 t469 t470 t471 = some r) ∧ Aside0 (kq ≤ k2) ∧ Aside0 (wc.heap[gb438]? = some (.cells #[.int .i64 a0_0, .string a0_1] 23 (0, 0))) ∧ Aside0 (wc.heap[gb439]? = some (.cells #[.string a1_0, .int .i64 a1_1, .int .i64 a1_2, .int .u8 a1_3, .int .u64 a1_4] 26 (0, 0))) ∧ Aside0 (wc.heap[gb473]? = some (.cells #[.string t467, .int .i64 t468, .int .i64 t469, .int .u8 t470, .int .u64 t471] 26 (0, 0))) ∧ Aside0 (wc.heap[gb480]? = some (.cells #[.string t474, .int .i64 t475, .int .i64 t476, .int .u8 t477, .int .u64 t478] 26 (0, 0))) ∧ Aside0 (Below w.heap.size w wc))
         case first =>
          have H := HC79.out
          clear HC79
          by_cases c92 : t479 = 0
          ·rw [if_pos c92] at H
           have c92b0 : (t479 == 0) = true := beq_iff_eq.mpr c92
           have c92b1 : (t479 != 0) = false := bne_eq_false_iff_eq.mpr c92
           clear c92
           (first | rw [c92b0] | (simp only [i64_w, i32_w]; rw [c92b0]) | skip)
           by_cases c93 : (!(t474.toList == a1_0.toList) || (!(t475 == a1_1) || (!(t476 == a1_2) || (!(t477 == a1_3) || (!(t478 == a1_4)))))) = true
           ·rw [if_pos c93] at H
            have c93b0 : (!(t474.toList == a1_0.toList) || (!(t475 == a1_1) || (!(t476 == a1_2) || (!(t477 == a1_3) || (!(t478 == a1_4)))))) = true := c93
            clear c93
            have H' := Aside0.mk H
            clear H
            have hnb94 := NB480_438.out
            have hnc94 := NB438_480.out
            have hnb95 := NB480_439.out
            have hnc95 := NB439_480.out
            have hnb96 := NB480_473.out
            have hnc96 := NB473_480.out
            have hcz97_0 : w87.cell? ⟨gb480, 0, none⟩ = some (.string (⟨#[]⟩ : ByteArray)) := (blk_cell BK480.out 0).trans rfl
            have hcz97_1 : w87.cell? ⟨gb480, 1, none⟩ = some (.int .i64 0) := (blk_cell BK480.out 1).trans rfl
            have hcz97_2 : w87.cell? ⟨gb480, 2, none⟩ = some (.int .i64 0) := (blk_cell BK480.out 2).trans rfl
            have hcz97_3 : w87.cell? ⟨gb480, 3, none⟩ = some (.int .u8 0) := (blk_cell BK480.out 3).trans rfl
            have hcz97_4 : w87.cell? ⟨gb480, 4, none⟩ = some (.int .u64 0) := (blk_cell BK480.out 4).trans rfl
            have hfz97_0 := blk_frozen BK480.out 0
            have hfz97_1 := blk_frozen BK480.out 1
            have hfz97_2 := blk_frozen BK480.out 2
            have hfz97_3 := blk_frozen BK480.out 3
            have hfz97_4 := blk_frozen BK480.out 4
            have hnb98 := NB439_438.out
            have hnc98 := NB438_439.out
            have hnb99 := NB439_473.out
            have hnc99 := NB473_439.out
            have hcz100_0 : w87.cell? ⟨gb439, 0, none⟩ = some (.string a1_0) := (blk_cell BK439.out 0).trans rfl
            have hcz100_1 : w87.cell? ⟨gb439, 1, none⟩ = some (.int .i64 a1_1) := (blk_cell BK439.out 1).trans rfl
            have hcz100_2 : w87.cell? ⟨gb439, 2, none⟩ = some (.int .i64 a1_2) := (blk_cell BK439.out 2).trans rfl
            have hcz100_3 : w87.cell? ⟨gb439, 3, none⟩ = some (.int .u8 a1_3) := (blk_cell BK439.out 3).trans rfl
            have hcz100_4 : w87.cell? ⟨gb439, 4, none⟩ = some (.int .u64 a1_4) := (blk_cell BK439.out 4).trans rfl
            have hfz100_0 := blk_frozen BK439.out 0
            have hfz100_1 := blk_frozen BK439.out 1
            have hfz100_2 := blk_frozen BK439.out 2
            have hfz100_3 := blk_frozen BK439.out 3
            have hfz100_4 := blk_frozen BK439.out 4
            go_wp2
            go_meet
            case rel => exact ⟨_, (true), y5_, H', ⟨by have := HJ5.out; have := HK2.out; first | omega | exact Nat.le_refl _⟩, ⟨y23_⟩, ⟨y22_⟩, ⟨y21_⟩, ⟨y16_⟩, ⟨y13_⟩⟩
           ·rw [if_neg c93] at H
            have c93b0 : (!(t474.toList == a1_0.toList) || (!(t475 == a1_1) || (!(t476 == a1_2) || (!(t477 == a1_3) || (!(t478 == a1_4)))))) = false := by simpa using c93
            clear c93
            replace H := Option.bind_eq_some_iff.mp H
            obtain ⟨t481, A1010, H⟩ := H
            replace H : (manometerlaw17_TokenMinted.j2 k2 a3 a4 t472 (!t481) a1_0 a1_1 a1_2 a1_3 a1_4 t467 t468 t469 t470 t471) = some r := H
            have A101 := Aside0.mk A1010
            clear A1010
            have H' := Aside0.mk H
            clear H
            have hnb102 := NB480_438.out
            have hnc102 := NB438_480.out
            have hnb103 := NB480_439.out
            have hnc103 := NB439_480.out
            have hnb104 := NB480_473.out
            have hnc104 := NB473_480.out
            have hcz105_0 : w87.cell? ⟨gb480, 0, none⟩ = some (.string (⟨#[]⟩ : ByteArray)) := (blk_cell BK480.out 0).trans rfl
            have hcz105_1 : w87.cell? ⟨gb480, 1, none⟩ = some (.int .i64 0) := (blk_cell BK480.out 1).trans rfl
            have hcz105_2 : w87.cell? ⟨gb480, 2, none⟩ = some (.int .i64 0) := (blk_cell BK480.out 2).trans rfl
            have hcz105_3 : w87.cell? ⟨gb480, 3, none⟩ = some (.int .u8 0) := (blk_cell BK480.out 3).trans rfl
            have hcz105_4 : w87.cell? ⟨gb480, 4, none⟩ = some (.int .u64 0) := (blk_cell BK480.out 4).trans rfl
            have hfz105_0 := blk_frozen BK480.out 0
            have hfz105_1 := blk_frozen BK480.out 1
            have hfz105_2 := blk_frozen BK480.out 2
            have hfz105_3 := blk_frozen BK480.out 3
            have hfz105_4 := blk_frozen BK480.out 4
            have hnb106 := NB439_438.out
            have hnc106 := NB438_439.out
            have hnb107 := NB439_473.out
            have hnc107 := NB473_439.out
            have hcz108_0 : w87.cell? ⟨gb439, 0, none⟩ = some (.string a1_0) := (blk_cell BK439.out 0).trans rfl
            have hcz108_1 : w87.cell? ⟨gb439, 1, none⟩ = some (.int .i64 a1_1) := (blk_cell BK439.out 1).trans rfl
            have hcz108_2 : w87.cell? ⟨gb439, 2, none⟩ = some (.int .i64 a1_2) := (blk_cell BK439.out 2).trans rfl
            have hcz108_3 : w87.cell? ⟨gb439, 3, none⟩ = some (.int .u8 a1_3) := (blk_cell BK439.out 3).trans rfl
            have hcz108_4 : w87.cell? ⟨gb439, 4, none⟩ = some (.int .u64 a1_4) := (blk_cell BK439.out 4).trans rfl
            have hfz108_0 := blk_frozen BK439.out 0
            have hfz108_1 := blk_frozen BK439.out 1
            have hfz108_2 := blk_frozen BK439.out 2
            have hfz108_3 := blk_frozen BK439.out 3
            have hfz108_4 := blk_frozen BK439.out 4
            have hnb109 := NB438_473.out
            have hnc109 := NB473_438.out
            have hcz110_0 : w87.cell? ⟨gb438, 0, none⟩ = some (.int .i64 a0_0) := (blk_cell BK438.out 0).trans rfl
            have hcz110_1 : w87.cell? ⟨gb438, 1, none⟩ = some (.string a0_1) := (blk_cell BK438.out 1).trans rfl
            have hfz110_0 := blk_frozen BK438.out 0
            have hfz110_1 := blk_frozen BK438.out 1
            go_wp2_with (first | (go_at_call 20; (with_reducible refine (token_Signed.calls k2 t443 a0_0 a0_1 t481 _ ?side1 A101.out).mono ?_); (case side1 => exact ⟨Tab_below hT.out y13_⟩); rintro e w111 ⟨rfl, hb⟩; have n0_ := Aside0.mk (Kd.R_below (by (with_reducible repeat (first | apply Kd.R_alloc | apply Kd.R_drewN | apply Kd.R_drew)); exact (Kd.R_mono (Kd.R_far (p := ⟨gb480, 4, none⟩) (Kd.R_far (p := ⟨gb480, 3, none⟩) (Kd.R_far (p := ⟨gb480, 2, none⟩) (Kd.R_far (p := ⟨gb480, 1, none⟩) (Kd.R_far (p := ⟨gb480, 0, none⟩) (Kd.R_types HO_13.out BK480.out (by decide)) (fun _ hk => hk.2) (.string t474)) (fun _ hk => hk.2) (.int .i64 t475)) (fun _ hk => hk.2) (.int .i64 t476)) (fun _ hk => hk.2) (.int .u8 t477)) (fun _ hk => hk.2) (.int .u64 t478)) (fun _ h_ => h_.1))) hb); have n1_ := Aside0.mk (blk_below (g := gb438) (o := .cells #[.int .i64 a0_0, .string a0_1] 23 (0, 0)) y23_ hb); have n2_ := Aside0.mk (blk_below (g := gb439) (o := .cells #[.string a1_0, .int .i64 a1_1, .int .i64 a1_2, .int .u8 a1_3, .int .u64 a1_4] 26 (0, 0)) y22_ hb); have n3_ := Aside0.mk (blk_below (g := gb473) (o := .cells #[.string t467, .int .i64 t468, .int .i64 t469, .int .u8 t470, .int .u64 t471] 26 (0, 0)) y21_ hb); have n4_ := Aside0.mk (blk_below (g := gb480) (o := .cells #[.string t474, .int .i64 t475, .int .i64 t476, .int .u8 t477, .int .u64 t478] 26 (0, 0)) y16_ hb); have n5_ := Aside0.mk (below_step y13_ hb); clear HO_13; clear BK438; clear BK439; clear BK473; clear BK480; clear HB; have HO_13 := n0_; have BK438 := n1_; have BK439 := n2_; have BK473 := n3_; have BK480 := n4_; have HB := n5_; clear n0_ n1_ n2_ n3_ n4_ n5_; (try clear hb); (try clear hb2); (try clear hk); (try clear hi)))
            go_meet
            case rel => exact ⟨_, (!t481), y5_, H', ⟨by have := HJ5.out; have := HK2.out; first | omega | exact Nat.le_refl _⟩, ⟨y3_⟩, ⟨y4_⟩, ⟨y65_⟩, ⟨by (with_reducible repeat (first | refine blk_drewN ?_ _ | refine blk_drew ?_ | refine blk_alloc ?_ _)); exact BK480.out⟩, ⟨y13_⟩⟩
          ·rw [if_neg c92] at H
           have c92b0 : (t479 == 0) = false := beq_eq_false_iff_ne.mpr c92
           have c92b1 : (t479 != 0) = true := bne_iff_ne.mpr c92
           (first | rw [c92b0] | (simp only [i64_w, i32_w]; rw [c92b0]) | skip)
           have H' := Aside0.mk H
           clear H
           go_wp2
           go_meet
           case rel => exact ⟨_, (true), y5_, H', ⟨by have := HJ5.out; have := HK2.out; first | omega | exact Nat.le_refl _⟩, ⟨y23_⟩, ⟨y22_⟩, ⟨y21_⟩, ⟨y16_⟩, ⟨y13_⟩⟩
         case rest =>
          clear HC79
          try clear c1
          try clear c2
          try clear p2
          try clear c3
          try clear c4
          try clear p4
          try clear q4
          try clear hx4
          try clear c5
          try clear c6
          try clear p6
          try clear c7
          try clear c8
          try clear c9
          try clear c10
          try clear c11
          try clear c11b0
          try clear c11b1
          try clear c13
          try clear c15
          try clear c15b0
          try clear c15b1
          try clear c17
          try clear c18
          try clear c22
          try clear c23
          try clear c27
          try clear c31
          try clear c31b0
          try clear c31b1
          try clear c32
          try clear c33
          try clear c42
          try clear c42b0
          try clear c43
          try clear c43b0
          try clear c44
          try clear c44b0
          try clear c45
          try clear c45b0
          try clear c45b1
          try clear p45
          try clear q45
          try clear hx45
          try clear c46
          try clear c46b0
          try clear c46b1
          try clear c48
          try clear c49
          try clear c51
          try clear c54
          try clear c56
          try clear c57
          try clear c59
          try clear p64
          try clear c66
          try clear c68
          try clear c69
          try clear c71
          try clear c83
          try clear c84
          try clear c88
          try clear c89
          try clear c90
          try clear c92
          try clear c92b0
          try clear c92b1
          try clear c93
          try clear c93b0
          try clear c94
          try clear c95
          try clear c96
          try clear c98
          try clear c99
          try clear c102
          try clear c103
          try clear c104
          try clear c106
          try clear c107
          try clear c109
          try clear hcz100_0
          try clear hcz100_1
          try clear hcz100_2
          try clear hcz100_3
          try clear hcz100_4
          try clear hcz105_0
          try clear hcz105_1
          try clear hcz105_2
          try clear hcz105_3
          try clear hcz105_4
          try clear hcz108_0
          try clear hcz108_1
          try clear hcz108_2
          try clear hcz108_3
          try clear hcz108_4
          try clear hcz110_0
          try clear hcz110_1
          try clear hcz14_0
          try clear hcz14_1
          try clear hcz18_0
          try clear hcz18_1
          try clear hcz19_0
          try clear hcz19_1
          try clear hcz19_2
          try clear hcz19_3
          try clear hcz19_4
          try clear hcz23_0
          try clear hcz23_1
          try clear hcz24_0
          try clear hcz24_1
          try clear hcz24_2
          try clear hcz24_3
          try clear hcz24_4
          try clear hcz34_0
          try clear hcz34_1
          try clear hcz35_0
          try clear hcz35_1
          try clear hcz35_2
          try clear hcz35_3
          try clear hcz35_4
          try clear hcz37_0
          try clear hcz37_1
          try clear hcz37_2
          try clear hcz37_3
          try clear hcz37_4
          try clear hcz38_0
          try clear hcz38_1
          try clear hcz50_0
          try clear hcz50_1
          try clear hcz50_2
          try clear hcz52_0
          try clear hcz52_1
          try clear hcz52_2
          try clear hcz52_3
          try clear hcz52_4
          try clear hcz53_0
          try clear hcz53_1
          try clear hcz58_0
          try clear hcz58_1
          try clear hcz58_2
          try clear hcz60_0
          try clear hcz60_1
          try clear hcz60_2
          try clear hcz60_3
          try clear hcz60_4
          try clear hcz61_0
          try clear hcz61_1
          try clear hcz70_0
          try clear hcz70_1
          try clear hcz70_2
          try clear hcz72_0
          try clear hcz72_1
          try clear hcz72_2
          try clear hcz72_3
          try clear hcz72_4
          try clear hcz85_0
          try clear hcz85_1
          try clear hcz85_2
          try clear hcz85_3
          try clear hcz85_4
          try clear hcz91_0
          try clear hcz91_1
          try clear hcz91_2
          try clear hcz91_3
          try clear hcz91_4
          try clear hcz97_0
          try clear hcz97_1
          try clear hcz97_2
          try clear hcz97_3
          try clear hcz97_4
          try clear hfz100_0
          try clear hfz100_1
          try clear hfz100_2
          try clear hfz100_3
          try clear hfz100_4
          try clear hfz105_0
          try clear hfz105_1
          try clear hfz105_2
          try clear hfz105_3
          try clear hfz105_4
          try clear hfz108_0
          try clear hfz108_1
          try clear hfz108_2
          try clear hfz108_3
          try clear hfz108_4
          try clear hfz110_0
          try clear hfz110_1
          try clear hfz14_0
          try clear hfz14_1
          try clear hfz18_0
          try clear hfz18_1
          try clear hfz19_0
          try clear hfz19_1
          try clear hfz19_2
          try clear hfz19_3
          try clear hfz19_4
          try clear hfz23_0
          try clear hfz23_1
          try clear hfz24_0
          try clear hfz24_1
          try clear hfz24_2
          try clear hfz24_3
          try clear hfz24_4
          try clear hfz34_0
          try clear hfz34_1
          try clear hfz35_0
          try clear hfz35_1
          try clear hfz35_2
          try clear hfz35_3
          try clear hfz35_4
          try clear hfz37_0
          try clear hfz37_1
          try clear hfz37_2
          try clear hfz37_3
          try clear hfz37_4
          try clear hfz38_0
          try clear hfz38_1
          try clear hfz50_0
          try clear hfz50_1
          try clear hfz50_2
          try clear hfz52_0
          try clear hfz52_1
          try clear hfz52_2
          try clear hfz52_3
          try clear hfz52_4
          try clear hfz53_0
          try clear hfz53_1
          try clear hfz58_0
          try clear hfz58_1
          try clear hfz58_2
          try clear hfz60_0
          try clear hfz60_1
          try clear hfz60_2
          try clear hfz60_3
          try clear hfz60_4
          try clear hfz61_0
          try clear hfz61_1
          try clear hfz70_0
          try clear hfz70_1
          try clear hfz70_2
          try clear hfz72_0
          try clear hfz72_1
          try clear hfz72_2
          try clear hfz72_3
          try clear hfz72_4
          try clear hfz85_0
          try clear hfz85_1
          try clear hfz85_2
          try clear hfz85_3
          try clear hfz85_4
          try clear hfz91_0
          try clear hfz91_1
          try clear hfz91_2
          try clear hfz91_3
          try clear hfz91_4
          try clear hfz97_0
          try clear hfz97_1
          try clear hfz97_2
          try clear hfz97_3
          try clear hfz97_4
          try clear hx453_0
          try clear hx453_1
          try clear hx453_2
          try clear p2
          try clear p453
          try clear q453
          obtain ⟨kq, x111_78, rfl, HA, HJ78, BK438, BK439, BK473, BK480, HB⟩ := hcut
          cases kq with
          | zero => exact absurd HA.out (by simp [manometerlaw17_TokenMinted.j2])
          | succ kj78 =>
           have H := HA.out
           clear HA
           simp only [manometerlaw17_TokenMinted.j2] at H
           by_cases c112 : x111_78 = true
           ·subst c112
            have H1 : (some false) = some r := by rw [if_pos rfl] at H; exact H
            clear H
            have H := H1
            clear H1
            obtain rfl := Option.some.inj H
            go_wp2
            go_ret
            exact ⟨y10_, y13_⟩
           ·replace c112 := Bool.eq_false_iff.mpr c112
            subst c112
            have H1 : (if a3 ≥ a1_2 then (if t472 = 171 then (some (t467.toList == ([] : List UInt8) && (t468 == 0 && (t469 == 0 && (t470 == 0 && (t471 == 0)))))) else (some false)) else (if (Go.bits .and .u8 a1_3 (Go.bits .and .u8 a4 7)) = (Go.bits .and .u8 a4 7) then (if t472 = 0 then (some (t467.toList == a1_0.toList && (t468 == a1_1 && (t469 == a1_2 && (t470 == a1_3 && (t471 == a1_4)))))) else (some false)) else (if t472 = 172 then (some (t467.toList == ([] : List UInt8) && (t468 == 0 && (t469 == 0 && (t470 == 0 && (t471 == 0)))))) else (some false)))) = some r := by rw [if_neg (show ¬ (false = true) by decide)] at H; exact H
            clear H
            have H := H1
            clear H1
            by_cases c113 : a3 ≥ a1_2
            ·rw [if_pos c113] at H
             have c113b0 : decide (a1_2 ≤ a3) = true := decide_eq_true c113
             clear c113
             by_cases c114 : t472 = 171
             ·rw [if_pos c114] at H
              have c114b0 : (t472 == 171) = true := beq_iff_eq.mpr c114
              have c114b1 : (t472 != 171) = false := bne_eq_false_iff_eq.mpr c114
              clear c114
              obtain rfl := Option.some.inj H
              have hnb115 := NB439_438.out
              have hnc115 := NB438_439.out
              have hnb116 := NB439_473.out
              have hnc116 := NB473_439.out
              have hnb117 := NB439_480.out
              have hnc117 := NB480_439.out
              have hcz118_0 : wc.cell? ⟨gb439, 0, none⟩ = some (.string a1_0) := (blk_cell BK439.out 0).trans rfl
              have hcz118_1 : wc.cell? ⟨gb439, 1, none⟩ = some (.int .i64 a1_1) := (blk_cell BK439.out 1).trans rfl
              have hcz118_2 : wc.cell? ⟨gb439, 2, none⟩ = some (.int .i64 a1_2) := (blk_cell BK439.out 2).trans rfl
              have hcz118_3 : wc.cell? ⟨gb439, 3, none⟩ = some (.int .u8 a1_3) := (blk_cell BK439.out 3).trans rfl
              have hcz118_4 : wc.cell? ⟨gb439, 4, none⟩ = some (.int .u64 a1_4) := (blk_cell BK439.out 4).trans rfl
              have hfz118_0 := blk_frozen BK439.out 0
              have hfz118_1 := blk_frozen BK439.out 1
              have hfz118_2 := blk_frozen BK439.out 2
              have hfz118_3 := blk_frozen BK439.out 3
              have hfz118_4 := blk_frozen BK439.out 4
              have hnb119 := NB473_438.out
              have hnc119 := NB438_473.out
              have hnb120 := NB473_480.out
              have hnc120 := NB480_473.out
              have hcz121_0 : wc.cell? ⟨gb473, 0, none⟩ = some (.string t467) := (blk_cell BK473.out 0).trans rfl
              have hcz121_1 : wc.cell? ⟨gb473, 1, none⟩ = some (.int .i64 t468) := (blk_cell BK473.out 1).trans rfl
              have hcz121_2 : wc.cell? ⟨gb473, 2, none⟩ = some (.int .i64 t469) := (blk_cell BK473.out 2).trans rfl
              have hcz121_3 : wc.cell? ⟨gb473, 3, none⟩ = some (.int .u8 t470) := (blk_cell BK473.out 3).trans rfl
              have hcz121_4 : wc.cell? ⟨gb473, 4, none⟩ = some (.int .u64 t471) := (blk_cell BK473.out 4).trans rfl
              have hfz121_0 := blk_frozen BK473.out 0
              have hfz121_1 := blk_frozen BK473.out 1
              have hfz121_2 := blk_frozen BK473.out 2
              have hfz121_3 := blk_frozen BK473.out 3
              have hfz121_4 := blk_frozen BK473.out 4
              go_wp2
              go_ret
              exact ⟨y10_, y13_⟩
             ·rw [if_neg c114] at H
              have c114b0 : (t472 == 171) = false := beq_eq_false_iff_ne.mpr c114
              have c114b1 : (t472 != 171) = true := bne_iff_ne.mpr c114
              obtain rfl := Option.some.inj H
              have hnb122 := NB439_438.out
              have hnc122 := NB438_439.out
              have hnb123 := NB439_473.out
              have hnc123 := NB473_439.out
              have hnb124 := NB439_480.out
              have hnc124 := NB480_439.out
              have hcz125_0 : wc.cell? ⟨gb439, 0, none⟩ = some (.string a1_0) := (blk_cell BK439.out 0).trans rfl
              have hcz125_1 : wc.cell? ⟨gb439, 1, none⟩ = some (.int .i64 a1_1) := (blk_cell BK439.out 1).trans rfl
              have hcz125_2 : wc.cell? ⟨gb439, 2, none⟩ = some (.int .i64 a1_2) := (blk_cell BK439.out 2).trans rfl
              have hcz125_3 : wc.cell? ⟨gb439, 3, none⟩ = some (.int .u8 a1_3) := (blk_cell BK439.out 3).trans rfl
              have hcz125_4 : wc.cell? ⟨gb439, 4, none⟩ = some (.int .u64 a1_4) := (blk_cell BK439.out 4).trans rfl
              have hfz125_0 := blk_frozen BK439.out 0
              have hfz125_1 := blk_frozen BK439.out 1
              have hfz125_2 := blk_frozen BK439.out 2
              have hfz125_3 := blk_frozen BK439.out 3
              have hfz125_4 := blk_frozen BK439.out 4
              go_wp2
              go_ret
              exact ⟨y10_, y13_⟩
            ·rw [if_neg c113] at H
             have c113b0 : decide (a1_2 ≤ a3) = false := decide_eq_false c113
             clear c113
             by_cases c126 : (Go.bits .and .u8 a1_3 (Go.bits .and .u8 a4 7)) = (Go.bits .and .u8 a4 7)
             ·rw [if_pos c126] at H
              have c126b0 : ((Go.bits .and .u8 a1_3 (Go.bits .and .u8 a4 7)) == (Go.bits .and .u8 a4 7)) = true := beq_iff_eq.mpr c126
              have c126b1 : ((Go.bits .and .u8 a1_3 (Go.bits .and .u8 a4 7)) != (Go.bits .and .u8 a4 7)) = false := bne_eq_false_iff_eq.mpr c126
              clear c126
              by_cases c127 : t472 = 0
              ·rw [if_pos c127] at H
               have c127b0 : (t472 == 0) = true := beq_iff_eq.mpr c127
               have c127b1 : (t472 != 0) = false := bne_eq_false_iff_eq.mpr c127
               clear c127
               obtain rfl := Option.some.inj H
               have hnb128 := NB439_438.out
               have hnc128 := NB438_439.out
               have hnb129 := NB439_473.out
               have hnc129 := NB473_439.out
               have hnb130 := NB439_480.out
               have hnc130 := NB480_439.out
               have hcz131_0 : wc.cell? ⟨gb439, 0, none⟩ = some (.string a1_0) := (blk_cell BK439.out 0).trans rfl
               have hcz131_1 : wc.cell? ⟨gb439, 1, none⟩ = some (.int .i64 a1_1) := (blk_cell BK439.out 1).trans rfl
               have hcz131_2 : wc.cell? ⟨gb439, 2, none⟩ = some (.int .i64 a1_2) := (blk_cell BK439.out 2).trans rfl
               have hcz131_3 : wc.cell? ⟨gb439, 3, none⟩ = some (.int .u8 a1_3) := (blk_cell BK439.out 3).trans rfl
               have hcz131_4 : wc.cell? ⟨gb439, 4, none⟩ = some (.int .u64 a1_4) := (blk_cell BK439.out 4).trans rfl
               have hfz131_0 := blk_frozen BK439.out 0
               have hfz131_1 := blk_frozen BK439.out 1
               have hfz131_2 := blk_frozen BK439.out 2
               have hfz131_3 := blk_frozen BK439.out 3
               have hfz131_4 := blk_frozen BK439.out 4
               have hnb132 := NB473_438.out
               have hnc132 := NB438_473.out
               have hnb133 := NB473_480.out
               have hnc133 := NB480_473.out
               have hcz134_0 : wc.cell? ⟨gb473, 0, none⟩ = some (.string t467) := (blk_cell BK473.out 0).trans rfl
               have hcz134_1 : wc.cell? ⟨gb473, 1, none⟩ = some (.int .i64 t468) := (blk_cell BK473.out 1).trans rfl
               have hcz134_2 : wc.cell? ⟨gb473, 2, none⟩ = some (.int .i64 t469) := (blk_cell BK473.out 2).trans rfl
               have hcz134_3 : wc.cell? ⟨gb473, 3, none⟩ = some (.int .u8 t470) := (blk_cell BK473.out 3).trans rfl
               have hcz134_4 : wc.cell? ⟨gb473, 4, none⟩ = some (.int .u64 t471) := (blk_cell BK473.out 4).trans rfl
               have hfz134_0 := blk_frozen BK473.out 0
               have hfz134_1 := blk_frozen BK473.out 1
               have hfz134_2 := blk_frozen BK473.out 2
               have hfz134_3 := blk_frozen BK473.out 3
               have hfz134_4 := blk_frozen BK473.out 4
               go_wp2
               go_ret
               exact ⟨y10_, y13_⟩
              ·rw [if_neg c127] at H
               have c127b0 : (t472 == 0) = false := beq_eq_false_iff_ne.mpr c127
               have c127b1 : (t472 != 0) = true := bne_iff_ne.mpr c127
               obtain rfl := Option.some.inj H
               have hnb135 := NB439_438.out
               have hnc135 := NB438_439.out
               have hnb136 := NB439_473.out
               have hnc136 := NB473_439.out
               have hnb137 := NB439_480.out
               have hnc137 := NB480_439.out
               have hcz138_0 : wc.cell? ⟨gb439, 0, none⟩ = some (.string a1_0) := (blk_cell BK439.out 0).trans rfl
               have hcz138_1 : wc.cell? ⟨gb439, 1, none⟩ = some (.int .i64 a1_1) := (blk_cell BK439.out 1).trans rfl
               have hcz138_2 : wc.cell? ⟨gb439, 2, none⟩ = some (.int .i64 a1_2) := (blk_cell BK439.out 2).trans rfl
               have hcz138_3 : wc.cell? ⟨gb439, 3, none⟩ = some (.int .u8 a1_3) := (blk_cell BK439.out 3).trans rfl
               have hcz138_4 : wc.cell? ⟨gb439, 4, none⟩ = some (.int .u64 a1_4) := (blk_cell BK439.out 4).trans rfl
               have hfz138_0 := blk_frozen BK439.out 0
               have hfz138_1 := blk_frozen BK439.out 1
               have hfz138_2 := blk_frozen BK439.out 2
               have hfz138_3 := blk_frozen BK439.out 3
               have hfz138_4 := blk_frozen BK439.out 4
               go_wp2
               go_ret
               exact ⟨y10_, y13_⟩
             ·rw [if_neg c126] at H
              have c126b0 : ((Go.bits .and .u8 a1_3 (Go.bits .and .u8 a4 7)) == (Go.bits .and .u8 a4 7)) = false := beq_eq_false_iff_ne.mpr c126
              have c126b1 : ((Go.bits .and .u8 a1_3 (Go.bits .and .u8 a4 7)) != (Go.bits .and .u8 a4 7)) = true := bne_iff_ne.mpr c126
              by_cases c139 : t472 = 172
              ·rw [if_pos c139] at H
               have c139b0 : (t472 == 172) = true := beq_iff_eq.mpr c139
               have c139b1 : (t472 != 172) = false := bne_eq_false_iff_eq.mpr c139
               clear c139
               obtain rfl := Option.some.inj H
               have hnb140 := NB439_438.out
               have hnc140 := NB438_439.out
               have hnb141 := NB439_473.out
               have hnc141 := NB473_439.out
               have hnb142 := NB439_480.out
               have hnc142 := NB480_439.out
               have hcz143_0 : wc.cell? ⟨gb439, 0, none⟩ = some (.string a1_0) := (blk_cell BK439.out 0).trans rfl
               have hcz143_1 : wc.cell? ⟨gb439, 1, none⟩ = some (.int .i64 a1_1) := (blk_cell BK439.out 1).trans rfl
               have hcz143_2 : wc.cell? ⟨gb439, 2, none⟩ = some (.int .i64 a1_2) := (blk_cell BK439.out 2).trans rfl
               have hcz143_3 : wc.cell? ⟨gb439, 3, none⟩ = some (.int .u8 a1_3) := (blk_cell BK439.out 3).trans rfl
               have hcz143_4 : wc.cell? ⟨gb439, 4, none⟩ = some (.int .u64 a1_4) := (blk_cell BK439.out 4).trans rfl
               have hfz143_0 := blk_frozen BK439.out 0
               have hfz143_1 := blk_frozen BK439.out 1
               have hfz143_2 := blk_frozen BK439.out 2
               have hfz143_3 := blk_frozen BK439.out 3
               have hfz143_4 := blk_frozen BK439.out 4
               have hnb144 := NB473_438.out
               have hnc144 := NB438_473.out
               have hnb145 := NB473_480.out
               have hnc145 := NB480_473.out
               have hcz146_0 : wc.cell? ⟨gb473, 0, none⟩ = some (.string t467) := (blk_cell BK473.out 0).trans rfl
               have hcz146_1 : wc.cell? ⟨gb473, 1, none⟩ = some (.int .i64 t468) := (blk_cell BK473.out 1).trans rfl
               have hcz146_2 : wc.cell? ⟨gb473, 2, none⟩ = some (.int .i64 t469) := (blk_cell BK473.out 2).trans rfl
               have hcz146_3 : wc.cell? ⟨gb473, 3, none⟩ = some (.int .u8 t470) := (blk_cell BK473.out 3).trans rfl
               have hcz146_4 : wc.cell? ⟨gb473, 4, none⟩ = some (.int .u64 t471) := (blk_cell BK473.out 4).trans rfl
               have hfz146_0 := blk_frozen BK473.out 0
               have hfz146_1 := blk_frozen BK473.out 1
               have hfz146_2 := blk_frozen BK473.out 2
               have hfz146_3 := blk_frozen BK473.out 3
               have hfz146_4 := blk_frozen BK473.out 4
               go_wp2
               go_ret
               exact ⟨y10_, y13_⟩
              ·rw [if_neg c139] at H
               have c139b0 : (t472 == 172) = false := beq_eq_false_iff_ne.mpr c139
               have c139b1 : (t472 != 172) = true := bne_iff_ne.mpr c139
               obtain rfl := Option.some.inj H
               have hnb147 := NB439_438.out
               have hnc147 := NB438_439.out
               have hnb148 := NB439_473.out
               have hnc148 := NB473_439.out
               have hnb149 := NB439_480.out
               have hnc149 := NB480_439.out
               have hcz150_0 : wc.cell? ⟨gb439, 0, none⟩ = some (.string a1_0) := (blk_cell BK439.out 0).trans rfl
               have hcz150_1 : wc.cell? ⟨gb439, 1, none⟩ = some (.int .i64 a1_1) := (blk_cell BK439.out 1).trans rfl
               have hcz150_2 : wc.cell? ⟨gb439, 2, none⟩ = some (.int .i64 a1_2) := (blk_cell BK439.out 2).trans rfl
               have hcz150_3 : wc.cell? ⟨gb439, 3, none⟩ = some (.int .u8 a1_3) := (blk_cell BK439.out 3).trans rfl
               have hcz150_4 : wc.cell? ⟨gb439, 4, none⟩ = some (.int .u64 a1_4) := (blk_cell BK439.out 4).trans rfl
               have hfz150_0 := blk_frozen BK439.out 0
               have hfz150_1 := blk_frozen BK439.out 1
               have hfz150_2 := blk_frozen BK439.out 2
               have hfz150_3 := blk_frozen BK439.out 3
               have hfz150_4 := blk_frozen BK439.out 4
               go_wp2
               go_ret
               exact ⟨y10_, y13_⟩
     ·rw [if_neg c32] at H
      exact absurd H (by simp)
    ·rw [if_neg c31] at H
     have c31b0 : (t444 == 0) = false := beq_eq_false_iff_ne.mpr c31
     have c31b1 : (t444 != 0) = true := bne_iff_ne.mpr c31
     by_cases c151 : t443.toList = ([] : List UInt8)
     ·rw [if_pos c151] at H
      have c151b0 : (t443.toList == ([] : List UInt8)) = true := beq_iff_eq.mpr c151
      have c151b1 : (t443.toList != ([] : List UInt8)) = false := bne_eq_false_iff_eq.mpr c151
      clear c151
      replace H := Option.bind_eq_some_iff.mp H
      obtain ⟨t445, A1520, H⟩ := H
      replace H : (if t445 = 0 then ((token_Keyed.f a0_0 a0_1).bind fun t446 => (if t446 = true then (some (a0_0 != a1_1)) else (some true))) else (some true)) = some r := H
      have A152 := Aside0.mk A1520
      clear A1520
      by_cases c153 : t445 = 0
      ·rw [if_pos c153] at H
       have c153b0 : (t445 == 0) = true := beq_iff_eq.mpr c153
       have c153b1 : (t445 != 0) = false := bne_eq_false_iff_eq.mpr c153
       clear c153
       replace H := Option.bind_eq_some_iff.mp H
       obtain ⟨t446, A1540, H⟩ := H
       replace H : (if t446 = true then (some (a0_0 != a1_1)) else (some true)) = some r := H
       have A154 := Aside0.mk A1540
       clear A1540
       by_cases c155 : t446 = true
       ·subst c155
        have H1 : (some (a0_0 != a1_1)) = some r := by rw [if_pos rfl] at H; exact H
        clear H
        have H := H1
        clear H1
        obtain rfl := Option.some.inj H
        have hnb156 := NB438_439.out
        have hnc156 := NB439_438.out
        have hcz157_0 : wc.cell? ⟨gb438, 0, none⟩ = some (.int .i64 a0_0) := (blk_cell BK438.out 0).trans rfl
        have hcz157_1 : wc.cell? ⟨gb438, 1, none⟩ = some (.string a0_1) := (blk_cell BK438.out 1).trans rfl
        have hfz157_0 := blk_frozen BK438.out 0
        have hfz157_1 := blk_frozen BK438.out 1
        have hcz158_0 : wc.cell? ⟨gb439, 0, none⟩ = some (.string a1_0) := (blk_cell BK439.out 0).trans rfl
        have hcz158_1 : wc.cell? ⟨gb439, 1, none⟩ = some (.int .i64 a1_1) := (blk_cell BK439.out 1).trans rfl
        have hcz158_2 : wc.cell? ⟨gb439, 2, none⟩ = some (.int .i64 a1_2) := (blk_cell BK439.out 2).trans rfl
        have hcz158_3 : wc.cell? ⟨gb439, 3, none⟩ = some (.int .u8 a1_3) := (blk_cell BK439.out 3).trans rfl
        have hcz158_4 : wc.cell? ⟨gb439, 4, none⟩ = some (.int .u64 a1_4) := (blk_cell BK439.out 4).trans rfl
        have hfz158_0 := blk_frozen BK439.out 0
        have hfz158_1 := blk_frozen BK439.out 1
        have hfz158_2 := blk_frozen BK439.out 2
        have hfz158_3 := blk_frozen BK439.out 3
        have hfz158_4 := blk_frozen BK439.out 4
        go_wp2_with (first | ((with_reducible refine gate_callee (f := 10) rfl ?_); refine goesL_ (some 43) rfl rfl Tryd.func10 (by kernel_rfl) rfl #[.agg #[.int .i64 a0_0, .string a0_1], .agg #[.string a1_0, .int .i64 a1_1, .int .i64 a1_2, .int .u8 a1_3, .int .u64 a1_4]] rfl y7_ ?_; (with_reducible refine (token_Mint.calls kj5 a0_0 a0_1 a1_0 a1_1 a1_2 a1_3 a1_4 t443 t444 _ ?side1 A30.out).mono ?_); (case side1 => exact ⟨Tab_below hT.out y1_⟩); rintro e w159 ⟨rfl, hb⟩; refine ⟨_, rfl, ?_⟩; have n0_ := Aside0.mk (blk_below (g := gb438) (o := .cells #[.int .i64 a0_0, .string a0_1] 23 (0, 0)) y3_ hb); have n1_ := Aside0.mk (blk_below (g := gb439) (o := .cells #[.string a1_0, .int .i64 a1_1, .int .i64 a1_2, .int .u8 a1_3, .int .u64 a1_4] 26 (0, 0)) y4_ hb); have n2_ := Aside0.mk (below_step y1_ hb); clear BK438; clear BK439; clear HB; have BK438 := n0_; have BK439 := n1_; have HB := n2_; clear n0_ n1_ n2_; (try clear hb); (try clear hb2); (try clear hk); (try clear hi); have hcz160_0 : w159.cell? ⟨gb439, 0, none⟩ = some (.string a1_0) := (blk_cell BK439.out 0).trans rfl; have hcz160_1 : w159.cell? ⟨gb439, 1, none⟩ = some (.int .i64 a1_1) := (blk_cell BK439.out 1).trans rfl; have hcz160_2 : w159.cell? ⟨gb439, 2, none⟩ = some (.int .i64 a1_2) := (blk_cell BK439.out 2).trans rfl; have hcz160_3 : w159.cell? ⟨gb439, 3, none⟩ = some (.int .u8 a1_3) := (blk_cell BK439.out 3).trans rfl; have hcz160_4 : w159.cell? ⟨gb439, 4, none⟩ = some (.int .u64 a1_4) := (blk_cell BK439.out 4).trans rfl; have hfz160_0 := blk_frozen BK439.out 0; have hfz160_1 := blk_frozen BK439.out 1; have hfz160_2 := blk_frozen BK439.out 2; have hfz160_3 := blk_frozen BK439.out 3; have hfz160_4 := blk_frozen BK439.out 4) | (go_at_call 12; (with_reducible refine (token_Check.calls kj5 a1_0 a1_1 a1_2 a1_3 a1_4 t445 _ A152.out).mono ?_); rintro e w161 ⟨rfl, hb⟩; have n0_ := Aside0.mk (blk_below (g := gb438) (o := .cells #[.int .i64 a0_0, .string a0_1] 23 (0, 0)) y3_ hb); have n1_ := Aside0.mk (blk_below (g := gb439) (o := .cells #[.string a1_0, .int .i64 a1_1, .int .i64 a1_2, .int .u8 a1_3, .int .u64 a1_4] 26 (0, 0)) y4_ hb); have n2_ := Aside0.mk (below_step y1_ hb); clear BK438; clear BK439; clear HB; have BK438 := n0_; have BK439 := n1_; have HB := n2_; clear n0_ n1_ n2_; (try clear hb); (try clear hb2); (try clear hk); (try clear hi); have hcz162_0 : w161.cell? ⟨gb438, 0, none⟩ = some (.int .i64 a0_0) := (blk_cell BK438.out 0).trans rfl; have hcz162_1 : w161.cell? ⟨gb438, 1, none⟩ = some (.string a0_1) := (blk_cell BK438.out 1).trans rfl; have hfz162_0 := blk_frozen BK438.out 0; have hfz162_1 := blk_frozen BK438.out 1) | (go_at_call 16; (with_reducible refine (token_Keyed.calls a0_0 a0_1 true _ A154.out).mono ?_); rintro e w163 ⟨rfl, hb⟩; have n0_ := Aside0.mk (blk_below (g := gb438) (o := .cells #[.int .i64 a0_0, .string a0_1] 23 (0, 0)) y3_ hb); have n1_ := Aside0.mk (blk_below (g := gb439) (o := .cells #[.string a1_0, .int .i64 a1_1, .int .i64 a1_2, .int .u8 a1_3, .int .u64 a1_4] 26 (0, 0)) y4_ hb); have n2_ := Aside0.mk (below_step y1_ hb); clear BK438; clear BK439; clear HB; have BK438 := n0_; have BK439 := n1_; have HB := n2_; clear n0_ n1_ n2_; (try clear hb); (try clear hb2); (try clear hk); (try clear hi); have hcz164_0 : w163.cell? ⟨gb438, 0, none⟩ = some (.int .i64 a0_0) := (blk_cell BK438.out 0).trans rfl; have hcz164_1 : w163.cell? ⟨gb438, 1, none⟩ = some (.string a0_1) := (blk_cell BK438.out 1).trans rfl; have hfz164_0 := blk_frozen BK438.out 0; have hfz164_1 := blk_frozen BK438.out 1; have hcz165_0 : w163.cell? ⟨gb439, 0, none⟩ = some (.string a1_0) := (blk_cell BK439.out 0).trans rfl; have hcz165_1 : w163.cell? ⟨gb439, 1, none⟩ = some (.int .i64 a1_1) := (blk_cell BK439.out 1).trans rfl; have hcz165_2 : w163.cell? ⟨gb439, 2, none⟩ = some (.int .i64 a1_2) := (blk_cell BK439.out 2).trans rfl; have hcz165_3 : w163.cell? ⟨gb439, 3, none⟩ = some (.int .u8 a1_3) := (blk_cell BK439.out 3).trans rfl; have hcz165_4 : w163.cell? ⟨gb439, 4, none⟩ = some (.int .u64 a1_4) := (blk_cell BK439.out 4).trans rfl; have hfz165_0 := blk_frozen BK439.out 0; have hfz165_1 := blk_frozen BK439.out 1; have hfz165_2 := blk_frozen BK439.out 2; have hfz165_3 := blk_frozen BK439.out 3; have hfz165_4 := blk_frozen BK439.out 4))
        go_ret
        exact ⟨y10_, y1_⟩
       ·replace c155 := Bool.eq_false_iff.mpr c155
        subst c155
        have H1 : (some true) = some r := by rw [if_neg (show ¬ (false = true) by decide)] at H; exact H
        clear H
        have H := H1
        clear H1
        obtain rfl := Option.some.inj H
        have hnb166 := NB438_439.out
        have hnc166 := NB439_438.out
        have hcz167_0 : wc.cell? ⟨gb438, 0, none⟩ = some (.int .i64 a0_0) := (blk_cell BK438.out 0).trans rfl
        have hcz167_1 : wc.cell? ⟨gb438, 1, none⟩ = some (.string a0_1) := (blk_cell BK438.out 1).trans rfl
        have hfz167_0 := blk_frozen BK438.out 0
        have hfz167_1 := blk_frozen BK438.out 1
        have hcz168_0 : wc.cell? ⟨gb439, 0, none⟩ = some (.string a1_0) := (blk_cell BK439.out 0).trans rfl
        have hcz168_1 : wc.cell? ⟨gb439, 1, none⟩ = some (.int .i64 a1_1) := (blk_cell BK439.out 1).trans rfl
        have hcz168_2 : wc.cell? ⟨gb439, 2, none⟩ = some (.int .i64 a1_2) := (blk_cell BK439.out 2).trans rfl
        have hcz168_3 : wc.cell? ⟨gb439, 3, none⟩ = some (.int .u8 a1_3) := (blk_cell BK439.out 3).trans rfl
        have hcz168_4 : wc.cell? ⟨gb439, 4, none⟩ = some (.int .u64 a1_4) := (blk_cell BK439.out 4).trans rfl
        have hfz168_0 := blk_frozen BK439.out 0
        have hfz168_1 := blk_frozen BK439.out 1
        have hfz168_2 := blk_frozen BK439.out 2
        have hfz168_3 := blk_frozen BK439.out 3
        have hfz168_4 := blk_frozen BK439.out 4
        go_wp2_with (first | ((with_reducible refine gate_callee (f := 10) rfl ?_); refine goesL_ (some 43) rfl rfl Tryd.func10 (by kernel_rfl) rfl #[.agg #[.int .i64 a0_0, .string a0_1], .agg #[.string a1_0, .int .i64 a1_1, .int .i64 a1_2, .int .u8 a1_3, .int .u64 a1_4]] rfl y7_ ?_; (with_reducible refine (token_Mint.calls kj5 a0_0 a0_1 a1_0 a1_1 a1_2 a1_3 a1_4 t443 t444 _ ?side1 A30.out).mono ?_); (case side1 => exact ⟨Tab_below hT.out y1_⟩); rintro e w169 ⟨rfl, hb⟩; refine ⟨_, rfl, ?_⟩; have n0_ := Aside0.mk (blk_below (g := gb438) (o := .cells #[.int .i64 a0_0, .string a0_1] 23 (0, 0)) y3_ hb); have n1_ := Aside0.mk (blk_below (g := gb439) (o := .cells #[.string a1_0, .int .i64 a1_1, .int .i64 a1_2, .int .u8 a1_3, .int .u64 a1_4] 26 (0, 0)) y4_ hb); have n2_ := Aside0.mk (below_step y1_ hb); clear BK438; clear BK439; clear HB; have BK438 := n0_; have BK439 := n1_; have HB := n2_; clear n0_ n1_ n2_; (try clear hb); (try clear hb2); (try clear hk); (try clear hi); have hcz170_0 : w169.cell? ⟨gb439, 0, none⟩ = some (.string a1_0) := (blk_cell BK439.out 0).trans rfl; have hcz170_1 : w169.cell? ⟨gb439, 1, none⟩ = some (.int .i64 a1_1) := (blk_cell BK439.out 1).trans rfl; have hcz170_2 : w169.cell? ⟨gb439, 2, none⟩ = some (.int .i64 a1_2) := (blk_cell BK439.out 2).trans rfl; have hcz170_3 : w169.cell? ⟨gb439, 3, none⟩ = some (.int .u8 a1_3) := (blk_cell BK439.out 3).trans rfl; have hcz170_4 : w169.cell? ⟨gb439, 4, none⟩ = some (.int .u64 a1_4) := (blk_cell BK439.out 4).trans rfl; have hfz170_0 := blk_frozen BK439.out 0; have hfz170_1 := blk_frozen BK439.out 1; have hfz170_2 := blk_frozen BK439.out 2; have hfz170_3 := blk_frozen BK439.out 3; have hfz170_4 := blk_frozen BK439.out 4) | (go_at_call 12; (with_reducible refine (token_Check.calls kj5 a1_0 a1_1 a1_2 a1_3 a1_4 t445 _ A152.out).mono ?_); rintro e w171 ⟨rfl, hb⟩; have n0_ := Aside0.mk (blk_below (g := gb438) (o := .cells #[.int .i64 a0_0, .string a0_1] 23 (0, 0)) y3_ hb); have n1_ := Aside0.mk (blk_below (g := gb439) (o := .cells #[.string a1_0, .int .i64 a1_1, .int .i64 a1_2, .int .u8 a1_3, .int .u64 a1_4] 26 (0, 0)) y4_ hb); have n2_ := Aside0.mk (below_step y1_ hb); clear BK438; clear BK439; clear HB; have BK438 := n0_; have BK439 := n1_; have HB := n2_; clear n0_ n1_ n2_; (try clear hb); (try clear hb2); (try clear hk); (try clear hi); have hcz172_0 : w171.cell? ⟨gb438, 0, none⟩ = some (.int .i64 a0_0) := (blk_cell BK438.out 0).trans rfl; have hcz172_1 : w171.cell? ⟨gb438, 1, none⟩ = some (.string a0_1) := (blk_cell BK438.out 1).trans rfl; have hfz172_0 := blk_frozen BK438.out 0; have hfz172_1 := blk_frozen BK438.out 1) | (go_at_call 16; (with_reducible refine (token_Keyed.calls a0_0 a0_1 false _ A154.out).mono ?_); rintro e w173 ⟨rfl, hb⟩; have n0_ := Aside0.mk (blk_below (g := gb438) (o := .cells #[.int .i64 a0_0, .string a0_1] 23 (0, 0)) y3_ hb); have n1_ := Aside0.mk (blk_below (g := gb439) (o := .cells #[.string a1_0, .int .i64 a1_1, .int .i64 a1_2, .int .u8 a1_3, .int .u64 a1_4] 26 (0, 0)) y4_ hb); have n2_ := Aside0.mk (below_step y1_ hb); clear BK438; clear BK439; clear HB; have BK438 := n0_; have BK439 := n1_; have HB := n2_; clear n0_ n1_ n2_; (try clear hb); (try clear hb2); (try clear hk); (try clear hi)))
        go_ret
        exact ⟨y10_, y1_⟩
      ·rw [if_neg c153] at H
       have c153b0 : (t445 == 0) = false := beq_eq_false_iff_ne.mpr c153
       have c153b1 : (t445 != 0) = true := bne_iff_ne.mpr c153
       obtain rfl := Option.some.inj H
       have hnb174 := NB438_439.out
       have hnc174 := NB439_438.out
       have hcz175_0 : wc.cell? ⟨gb438, 0, none⟩ = some (.int .i64 a0_0) := (blk_cell BK438.out 0).trans rfl
       have hcz175_1 : wc.cell? ⟨gb438, 1, none⟩ = some (.string a0_1) := (blk_cell BK438.out 1).trans rfl
       have hfz175_0 := blk_frozen BK438.out 0
       have hfz175_1 := blk_frozen BK438.out 1
       have hcz176_0 : wc.cell? ⟨gb439, 0, none⟩ = some (.string a1_0) := (blk_cell BK439.out 0).trans rfl
       have hcz176_1 : wc.cell? ⟨gb439, 1, none⟩ = some (.int .i64 a1_1) := (blk_cell BK439.out 1).trans rfl
       have hcz176_2 : wc.cell? ⟨gb439, 2, none⟩ = some (.int .i64 a1_2) := (blk_cell BK439.out 2).trans rfl
       have hcz176_3 : wc.cell? ⟨gb439, 3, none⟩ = some (.int .u8 a1_3) := (blk_cell BK439.out 3).trans rfl
       have hcz176_4 : wc.cell? ⟨gb439, 4, none⟩ = some (.int .u64 a1_4) := (blk_cell BK439.out 4).trans rfl
       have hfz176_0 := blk_frozen BK439.out 0
       have hfz176_1 := blk_frozen BK439.out 1
       have hfz176_2 := blk_frozen BK439.out 2
       have hfz176_3 := blk_frozen BK439.out 3
       have hfz176_4 := blk_frozen BK439.out 4
       go_wp2_with (first | ((with_reducible refine gate_callee (f := 10) rfl ?_); refine goesL_ (some 43) rfl rfl Tryd.func10 (by kernel_rfl) rfl #[.agg #[.int .i64 a0_0, .string a0_1], .agg #[.string a1_0, .int .i64 a1_1, .int .i64 a1_2, .int .u8 a1_3, .int .u64 a1_4]] rfl y7_ ?_; (with_reducible refine (token_Mint.calls kj5 a0_0 a0_1 a1_0 a1_1 a1_2 a1_3 a1_4 t443 t444 _ ?side1 A30.out).mono ?_); (case side1 => exact ⟨Tab_below hT.out y1_⟩); rintro e w177 ⟨rfl, hb⟩; refine ⟨_, rfl, ?_⟩; have n0_ := Aside0.mk (blk_below (g := gb438) (o := .cells #[.int .i64 a0_0, .string a0_1] 23 (0, 0)) y3_ hb); have n1_ := Aside0.mk (blk_below (g := gb439) (o := .cells #[.string a1_0, .int .i64 a1_1, .int .i64 a1_2, .int .u8 a1_3, .int .u64 a1_4] 26 (0, 0)) y4_ hb); have n2_ := Aside0.mk (below_step y1_ hb); clear BK438; clear BK439; clear HB; have BK438 := n0_; have BK439 := n1_; have HB := n2_; clear n0_ n1_ n2_; (try clear hb); (try clear hb2); (try clear hk); (try clear hi); have hcz178_0 : w177.cell? ⟨gb439, 0, none⟩ = some (.string a1_0) := (blk_cell BK439.out 0).trans rfl; have hcz178_1 : w177.cell? ⟨gb439, 1, none⟩ = some (.int .i64 a1_1) := (blk_cell BK439.out 1).trans rfl; have hcz178_2 : w177.cell? ⟨gb439, 2, none⟩ = some (.int .i64 a1_2) := (blk_cell BK439.out 2).trans rfl; have hcz178_3 : w177.cell? ⟨gb439, 3, none⟩ = some (.int .u8 a1_3) := (blk_cell BK439.out 3).trans rfl; have hcz178_4 : w177.cell? ⟨gb439, 4, none⟩ = some (.int .u64 a1_4) := (blk_cell BK439.out 4).trans rfl; have hfz178_0 := blk_frozen BK439.out 0; have hfz178_1 := blk_frozen BK439.out 1; have hfz178_2 := blk_frozen BK439.out 2; have hfz178_3 := blk_frozen BK439.out 3; have hfz178_4 := blk_frozen BK439.out 4) | (go_at_call 12; (with_reducible refine (token_Check.calls kj5 a1_0 a1_1 a1_2 a1_3 a1_4 t445 _ A152.out).mono ?_); rintro e w179 ⟨rfl, hb⟩; have n0_ := Aside0.mk (blk_below (g := gb438) (o := .cells #[.int .i64 a0_0, .string a0_1] 23 (0, 0)) y3_ hb); have n1_ := Aside0.mk (blk_below (g := gb439) (o := .cells #[.string a1_0, .int .i64 a1_1, .int .i64 a1_2, .int .u8 a1_3, .int .u64 a1_4] 26 (0, 0)) y4_ hb); have n2_ := Aside0.mk (below_step y1_ hb); clear BK438; clear BK439; clear HB; have BK438 := n0_; have BK439 := n1_; have HB := n2_; clear n0_ n1_ n2_; (try clear hb); (try clear hb2); (try clear hk); (try clear hi)))
       go_ret
       exact ⟨y10_, y1_⟩
     ·rw [if_neg c151] at H
      have c151b0 : (t443.toList == ([] : List UInt8)) = false := beq_eq_false_iff_ne.mpr c151
      have c151b1 : (t443.toList != ([] : List UInt8)) = true := bne_iff_ne.mpr c151
      obtain rfl := Option.some.inj H
      have hnb180 := NB438_439.out
      have hnc180 := NB439_438.out
      have hcz181_0 : wc.cell? ⟨gb438, 0, none⟩ = some (.int .i64 a0_0) := (blk_cell BK438.out 0).trans rfl
      have hcz181_1 : wc.cell? ⟨gb438, 1, none⟩ = some (.string a0_1) := (blk_cell BK438.out 1).trans rfl
      have hfz181_0 := blk_frozen BK438.out 0
      have hfz181_1 := blk_frozen BK438.out 1
      have hcz182_0 : wc.cell? ⟨gb439, 0, none⟩ = some (.string a1_0) := (blk_cell BK439.out 0).trans rfl
      have hcz182_1 : wc.cell? ⟨gb439, 1, none⟩ = some (.int .i64 a1_1) := (blk_cell BK439.out 1).trans rfl
      have hcz182_2 : wc.cell? ⟨gb439, 2, none⟩ = some (.int .i64 a1_2) := (blk_cell BK439.out 2).trans rfl
      have hcz182_3 : wc.cell? ⟨gb439, 3, none⟩ = some (.int .u8 a1_3) := (blk_cell BK439.out 3).trans rfl
      have hcz182_4 : wc.cell? ⟨gb439, 4, none⟩ = some (.int .u64 a1_4) := (blk_cell BK439.out 4).trans rfl
      have hfz182_0 := blk_frozen BK439.out 0
      have hfz182_1 := blk_frozen BK439.out 1
      have hfz182_2 := blk_frozen BK439.out 2
      have hfz182_3 := blk_frozen BK439.out 3
      have hfz182_4 := blk_frozen BK439.out 4
      go_wp2_with (first | ((with_reducible refine gate_callee (f := 10) rfl ?_); refine goesL_ (some 43) rfl rfl Tryd.func10 (by kernel_rfl) rfl #[.agg #[.int .i64 a0_0, .string a0_1], .agg #[.string a1_0, .int .i64 a1_1, .int .i64 a1_2, .int .u8 a1_3, .int .u64 a1_4]] rfl y7_ ?_; (with_reducible refine (token_Mint.calls kj5 a0_0 a0_1 a1_0 a1_1 a1_2 a1_3 a1_4 t443 t444 _ ?side1 A30.out).mono ?_); (case side1 => exact ⟨Tab_below hT.out y1_⟩); rintro e w183 ⟨rfl, hb⟩; refine ⟨_, rfl, ?_⟩; have n0_ := Aside0.mk (blk_below (g := gb438) (o := .cells #[.int .i64 a0_0, .string a0_1] 23 (0, 0)) y3_ hb); have n1_ := Aside0.mk (blk_below (g := gb439) (o := .cells #[.string a1_0, .int .i64 a1_1, .int .i64 a1_2, .int .u8 a1_3, .int .u64 a1_4] 26 (0, 0)) y4_ hb); have n2_ := Aside0.mk (below_step y1_ hb); clear BK438; clear BK439; clear HB; have BK438 := n0_; have BK439 := n1_; have HB := n2_; clear n0_ n1_ n2_; (try clear hb); (try clear hb2); (try clear hk); (try clear hi)))
      go_ret
      exact ⟨y10_, y1_⟩
end Go.Proofs.YtkkomfomjpcbfaaDoor.PTS
