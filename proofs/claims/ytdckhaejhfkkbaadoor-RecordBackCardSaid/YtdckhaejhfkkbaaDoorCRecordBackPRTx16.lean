import Derived.Test.YtdckhaejhfkkbaaDoorCRecordBackPRTx0
import Derived.Test.YtdckhaejhfkkbaaDoorCRecordBackPRTx14
import Derived.Test.YtdckhaejhfkkbaaDoorCRecordBackO2
import Derived.Test.YtdckhaejhfkkbaaDoorCRecordBackPRTx2
import Derived.Test.YtdckhaejhfkkbaaDoorCRecordBackY
namespace Go.Proofs.YtdckhaejhfkkbaaDoor.PRT
open Go.RowKit Go.Proofs.YtdckhaejhfkkbaaDoorW.PrintWords Go.Proofs.YtdckhaejhfkkbaaDoorW.PrintLast Go.Proofs.YtdckhaejhfkkbaaDoorW.PrintMore
attribute [local go_sem] max2_int min2_int max_two min_two max_three min_three max_four min_four
set_option linter.unusedVariables false
set_option linter.unusedSimpArgs false
def manometerlaw13_few.l0 : Nat → List (S52) → Int → Int → Int → Int → List (S52) → List (S45) → Option (Bool)
 | 0, _, _, _, _, _, _, _ => none
 | k + 1, x11, x12, x13, x426000, x426001, x426002, x426003 => if x13 < x12 then (if 0 ≤ x13 then (if x13 < (x11.length : Int) then (if (((rd_T52 x11 x13).f0).size : Int) > 300 then (some false) else (if (((rd_T52 x11 x13).f1).size : Int) > 300 then (some false) else (manometerlaw13_few.l0 k x11 x12 (wrap64 (x13 + 1)) x426000 x426001 x426002 x426003))) else (none)) else (none)) else (if (x426002.length : Int) ≤ 40 then (some (decide ((x426003.length : Int) ≤ 400))) else (some false))
def manometerlaw13_few.f (k : Nat) (a0_0 : Int) (a0_1 : Int) (l0_2 : List (S52)) (l0_3 : List (S45)) : Option (Bool) := if 0 ≤ (mn (l0_2.length : Int) 40) then (if (mn (l0_2.length : Int) 40) ≤ (l0_2.length : Int) then ((some (l0_2.take ((mn (l0_2.length : Int) 40) : Int).toNat : List (S52))).bind fun y426 => (manometerlaw13_few.l0 k y426 (y426.length : Int) 0 a0_0 a0_1 l0_2 l0_3)) else (none)) else (none)
set_option maxHeartbeats 8000000 in
set_option maxRecDepth 100000 in
theorem manometerlaw13_few.calls (k : Nat) (a0_0 : Int) (a0_1 : Int) (A0_2 : Option Addr) (c0_2 : Nat) (l0_2 : List (S52)) (A0_3 : Option Addr) (c0_3 : Nat) (l0_3 : List (S45)) (r : Bool) (w : World) (hr0_2 : Kd.C k52 w A0_2 l0_2.length l0_2) (hc0_2 : l0_2.length ≤ c0_2) (hr0_3 : Kd.C k45 w A0_3 l0_3.length l0_3) (hc0_3 : l0_3.length ≤ c0_3) (h : manometerlaw13_few.f k a0_0 a0_1 l0_2 l0_3 = some r) :
  Calls Tryd.prog 12 #[.agg #[.int .i64 a0_0, .int .u32 a0_1, .slice A0_2 l0_2.length c0_2, .slice A0_3 l0_3.length c0_3]] w fun e w' => e = .returned (.bool r) ∧ Below w.heap.size w w' := by
 have hu29 := Tryd.underlying29
 have hu52 := Tryd.underlying52
 have HR0_2 := Aside0.mk hr0_2
 have HC0_2 := Aside0.mk hc0_2
 clear hr0_2 hc0_2
 have HR0_3 := Aside0.mk hr0_3
 have HC0_3 := Aside0.mk hc0_3
 clear hr0_3 hc0_3
 have HB := Aside0.mk (Below.refl w.heap.size w)
 have H : (if 0 ≤ (mn (l0_2.length : Int) 40) then (if (mn (l0_2.length : Int) 40) ≤ (l0_2.length : Int) then ((some (l0_2.take ((mn (l0_2.length : Int) 40) : Int).toNat : List (S52))).bind fun y426 => (manometerlaw13_few.l0 k y426 (y426.length : Int) 0 a0_0 a0_1 l0_2 l0_3)) else (none)) else (none)) = some r := h
 clear h
 obtain ⟨ji2, hji2⟩ : ∃ j_ : Int, (mn (l0_2.length : Int) 40) = j_ := ⟨_, rfl⟩
 replace H : (if 0 ≤ (ji2) then (if (ji2) ≤ (l0_2.length : Int) then ((some (l0_2.take ((ji2) : Int).toNat : List (S52))).bind fun y426 => (manometerlaw13_few.l0 k y426 (y426.length : Int) 0 a0_0 a0_1 l0_2 l0_3)) else (none)) else (none)) = some r := by first | (rw [hji2] at H; exact H) | (simp only [hji2] at H ⊢; exact H)
 (try (have hji2h : ji2 ≤ 40 := by (rw [← hji2]; unfold mn; (repeat' split) <;> omega)))
 (try (have hji2g : ji2 ≤ 64 := by omega))
 (try (have hji2l : 0 ≤ ji2 := by (rw [← hji2]; unfold mn; (repeat' split) <;> omega)))
 (try (have hji2m : 0 ≤ ji2 := by omega))
 have hji2_ : (if 40 < (l0_2.length : Int) then 40 else (l0_2.length : Int)) = ji2 := hji2
 by_cases c3 : 0 ≤ (ji2)
 ·rw [if_pos c3] at H
  have c3b0 := eq_true c3
  have c3b1 : decide (0 ≤ (ji2)) = true := decide_eq_true c3
  clear c3
  by_cases c4 : (ji2) ≤ (l0_2.length : Int)
  ·rw [if_pos c4] at H
   have c4b0 := eq_true c4
   have c4b1 : decide ((ji2) ≤ (l0_2.length : Int)) = true := decide_eq_true c4
   clear c4
   obtain ⟨y426, hy426⟩ : ∃ y_ : List (S52), y_ = (l0_2.take ((ji2) : Int).toNat) := ⟨_, rfl⟩
   replace H : (manometerlaw13_few.l0 k y426 (y426.length : Int) 0 a0_0 a0_1 l0_2 l0_3) = some r := by first | (rw [hy426]; with_reducible exact H) | (have H2_ := (Option.bind_some _ _).symm.trans H; rw [hy426]; with_reducible exact H2_) | (have H2_ := (Option.bind_some _ _).symm.trans H; with_reducible exact H2_) | with_reducible exact H | (rw [hy426]; exact H) | exact H
   have Ny426 := Aside0.mk hy426
   clear hy426
   have H' := Aside0.mk H
   clear H
   go_enter Tryd.func12, Tryd.ntmps12
   go_wp2_with (first | ((with_reducible refine gate_dst (N := 1) rfl ?_); (try (refine gate_guard (by rfl) ?_; dsimp only)); refine box_event ?hg (N := 1) ?hd (cs := #[.int .i64 a0_0, .int .u32 a0_1, .slice A0_2 l0_2.length c0_2, .slice A0_3 l0_3.length c0_3]) (t := 29) ?hr ?_; (case hd => rfl); (case hg => rfl); (case hr => first | (go_simp; done) | (go_simp; rfl)); intro gb425 hg w5 hbox hb; have n0_ := Aside0.mk (below_step y1_ hb); have n1_ := Aside0.mk (hbox); have n2_ := Aside0.mk ((y29_ : w.heap.size ≤ gb425)); have n3_ := Aside0.mk ((y29_ : w.heap.size ≤ gb425)); clear HB; have HB := n0_; have BK425 := n1_; have GW425 := n2_; have GE425 := n3_; clear n0_ n1_ n2_ n3_; clear hb hbox hg; have hcz6_0 : w5.cell? ⟨gb425, 0, none⟩ = some (.int .i64 a0_0) := (blk_cell BK425.out 0).trans rfl; have hcz6_1 : w5.cell? ⟨gb425, 1, none⟩ = some (.int .u32 a0_1) := (blk_cell BK425.out 1).trans rfl; have hcz6_2 : w5.cell? ⟨gb425, 2, none⟩ = some (.slice A0_2 l0_2.length c0_2) := (blk_cell BK425.out 2).trans rfl; have hcz6_3 : w5.cell? ⟨gb425, 3, none⟩ = some (.slice A0_3 l0_3.length c0_3) := (blk_cell BK425.out 3).trans rfl; have hfz6_0 := blk_frozen BK425.out 0; have hfz6_1 := blk_frozen BK425.out 1; have hfz6_2 := blk_frozen BK425.out 2; have hfz6_3 := blk_frozen BK425.out 3; have q7 : ((ji2) : Int) ≤ ((l0_2.length : Int) : Int) := of_decide_eq_true y7_; obtain ⟨i07, hi07, _, hsz7, _⟩ := info_parts info52; have hroom7 : l0_2.length ≤ c0_2 := HC0_2.out; have hC7 : Kd.C k52 _ A0_2 l0_2.length l0_2 := HR0_2.out; have hcut7 := cut_to (P := Tryd.prog) 26 52 .i64 Tryd.underlying26 hi07 A0_2 l0_2.length c0_2 (ji2) (of_decide_eq_true y7_) q7 hroom7; have hr7 := Kd.C_take (m := ((ji2) : Int).toNat) hC7 (by omega); have hy7 : y426.length = ((ji2) : Int).toNat := (by rw [Ny426.out, List.length_take]; omega); rw [← Ny426.out] at hr7; rw [← hy7] at hcut7; have HR429 := Aside0.mk hr7; have HC429 := Aside0.mk (show y426.length ≤ c0_2 from by omega); clear hr7 hC7 hroom7 hi07 hsz7; have KY7 := Aside0.mk hy7; clear hy7; replace q7 := eq_true q7))
   go_loopg [13] k (fun kq v13 w' => ∃ (x13_1 : Int), v13 = .int .i64 x13_1 ∧ Aside0 (manometerlaw13_few.l0 kq y426 (y426.length : Int) x13_1 a0_0 a0_1 l0_2 l0_3 = some r) ∧ Aside0 (kq ≤ k) ∧ Aside0 (w'.heap[gb425]? = some (.cells #[.int .i64 a0_0, .int .u32 a0_1, (.slice A0_2 l0_2.length c0_2), (.slice A0_3 l0_3.length c0_3)] 29 (0, 0))) ∧ Aside0 (Below w.heap.size w w'))
   case atStart => exact ⟨(0), y15_, H', ⟨Nat.le_refl _⟩, ⟨y47_⟩, ⟨y34_⟩⟩
   case round =>
    clear H'
    try clear c1
    try clear p2
    try clear c3
    try clear c3b0
    try clear c3b1
    try clear c4
    try clear c4b0
    try clear c4b1
    try clear q7
    try clear hcz6_0
    try clear hcz6_1
    try clear hcz6_2
    try clear hcz6_3
    try clear hfz6_0
    try clear hfz6_1
    try clear hfz6_2
    try clear hfz6_3
    try clear q7
    obtain ⟨x13_1, rfl, HA, HK1, BK425, HB⟩ := hrel
    cases gk with
    | zero => exact absurd HA.out (by simp [manometerlaw13_few.l0])
    | succ k1 =>
     have H := HA.out
     clear HA
     simp only [manometerlaw13_few.l0] at H
     by_cases c8 : x13_1 < (y426.length : Int)
     ·rw [if_pos c8] at H
      have c8b0 : decide (x13_1 < (y426.length : Int)) = true := decide_eq_true c8
      clear c8
      by_cases c9 : 0 ≤ x13_1
      ·rw [if_pos c9] at H
       have c9b0 : decide (0 ≤ x13_1) = true := decide_eq_true c9
       clear c9
       by_cases c10 : x13_1 < (y426.length : Int)
       ·rw [if_pos c10] at H
        have c10b0 : decide (x13_1 < (y426.length : Int)) = true := decide_eq_true c10
        clear c10
        by_cases c11 : (((rd_T52 y426 x13_1).f0).size : Int) > 300
        ·rw [if_pos c11] at H
         have c11b0 : decide (300 < (((rd_T52 y426 x13_1).f0).size : Int)) = true := decide_eq_true c11
         have c11b1 : decide (300 < ((rd_T52 y426 x13_1).f0).size) = true := decide_eq_true (by omega)
         clear c11
         obtain rfl := Option.some.inj H
         have p430 : 0 ≤ (x13_1 : Int) := of_decide_eq_true y7_
         have q430 : x13_1 < (y426.length : Int) := of_decide_eq_true y7_
         obtain ⟨ad430, e430, hx430_0, hx430_1⟩ := at_T52 HR429.out x13_1 p430 q430
         cases e430
         replace hx430_0 := (HB.out.cell (World.block_lt_of_cell? w _ hx430_0)).trans hx430_0
         replace hx430_1 := (HB.out.cell (World.block_lt_of_cell? w _ hx430_1)).trans hx430_1
         replace p430 := eq_true p430
         replace q430 := eq_true q430
         go_wp2_with (first | ((with_reducible refine gate_dst (N := 4) rfl ?_); (try (refine gate_guard (by rfl) ?_; dsimp only)); refine box_event ?hg (N := 4) ?hd (cs := #[.string (⟨#[]⟩ : ByteArray), .string (⟨#[]⟩ : ByteArray)]) (t := 52) ?hr ?_; (case hd => rfl); (case hg => rfl); (case hr => first | (go_simp; done) | (go_simp; rfl)); intro gb431 hg w12 hbox hb; have n0_ := Aside0.mk (blk_below (g := gb425) (o := .cells #[.int .i64 a0_0, .int .u32 a0_1, .slice (some ad430) l0_2.length c0_2, .slice A0_3 l0_3.length c0_3] 29 (0, 0)) y47_ hb); have n1_ := Aside0.mk (below_step y34_ hb); have n2_ := Aside0.mk (hbox); have n3_ := Aside0.mk ((by rw [hg]; exact (below_size y34_) : w.heap.size ≤ gb431)); have n4_ := Aside0.mk ((by rw [hg]; exact (below_size y34_) : w.heap.size ≤ gb431)); have n5_ := Aside0.mk ((y86_ : gb425 ≠ gb431)); have n6_ := Aside0.mk ((y88_ : gb431 ≠ gb425)); clear BK425; clear HB; have BK425 := n0_; have HB := n1_; have BK431 := n2_; have GW431 := n3_; have GE431 := n4_; have NB425_431 := n5_; have NB431_425 := n6_; clear n0_ n1_ n2_ n3_ n4_ n5_ n6_; clear hb hbox hg; have hnb13 := NB431_425.out; have hnc13 := NB425_431.out; have hcz14_0 : w12.cell? ⟨gb431, 0, none⟩ = some (.string (⟨#[]⟩ : ByteArray)) := (blk_cell BK431.out 0).trans rfl; have hcz14_1 : w12.cell? ⟨gb431, 1, none⟩ = some (.string (⟨#[]⟩ : ByteArray)) := (blk_cell BK431.out 1).trans rfl; have hfz14_0 := blk_frozen BK431.out 0; have hfz14_1 := blk_frozen BK431.out 1))
         go_ret
         exact ⟨y67_, y82_⟩
        ·rw [if_neg c11] at H
         have c11b0 : decide (300 < (((rd_T52 y426 x13_1).f0).size : Int)) = false := decide_eq_false c11
         have c11b1 : decide (300 < ((rd_T52 y426 x13_1).f0).size) = false := decide_eq_false (by omega)
         clear c11
         by_cases c15 : (((rd_T52 y426 x13_1).f1).size : Int) > 300
         ·rw [if_pos c15] at H
          have c15b0 : decide (300 < (((rd_T52 y426 x13_1).f1).size : Int)) = true := decide_eq_true c15
          have c15b1 : decide (300 < ((rd_T52 y426 x13_1).f1).size) = true := decide_eq_true (by omega)
          clear c15
          obtain rfl := Option.some.inj H
          have p430 : 0 ≤ (x13_1 : Int) := of_decide_eq_true y7_
          have q430 : x13_1 < (y426.length : Int) := of_decide_eq_true y7_
          obtain ⟨ad430, e430, hx430_0, hx430_1⟩ := at_T52 HR429.out x13_1 p430 q430
          cases e430
          replace hx430_0 := (HB.out.cell (World.block_lt_of_cell? w _ hx430_0)).trans hx430_0
          replace hx430_1 := (HB.out.cell (World.block_lt_of_cell? w _ hx430_1)).trans hx430_1
          replace p430 := eq_true p430
          replace q430 := eq_true q430
          go_wp2_with (first | ((with_reducible refine gate_dst (N := 4) rfl ?_); (try (refine gate_guard (by rfl) ?_; dsimp only)); refine box_event ?hg (N := 4) ?hd (cs := #[.string (⟨#[]⟩ : ByteArray), .string (⟨#[]⟩ : ByteArray)]) (t := 52) ?hr ?_; (case hd => rfl); (case hg => rfl); (case hr => first | (go_simp; done) | (go_simp; rfl)); intro gb431 hg w16 hbox hb; have n0_ := Aside0.mk (blk_below (g := gb425) (o := .cells #[.int .i64 a0_0, .int .u32 a0_1, .slice (some ad430) l0_2.length c0_2, .slice A0_3 l0_3.length c0_3] 29 (0, 0)) y47_ hb); have n1_ := Aside0.mk (below_step y34_ hb); have n2_ := Aside0.mk (hbox); have n3_ := Aside0.mk ((by rw [hg]; exact (below_size y34_) : w.heap.size ≤ gb431)); have n4_ := Aside0.mk ((by rw [hg]; exact (below_size y34_) : w.heap.size ≤ gb431)); have n5_ := Aside0.mk ((y86_ : gb425 ≠ gb431)); have n6_ := Aside0.mk ((y88_ : gb431 ≠ gb425)); clear BK425; clear HB; have BK425 := n0_; have HB := n1_; have BK431 := n2_; have GW431 := n3_; have GE431 := n4_; have NB425_431 := n5_; have NB431_425 := n6_; clear n0_ n1_ n2_ n3_ n4_ n5_ n6_; clear hb hbox hg; have hnb17 := NB431_425.out; have hnc17 := NB425_431.out; have hcz18_0 : w16.cell? ⟨gb431, 0, none⟩ = some (.string (⟨#[]⟩ : ByteArray)) := (blk_cell BK431.out 0).trans rfl; have hcz18_1 : w16.cell? ⟨gb431, 1, none⟩ = some (.string (⟨#[]⟩ : ByteArray)) := (blk_cell BK431.out 1).trans rfl; have hfz18_0 := blk_frozen BK431.out 0; have hfz18_1 := blk_frozen BK431.out 1))
          go_ret
          exact ⟨y67_, y82_⟩
         ·rw [if_neg c15] at H
          have c15b0 : decide (300 < (((rd_T52 y426 x13_1).f1).size : Int)) = false := decide_eq_false c15
          have c15b1 : decide (300 < ((rd_T52 y426 x13_1).f1).size) = false := decide_eq_false (by omega)
          clear c15
          have H' := Aside0.mk H
          clear H
          have p430 : 0 ≤ (x13_1 : Int) := of_decide_eq_true y7_
          have q430 : x13_1 < (y426.length : Int) := of_decide_eq_true y7_
          obtain ⟨ad430, e430, hx430_0, hx430_1⟩ := at_T52 HR429.out x13_1 p430 q430
          cases e430
          replace hx430_0 := (HB.out.cell (World.block_lt_of_cell? w _ hx430_0)).trans hx430_0
          replace hx430_1 := (HB.out.cell (World.block_lt_of_cell? w _ hx430_1)).trans hx430_1
          replace p430 := eq_true p430
          replace q430 := eq_true q430
          go_wp2_with (first | ((with_reducible refine gate_dst (N := 4) rfl ?_); (try (refine gate_guard (by rfl) ?_; dsimp only)); refine box_event ?hg (N := 4) ?hd (cs := #[.string (⟨#[]⟩ : ByteArray), .string (⟨#[]⟩ : ByteArray)]) (t := 52) ?hr ?_; (case hd => rfl); (case hg => rfl); (case hr => first | (go_simp; done) | (go_simp; rfl)); intro gb431 hg w19 hbox hb; have n0_ := Aside0.mk (blk_below (g := gb425) (o := .cells #[.int .i64 a0_0, .int .u32 a0_1, .slice (some ad430) l0_2.length c0_2, .slice A0_3 l0_3.length c0_3] 29 (0, 0)) y47_ hb); have n1_ := Aside0.mk (below_step y34_ hb); have n2_ := Aside0.mk (hbox); have n3_ := Aside0.mk ((by rw [hg]; exact (below_size y34_) : w.heap.size ≤ gb431)); have n4_ := Aside0.mk ((by rw [hg]; exact (below_size y34_) : w.heap.size ≤ gb431)); have n5_ := Aside0.mk ((y86_ : gb425 ≠ gb431)); have n6_ := Aside0.mk ((y88_ : gb431 ≠ gb425)); clear BK425; clear HB; have BK425 := n0_; have HB := n1_; have BK431 := n2_; have GW431 := n3_; have GE431 := n4_; have NB425_431 := n5_; have NB431_425 := n6_; clear n0_ n1_ n2_ n3_ n4_ n5_ n6_; clear hb hbox hg; have hnb20 := NB431_425.out; have hnc20 := NB425_431.out; have hcz21_0 : w19.cell? ⟨gb431, 0, none⟩ = some (.string (⟨#[]⟩ : ByteArray)) := (blk_cell BK431.out 0).trans rfl; have hcz21_1 : w19.cell? ⟨gb431, 1, none⟩ = some (.string (⟨#[]⟩ : ByteArray)) := (blk_cell BK431.out 1).trans rfl; have hfz21_0 := blk_frozen BK431.out 0; have hfz21_1 := blk_frozen BK431.out 1))
          go_roundg k1
          case measure => have := HK1.out; omega
          case rel => exact ⟨(wrap64 (x13_1 + 1)), y15_, H', ⟨by have := HK1.out; omega⟩, ⟨by (with_reducible repeat (first | refine blk_drewN ?_ _ | refine blk_drew ?_ | refine blk_alloc ?_ _)); refine blk_far ?_ NB425_431.out _; (with_reducible repeat (first | refine blk_drewN ?_ _ | refine blk_drew ?_ | refine blk_alloc ?_ _)); refine blk_far ?_ NB425_431.out _; (with_reducible repeat (first | refine blk_drewN ?_ _ | refine blk_drew ?_ | refine blk_alloc ?_ _)); exact BK425.out⟩, ⟨y82_⟩⟩
       ·rw [if_neg c10] at H
        exact absurd H (by simp)
      ·rw [if_neg c9] at H
       exact absurd H (by simp)
     ·rw [if_neg c8] at H
      have c8b0 : decide (x13_1 < (y426.length : Int)) = false := decide_eq_false c8
      clear c8
      by_cases c22 : (l0_2.length : Int) ≤ 40
      ·rw [if_pos c22] at H
       have c22b0 : decide ((l0_2.length : Int) ≤ 40) = true := decide_eq_true c22
       have c22b1 : decide (l0_2.length ≤ 40) = true := decide_eq_true (by omega)
       clear c22
       obtain rfl := Option.some.inj H
       have hcz23_0 : wr.cell? ⟨gb425, 0, none⟩ = some (.int .i64 a0_0) := (blk_cell BK425.out 0).trans rfl
       have hcz23_1 : wr.cell? ⟨gb425, 1, none⟩ = some (.int .u32 a0_1) := (blk_cell BK425.out 1).trans rfl
       have hcz23_2 : wr.cell? ⟨gb425, 2, none⟩ = some (.slice A0_2 l0_2.length c0_2) := (blk_cell BK425.out 2).trans rfl
       have hcz23_3 : wr.cell? ⟨gb425, 3, none⟩ = some (.slice A0_3 l0_3.length c0_3) := (blk_cell BK425.out 3).trans rfl
       have hfz23_0 := blk_frozen BK425.out 0
       have hfz23_1 := blk_frozen BK425.out 1
       have hfz23_2 := blk_frozen BK425.out 2
       have hfz23_3 := blk_frozen BK425.out 3
       go_wp2
       go_ret
       exact ⟨y67_, y34_⟩
      ·rw [if_neg c22] at H
       have c22b0 : decide ((l0_2.length : Int) ≤ 40) = false := decide_eq_false c22
       have c22b1 : decide (l0_2.length ≤ 40) = false := decide_eq_false (by omega)
       clear c22
       obtain rfl := Option.some.inj H
       have hcz24_0 : wr.cell? ⟨gb425, 0, none⟩ = some (.int .i64 a0_0) := (blk_cell BK425.out 0).trans rfl
       have hcz24_1 : wr.cell? ⟨gb425, 1, none⟩ = some (.int .u32 a0_1) := (blk_cell BK425.out 1).trans rfl
       have hcz24_2 : wr.cell? ⟨gb425, 2, none⟩ = some (.slice A0_2 l0_2.length c0_2) := (blk_cell BK425.out 2).trans rfl
       have hcz24_3 : wr.cell? ⟨gb425, 3, none⟩ = some (.slice A0_3 l0_3.length c0_3) := (blk_cell BK425.out 3).trans rfl
       have hfz24_0 := blk_frozen BK425.out 0
       have hfz24_1 := blk_frozen BK425.out 1
       have hfz24_2 := blk_frozen BK425.out 2
       have hfz24_3 := blk_frozen BK425.out 3
       go_wp2
       go_ret
       exact ⟨y67_, y34_⟩
  ·rw [if_neg c4] at H
   exact absurd H (by simp)
 ·rw [if_neg c3] at H
  exact absurd H (by simp)
mutual
def manometerref13_Check.j0 : Nat → Bool → Int → Int → List (S52) → List (S45) → Option (Int)
 | 0, _, _, _, _, _ => none
 | k + 1, x37, x433000, x433001, x433002, x433003 => if x37 = true then (some 1) else (if (x433003.length : Int) > 256 then (some 3) else (manometerref13_Check.l0 k x433003 (x433003.length : Int) 0))
def manometerref13_Check.l0 : Nat → List (S45) → Int → Int → Option (Int)
 | 0, _, _, _ => none
 | k + 1, x43, x44, x45 => if x45 < x44 then (if 0 ≤ x45 then (if x45 < (x43.length : Int) then (if ((rd_T45 x43 x45).f0) = 0 then (some 1) else (if ((rd_T45 x43 x45).f1.f2) = 0 then (some 1) else (manometerref13_Check.l0 k x43 x44 (wrap64 (x45 + 1))))) else (none)) else (none)) else (some 0)
end
def manometerref13_Check.f (k : Nat) (a0_0 : Int) (a0_1 : Int) (l0_2 : List (S52)) (l0_3 : List (S45)) : Option (Int) := if a0_0 = 1 then (if a0_1 = 0 then (some 1) else (if (l0_3.length : Int) > 0 then (some 1) else ((manometerref05_Right.f k l0_2).bind fun t433 => (some t433)))) else (if a0_0 = 2 then (if a0_1 = 0 then (if (l0_2.length : Int) > 0 then (manometerref13_Check.j0 k true a0_0 a0_1 l0_2 l0_3) else (manometerref13_Check.j0 k ((l0_3.length : Int) == 0) a0_0 a0_1 l0_2 l0_3)) else (manometerref13_Check.j0 k true a0_0 a0_1 l0_2 l0_3)) else (some 130))
def manometerref01_Join.l0 : Nat → List Int → List (List Int) → Int → Int → Option (List Int)
 | 0, _, _, _, _ => none
 | k + 1, x3, x7, x8, x9 => if x9 < x8 then (if 0 ≤ x9 then (if x9 < (x7.length : Int) then (if x3.length + (rd_L9 x7 x9).length < 140737488355328 then (manometerref01_Join.l0 k (x3 ++ (rd_L9 x7 x9)) x7 x8 (wrap64 (x9 + 1))) else (none)) else (none)) else (none)) else (some x3)
def manometerref01_Join.f (k : Nat) (l0 : List (List Int)) : Option (List Int) := manometerref01_Join.l0 k (([] : List Int)) l0 (l0.length : Int) 0
set_option maxHeartbeats 8000000 in
set_option maxRecDepth 100000 in
theorem manometerref01_Join.calls (k : Nat) (A0 : Option Addr) (c0 : Nat) (l0 : List (List Int)) (r : List Int) (w : World) (hr0 : Kd.C (Kd.slice 5 (Kd.int .u8)) w A0 l0.length l0) (hc0 : l0.length ≤ c0) (h : manometerref01_Join.f k l0 = some r) :
  Calls Tryd.prog 20 #[.slice A0 l0.length c0] w fun e w' => ∃ v0_ : Value, e = .returned (v0_) ∧ Kd.R (Kd.int .u8) 5 w' w.heap.size (fun _ => True) v0_ r ∧ Below w.heap.size w w' := by
 have HR0 := Aside0.mk hr0
 have HC0 := Aside0.mk hc0
 clear hr0 hc0
 have HB := Aside0.mk (Below.refl w.heap.size w)
 have H : (manometerref01_Join.l0 k (([] : List Int)) l0 (l0.length : Int) 0) = some r := h
 clear h
 obtain ⟨y436, hy436⟩ : ∃ y_ : List Int, y_ = (([] : List Int)) := ⟨_, rfl⟩
 replace H : (manometerref01_Join.l0 k y436 l0 (l0.length : Int) 0) = some r := by first | (rw [hy436]; with_reducible exact H) | (have H2_ := (Option.bind_some _ _).symm.trans H; rw [hy436]; with_reducible exact H2_) | (have H2_ := (Option.bind_some _ _).symm.trans H; with_reducible exact H2_) | with_reducible exact H | (rw [hy436]; exact H) | exact H
 have Ny436 := Aside0.mk hy436
 clear hy436
 have H' := Aside0.mk H
 clear H
 go_enter Tryd.func20, Tryd.ntmps20
 go_wp2_with (first | ((with_reducible refine gate_dst (N := 6) rfl ?_); refine Kd.R_lit (Kd.int .u8) _ 5 ?hg (N := 6) ?hd (xs := ([] : List Int)) (inner := []) (ok := fun _ => True) (okp := fun _ => True) ?hr ?hp (fun _ hk => hk) trivial (Below.refl _ _) (Nat.le_refl _) (by simp) ?_; (case hd => rfl); (case hg => rfl); (case hr => first | (go_simp; done) | (go_simp; rfl)); (case hp => exact (Reps.none _ _)); intro v437 w2 ho3 hb hg_ hnew_; clear hg_ hnew_; (first | rw [← Ny436.out] at ho3 | (simp only [Int.reduceToNat] at ho3; rw [← Ny436.out] at ho3)); have n0_ := Aside0.mk (Kd.R_lower ho3 (below_size y1_)); have n1_ := Aside0.mk (below_step y1_ hb); clear HB; have HO438 := n0_; have HB := n1_; clear n0_ n1_; clear hb ho3))
 go_loopg [3, 9] k (fun kq v3 v9 w' => ∃ (x3_1 : List Int) (x9_1 : Int), v9 = .int .i64 x9_1 ∧ Aside0 (manometerref01_Join.l0 kq x3_1 l0 (l0.length : Int) x9_1 = some r) ∧ Aside0 (kq ≤ k) ∧ Aside0 (Kd.R (Kd.int .u8) 5 w' w.heap.size (fun _ => True) v3 x3_1) ∧ Aside0 (Below w.heap.size w w'))
 case atStart => exact ⟨(y436), (0), y15_, H', ⟨Nat.le_refl _⟩, ⟨by (with_reducible repeat (first | apply Kd.R_alloc | apply Kd.R_drewN | apply Kd.R_drew)); exact HO438.out⟩, ⟨y1_⟩⟩
 case round =>
  clear H'
  try clear c2
  try clear p2
  obtain ⟨x3_1, x9_1, rfl, HA, HK1, HO_3, HB⟩ := hrel
  cases gk with
  | zero => exact absurd HA.out (by simp [manometerref01_Join.l0])
  | succ k1 =>
   have H := HA.out
   clear HA
   simp only [manometerref01_Join.l0] at H
   by_cases c4 : x9_1 < (l0.length : Int)
   ·rw [if_pos c4] at H
    have c4b0 : decide (x9_1 < (l0.length : Int)) = true := decide_eq_true c4
    clear c4
    by_cases c5 : 0 ≤ x9_1
    ·rw [if_pos c5] at H
     have c5b0 : decide (0 ≤ x9_1) = true := decide_eq_true c5
     clear c5
     by_cases c6 : x9_1 < (l0.length : Int)
     ·rw [if_pos c6] at H
      have c6b0 : decide (x9_1 < (l0.length : Int)) = true := decide_eq_true c6
      clear c6
      by_cases c7 : x3_1.length + (rd_L9 l0 x9_1).length < 140737488355328
      ·rw [if_pos c7] at H
       have LMc7 := Aside0.mk c7
       clear c7
       obtain ⟨y440, hy440⟩ : ∃ y_ : List Int, y_ = (x3_1 ++ (rd_L9 l0 x9_1)) := ⟨_, rfl⟩
       replace H : (manometerref01_Join.l0 k1 y440 l0 (l0.length : Int) (wrap64 (x9_1 + 1))) = some r := by first | (rw [hy440]; with_reducible exact H) | (have H2_ := (Option.bind_some _ _).symm.trans H; rw [hy440]; with_reducible exact H2_) | (have H2_ := (Option.bind_some _ _).symm.trans H; with_reducible exact H2_) | with_reducible exact H | (rw [hy440]; exact H) | exact H
       have Ny440 := Aside0.mk hy440
       clear hy440
       have H' := Aside0.mk H
       clear H
       have p439 : 0 ≤ (x9_1 : Int) := of_decide_eq_true y7_
       have q439 : x9_1 < (l0.length : Int) := of_decide_eq_true y7_
       obtain ⟨ad439, A439_0, c439_0, e439, hx439_0, hl439_0, hi439_0⟩ := at_L9 HR0.out x9_1 p439 q439
       cases e439
       replace hx439_0 := (HB.out.cell (World.block_lt_of_cell? w _ hx439_0)).trans hx439_0
       have HR439_0 := Aside0.mk hi439_0
       have HC439_0 := Aside0.mk hl439_0
       clear hi439_0 hl439_0
       replace p439 := eq_true p439
       replace q439 := eq_true q439
       go_wp2_with (first | ((with_reducible refine gate_builtin (b := .append) (xs := #[.tmp 13, .tmp 14]) rfl ?_); at_builtin; refine Kd.R_append_rows (Kd.int .u8) (w0 := w) w.heap.size rfl (.tmp 13) (.tmp 14) 22 5 (.int .u8 0) 1 rfl Tryd.underlying22 info5 rfl (by decide) (by omega) u3 x3_1 (rd_L9 l0 x9_1) _ _ _ (fun _ => True) (fun _ => False) rfl rfl ?aO ?aR (fun _ _ h => h) (fun _ h => h.elim) ?aF ?aB ?aS ?aL ?_; (case aR => repeat (first | exact (Kd.C_below HR439_0.out HB.out) | (with_reducible refine Kd.C_alloc ?_ _) | (with_reducible refine Kd.C_drewN ?_ _) | (with_reducible refine Kd.C_drew ?_))); (case aB => exact y1_); (case aF => exact (fun _ _ => trivial)); (case aO => exact y95_); (case aS => exact (below_size y1_)); (case aL => have := LMc7.out; omega); intro v441 w8 ho hb hg hat; rw [← Ny440.out] at ho; have n0_ := Aside0.mk (hb); have n1_ := Aside0.mk (ho); clear HB; clear HO_3; have HB := n0_; have HO442 := n1_; clear n0_ n1_; clear ho hb hg hat))
       go_roundg k1
       case measure => have := HK1.out; omega
       case rel => exact ⟨(y440), (wrap64 (x9_1 + 1)), y15_, H', ⟨by have := HK1.out; omega⟩, ⟨by (with_reducible repeat (first | apply Kd.R_alloc | apply Kd.R_drewN | apply Kd.R_drew)); exact HO442.out⟩, ⟨y1_⟩⟩
      ·rw [if_neg c7] at H
       exact absurd H (by simp)
     ·rw [if_neg c6] at H
      exact absurd H (by simp)
    ·rw [if_neg c5] at H
     exact absurd H (by simp)
   ·rw [if_neg c4] at H
    have c4b0 : decide (x9_1 < (l0.length : Int)) = false := decide_eq_false c4
    clear c4
    obtain rfl := Option.some.inj H
    go_wp2
    go_ret
    exact ⟨_, y8_, y95_, y1_⟩
end Go.Proofs.YtdckhaejhfkkbaaDoor.PRT
