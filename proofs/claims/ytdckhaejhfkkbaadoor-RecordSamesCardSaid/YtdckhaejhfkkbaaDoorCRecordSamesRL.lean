import Derived.Test.YtdckhaejhfkkbaaDoorCRecordSamesPRTx0
import Derived.Test.YtdckhaejhfkkbaaDoorCRecordSamesG1
import Derived.Test.YtdckhaejhfkkbaaDoorCRecordSamesPRTx2
import Derived.Test.YtdckhaejhfkkbaaDoorCRecordSamesPRTx5
import Derived.Test.YtdckhaejhfkkbaaDoorCRecordSamesPRTx9
import Derived.Test.YtdckhaejhfkkbaaDoorCRecordSamesPRTx21
import Derived.Test.YtdckhaejhfkkbaaDoorCRecordSamesPRTx7
import Derived.Test.YtdckhaejhfkkbaaDoorCRecordSamesPRTx4
import Derived.Test.YtdckhaejhfkkbaaDoorCRecordSamesPRTx3
import Derived.Test.YtdckhaejhfkkbaaDoorCRecordSamesPRTx8
import Derived.Test.YtdckhaejhfkkbaaDoorCRecordSamesPRTx6
namespace Go.Proofs.YtdckhaejhfkkbaaDoor.Bq
end Go.Proofs.YtdckhaejhfkkbaaDoor.Bq
section
namespace Go.Proofs.YtdckhaejhfkkbaaDoor.PRT
open Go.RowKit Go.Proofs.YtdckhaejhfkkbaaDoorW.PrintWords Go.Proofs.YtdckhaejhfkkbaaDoorW.PrintLast Go.Proofs.YtdckhaejhfkkbaaDoorW.PrintMore
attribute [local go_sem] max2_int min2_int max_two min_two max_three min_three max_four min_four
set_option linter.unusedVariables false
set_option linter.unusedSimpArgs false
end Go.Proofs.YtdckhaejhfkkbaaDoor.PRT
end
section
namespace Go.Proofs.YtdckhaejhfkkbaaDoor.PRT
open Go.RowKit Go.Proofs.YtdckhaejhfkkbaaDoorW.PrintWords Go.Proofs.YtdckhaejhfkkbaaDoorW.PrintLast Go.Proofs.YtdckhaejhfkkbaaDoorW.PrintMore
attribute [local go_sem] max2_int min2_int max_two min_two max_three min_three max_four min_four
set_option linter.unusedVariables false
set_option linter.unusedSimpArgs false
end Go.Proofs.YtdckhaejhfkkbaaDoor.PRT
end
section
namespace Go.Proofs.YtdckhaejhfkkbaaDoor.PRT
open Go.RowKit Go.Proofs.YtdckhaejhfkkbaaDoorW.PrintWords Go.Proofs.YtdckhaejhfkkbaaDoorW.PrintLast Go.Proofs.YtdckhaejhfkkbaaDoorW.PrintMore
attribute [local go_sem] max2_int min2_int max_two min_two max_three min_three max_four min_four
set_option linter.unusedVariables false
set_option linter.unusedSimpArgs false
end Go.Proofs.YtdckhaejhfkkbaaDoor.PRT
end
section
namespace Go.Proofs.YtdckhaejhfkkbaaDoor.PRT
open Go.RowKit Go.Proofs.YtdckhaejhfkkbaaDoorW.PrintWords Go.Proofs.YtdckhaejhfkkbaaDoorW.PrintLast Go.Proofs.YtdckhaejhfkkbaaDoorW.PrintMore
attribute [local go_sem] max2_int min2_int max_two min_two max_three min_three max_four min_four
set_option linter.unusedVariables false
set_option linter.unusedSimpArgs false
end Go.Proofs.YtdckhaejhfkkbaaDoor.PRT
end
section
namespace Go.Proofs.YtdckhaejhfkkbaaDoor.PRT
open Go.RowKit Go.Proofs.YtdckhaejhfkkbaaDoorW.PrintWords Go.Proofs.YtdckhaejhfkkbaaDoorW.PrintLast Go.Proofs.YtdckhaejhfkkbaaDoorW.PrintMore
attribute [local go_sem] max2_int min2_int max_two min_two max_three min_three max_four min_four
set_option linter.unusedVariables false
set_option linter.unusedSimpArgs false
attribute [local go_sem high] eqA52
def manometerref05_Same.l0 : Nat → List (S52) → List (S52) → Int → Int → Option (Bool)
 | 0, _, _, _, _ => none
 | k + 1, x0, x1, x12, x13 => if x13 < x12 then (if 0 ≤ x13 then (if x13 < (x0.length : Int) then (if x13 < (x1.length : Int) then (if (!((((rd_T52 x0 x13).f0).toList) == (((rd_T52 x1 x13).f0).toList)) || (!((((rd_T52 x0 x13).f1).toList) == (((rd_T52 x1 x13).f1).toList)))) = true then (some false) else (manometerref05_Same.l0 k x0 x1 x12 (wrap64 (x13 + 1)))) else (none)) else (none)) else (none)) else (some true)
def manometerref05_Same.f (k : Nat) (l0 : List (S52)) (l1 : List (S52)) : Option (Bool) := if (l0.length : Int) = (l1.length : Int) then (manometerref05_Same.l0 k l0 l1 (l0.length : Int) 0) else (some false)
set_option maxHeartbeats 8000000 in
set_option maxRecDepth 100000 in
theorem manometerref05_Same.calls (k : Nat) (A0 : Option Addr) (c0 : Nat) (l0 : List (S52)) (A1 : Option Addr) (c1 : Nat) (l1 : List (S52)) (r : Bool) (w : World) (hr0 : Kd.C k52 w A0 l0.length l0) (hc0 : l0.length ≤ c0) (hr1 : Kd.C k52 w A1 l1.length l1) (hc1 : l1.length ≤ c1) (h : manometerref05_Same.f k l0 l1 = some r) :
  Calls Tryd.prog 26 #[.slice A0 l0.length c0, .slice A1 l1.length c1] w fun e w' => e = .returned (.bool r) ∧ Drawn0 w w' := by
 have hu52 := Tryd.underlying52
 have HR0 := Aside0.mk hr0
 have HC0 := Aside0.mk hc0
 clear hr0 hc0
 have HR1 := Aside0.mk hr1
 have HC1 := Aside0.mk hc1
 clear hr1 hc1
 have H : (if (l0.length : Int) = (l1.length : Int) then (manometerref05_Same.l0 k l0 l1 (l0.length : Int) 0) else (some false)) = some r := h
 clear h
 by_cases c3 : (l0.length : Int) = (l1.length : Int)
 ·rw [if_pos c3] at H
  have c3b0 : ((l0.length : Int) == (l1.length : Int)) = true := beq_iff_eq.mpr c3
  have c3b1 : ((l0.length : Int) != (l1.length : Int)) = false := bne_eq_false_iff_eq.mpr c3
  have c3b2 : (l0.length == l1.length) = true := by first | simpa using c3 | (simp at c3 ⊢; omega)
  clear c3
  have H' := Aside0.mk H
  clear H
  go_enter Tryd.func26, Tryd.ntmps26
  go_wp2
  repeat (go_quiet (fail); try go_wp2)
  go_loopg [13] k (fun kq v13 w' => ∃ (x13_1 : Int), v13 = .int .i64 x13_1 ∧ Aside0 (manometerref05_Same.l0 kq l0 l1 (l0.length : Int) x13_1 = some r) ∧ Aside0 (kq ≤ k) ∧ Drawn0 w w')
  case atStart => exact ⟨(0), y10_, H', ⟨Nat.le_refl _⟩, y15_⟩
  case round =>
   clear H'
   try clear c1
   try clear c2
   try clear p2
   try clear c3
   try clear c3b0
   try clear c3b1
   try clear c3b2
   obtain ⟨x13_1, rfl, HA, HK1, ⟨m1, rfl⟩⟩ := hrel
   cases gk with
   | zero => exact absurd HA.out (by simp [manometerref05_Same.l0])
   | succ k1 =>
    have H := HA.out
    clear HA
    simp only [manometerref05_Same.l0] at H
    by_cases c4 : x13_1 < (l0.length : Int)
    ·rw [if_pos c4] at H
     have c4b0 : decide (x13_1 < (l0.length : Int)) = true := decide_eq_true c4
     clear c4
     by_cases c5 : 0 ≤ x13_1
     ·rw [if_pos c5] at H
      have c5b0 : decide (0 ≤ x13_1) = true := decide_eq_true c5
      clear c5
      by_cases c6 : x13_1 < (l0.length : Int)
      ·rw [if_pos c6] at H
       have c6b0 : decide (x13_1 < (l0.length : Int)) = true := decide_eq_true c6
       clear c6
       by_cases c7 : x13_1 < (l1.length : Int)
       ·rw [if_pos c7] at H
        have c7b0 : decide (x13_1 < (l1.length : Int)) = true := decide_eq_true c7
        clear c7
        by_cases c8 : (!((((rd_T52 l0 x13_1).f0).toList) == (((rd_T52 l1 x13_1).f0).toList)) || (!((((rd_T52 l0 x13_1).f1).toList) == (((rd_T52 l1 x13_1).f1).toList)))) = true
        ·rw [if_pos c8] at H
         have c8b0 : (!((((rd_T52 l0 x13_1).f0).toList) == (((rd_T52 l1 x13_1).f0).toList)) || (!((((rd_T52 l0 x13_1).f1).toList) == (((rd_T52 l1 x13_1).f1).toList)))) = true := c8
         clear c8
         obtain rfl := Option.some.inj H
         have p395 : 0 ≤ (x13_1 : Int) := of_decide_eq_true y3_
         have q395 : x13_1 < (l0.length : Int) := of_decide_eq_true y3_
         obtain ⟨ad395, e395, hx395_0, hx395_1⟩ := at_T52 HR0.out x13_1 p395 q395
         cases e395
         replace p395 := eq_true p395
         replace q395 := eq_true q395
         have p396 : 0 ≤ (x13_1 : Int) := of_decide_eq_true y3_
         have q396 : x13_1 < (l1.length : Int) := of_decide_eq_true y3_
         obtain ⟨ad396, e396, hx396_0, hx396_1⟩ := at_T52 HR1.out x13_1 p396 q396
         cases e396
         replace p396 := eq_true p396
         replace q396 := eq_true q396
         go_wp2
         repeat (go_quiet (fail); try go_wp2)
         go_ret
         exact ⟨y30_, y15_⟩
        ·rw [if_neg c8] at H
         have c8b0 : (!((((rd_T52 l0 x13_1).f0).toList) == (((rd_T52 l1 x13_1).f0).toList)) || (!((((rd_T52 l0 x13_1).f1).toList) == (((rd_T52 l1 x13_1).f1).toList)))) = false := by simpa using c8
         clear c8
         have H' := Aside0.mk H
         clear H
         have p395 : 0 ≤ (x13_1 : Int) := of_decide_eq_true y3_
         have q395 : x13_1 < (l0.length : Int) := of_decide_eq_true y3_
         obtain ⟨ad395, e395, hx395_0, hx395_1⟩ := at_T52 HR0.out x13_1 p395 q395
         cases e395
         replace p395 := eq_true p395
         replace q395 := eq_true q395
         have p396 : 0 ≤ (x13_1 : Int) := of_decide_eq_true y3_
         have q396 : x13_1 < (l1.length : Int) := of_decide_eq_true y3_
         obtain ⟨ad396, e396, hx396_0, hx396_1⟩ := at_T52 HR1.out x13_1 p396 q396
         cases e396
         replace p396 := eq_true p396
         replace q396 := eq_true q396
         go_wp2
         repeat (go_quiet (fail); try go_wp2)
         go_roundg k1
         case measure => have := HK1.out; omega
         case rel => exact ⟨(wrap64 (x13_1 + 1)), y10_, H', ⟨by have := HK1.out; omega⟩, y15_⟩
       ·rw [if_neg c7] at H
        exact absurd H (by simp)
      ·rw [if_neg c6] at H
       exact absurd H (by simp)
     ·rw [if_neg c5] at H
      exact absurd H (by simp)
    ·rw [if_neg c4] at H
     have c4b0 : decide (x13_1 < (l0.length : Int)) = false := decide_eq_false c4
     clear c4
     obtain rfl := Option.some.inj H
     go_wp2
     repeat (go_quiet (fail); try go_wp2)
     go_ret
     exact ⟨y30_, y15_⟩
 ·rw [if_neg c3] at H
  have c3b0 : ((l0.length : Int) == (l1.length : Int)) = false := beq_eq_false_iff_ne.mpr c3
  have c3b1 : ((l0.length : Int) != (l1.length : Int)) = true := bne_iff_ne.mpr c3
  have c3b2 : (l0.length == l1.length) = false := by first | simpa using c3 | (simp at c3 ⊢; omega)
  obtain rfl := Option.some.inj H
  go_enter Tryd.func26, Tryd.ntmps26
  go_wp2
  repeat (go_quiet (fail); try go_wp2)
  go_ret
  exact ⟨y30_, y15_⟩
end Go.Proofs.YtdckhaejhfkkbaaDoor.PRT
end
section
namespace Go.Proofs.YtdckhaejhfkkbaaDoor.PRT
open Go.RowKit Go.Proofs.YtdckhaejhfkkbaaDoorW.PrintWords Go.Proofs.YtdckhaejhfkkbaaDoorW.PrintLast Go.Proofs.YtdckhaejhfkkbaaDoorW.PrintMore
attribute [local go_sem] max2_int min2_int max_two min_two max_three min_three max_four min_four
set_option linter.unusedVariables false
set_option linter.unusedSimpArgs false
def manometerlaw13_few.l0 : Nat → List (S52) → Int → Int → Int → Int → List (S52) → List (S45) → Option (Bool)
 | 0, _, _, _, _, _, _, _ => none
 | k + 1, x11, x12, x13, x426000, x426001, x426002, x426003 => if x13 < x12 then (if 0 ≤ x13 then (if x13 < (x11.length : Int) then (if (((rd_T52 x11 x13).f0).size : Int) > 300 then (some false) else (if (((rd_T52 x11 x13).f1).size : Int) > 300 then (some false) else (manometerlaw13_few.l0 k x11 x12 (wrap64 (x13 + 1)) x426000 x426001 x426002 x426003))) else (none)) else (none)) else (if (x426002.length : Int) ≤ 40 then (some (decide ((x426003.length : Int) ≤ 400))) else (some false))
def manometerlaw13_few.f (k : Nat) (a0_0 : Int) (a0_1 : Int) (l0_2 : List (S52)) (l0_3 : List (S45)) : Option (Bool) := if 0 ≤ (mn (l0_2.length : Int) 40) then (if (mn (l0_2.length : Int) 40) ≤ (l0_2.length : Int) then ((some (l0_2.take ((mn (l0_2.length : Int) 40) : Int).toNat : List (S52))).bind fun y426 => (manometerlaw13_few.l0 k y426 (y426.length : Int) 0 a0_0 a0_1 l0_2 l0_3)) else (none)) else (none)
set_option maxHeartbeats 8000000 in
set_option maxRecDepth 100000 in
theorem manometerlaw13_few.calls (k : Nat) (a0_0 : Int) (a0_1 : Int) (A0_2 : Option Addr) (c0_2 : Nat) (l0_2 : List (S52)) (A0_3 : Option Addr) (c0_3 : Nat) (l0_3 : List (S45)) (r : Bool) (w : World) (hr0_2 : Kd.C k52 w A0_2 l0_2.length l0_2) (hc0_2 : l0_2.length ≤ c0_2) (hr0_3 : Kd.C k45 w A0_3 l0_3.length l0_3) (hc0_3 : l0_3.length ≤ c0_3) (h : manometerlaw13_few.f k a0_0 a0_1 l0_2 l0_3 = some r) :
  Calls Tryd.prog 12 #[.agg #[.int .i64 a0_0, .int .u32 a0_1, .slice A0_2 l0_2.length c0_2, .slice A0_3 l0_3.length c0_3]] w fun e w' => e = .returned (.bool r) ∧ Below w.heap.size w w' := by
 have hu29 := Tryd.underlying29
 have hu52 := Tryd.underlying52
 have HR0_2 := Aside0.mk hr0_2
 have HC0_2 := Aside0.mk hc0_2
 clear hr0_2 hc0_2
 have HR0_3 := Aside0.mk hr0_3
 have HC0_3 := Aside0.mk hc0_3
 clear hr0_3 hc0_3
 have HB := Aside0.mk (Below.refl w.heap.size w)
 have H : (if 0 ≤ (mn (l0_2.length : Int) 40) then (if (mn (l0_2.length : Int) 40) ≤ (l0_2.length : Int) then ((some (l0_2.take ((mn (l0_2.length : Int) 40) : Int).toNat : List (S52))).bind fun y426 => (manometerlaw13_few.l0 k y426 (y426.length : Int) 0 a0_0 a0_1 l0_2 l0_3)) else (none)) else (none)) = some r := h
 clear h
 obtain ⟨ji2, hji2⟩ : ∃ j_ : Int, (mn (l0_2.length : Int) 40) = j_ := ⟨_, rfl⟩
 replace H : (if 0 ≤ (ji2) then (if (ji2) ≤ (l0_2.length : Int) then ((some (l0_2.take ((ji2) : Int).toNat : List (S52))).bind fun y426 => (manometerlaw13_few.l0 k y426 (y426.length : Int) 0 a0_0 a0_1 l0_2 l0_3)) else (none)) else (none)) = some r := by first | (rw [hji2] at H; exact H) | (simp only [hji2] at H ⊢; exact H)
 (try (have hji2h : ji2 ≤ 40 := by (rw [← hji2]; unfold mn; (repeat' split) <;> omega)))
 (try (have hji2g : ji2 ≤ 64 := by omega))
 (try (have hji2l : 0 ≤ ji2 := by (rw [← hji2]; unfold mn; (repeat' split) <;> omega)))
 (try (have hji2m : 0 ≤ ji2 := by omega))
 have hji2_ : (if 40 < (l0_2.length : Int) then 40 else (l0_2.length : Int)) = ji2 := hji2
 by_cases c3 : 0 ≤ (ji2)
 ·rw [if_pos c3] at H
  have c3b0 := eq_true c3
  have c3b1 : decide (0 ≤ (ji2)) = true := decide_eq_true c3
  clear c3
  by_cases c4 : (ji2) ≤ (l0_2.length : Int)
  ·rw [if_pos c4] at H
   have c4b0 := eq_true c4
   have c4b1 : decide ((ji2) ≤ (l0_2.length : Int)) = true := decide_eq_true c4
   clear c4
   obtain ⟨y426, hy426⟩ : ∃ y_ : List (S52), y_ = (l0_2.take ((ji2) : Int).toNat) := ⟨_, rfl⟩
   replace H : (manometerlaw13_few.l0 k y426 (y426.length : Int) 0 a0_0 a0_1 l0_2 l0_3) = some r := by first | (rw [hy426]; with_reducible exact H) | (have H2_ := (Option.bind_some _ _).symm.trans H; rw [hy426]; with_reducible exact H2_) | (have H2_ := (Option.bind_some _ _).symm.trans H; with_reducible exact H2_) | with_reducible exact H | (rw [hy426]; exact H) | exact H
   have Ny426 := Aside0.mk hy426
   clear hy426
   have H' := Aside0.mk H
   clear H
   go_enter Tryd.func12, Tryd.ntmps12
   go_wp2_with (first | ((with_reducible refine gate_dst (N := 1) rfl ?_); (try (refine gate_guard (by rfl) ?_; dsimp only)); refine box_event ?hg (N := 1) ?hd (cs := #[.int .i64 a0_0, .int .u32 a0_1, .slice A0_2 l0_2.length c0_2, .slice A0_3 l0_3.length c0_3]) (t := 29) ?hr ?_; (case hd => rfl); (case hg => rfl); (case hr => first | (go_simp; done) | (go_simp; rfl)); intro gb425 hg w5 hbox hb; have n0_ := Aside0.mk (below_step y1_ hb); have n1_ := Aside0.mk (hbox); have n2_ := Aside0.mk ((y11_ : w.heap.size ≤ gb425)); have n3_ := Aside0.mk ((y11_ : w.heap.size ≤ gb425)); clear HB; have HB := n0_; have BK425 := n1_; have GW425 := n2_; have GE425 := n3_; clear n0_ n1_ n2_ n3_; clear hb hbox hg; have hcz6_0 : w5.cell? ⟨gb425, 0, none⟩ = some (.int .i64 a0_0) := (blk_cell BK425.out 0).trans rfl; have hcz6_1 : w5.cell? ⟨gb425, 1, none⟩ = some (.int .u32 a0_1) := (blk_cell BK425.out 1).trans rfl; have hcz6_2 : w5.cell? ⟨gb425, 2, none⟩ = some (.slice A0_2 l0_2.length c0_2) := (blk_cell BK425.out 2).trans rfl; have hcz6_3 : w5.cell? ⟨gb425, 3, none⟩ = some (.slice A0_3 l0_3.length c0_3) := (blk_cell BK425.out 3).trans rfl; have hfz6_0 := blk_frozen BK425.out 0; have hfz6_1 := blk_frozen BK425.out 1; have hfz6_2 := blk_frozen BK425.out 2; have hfz6_3 := blk_frozen BK425.out 3; have q7 : ((ji2) : Int) ≤ ((l0_2.length : Int) : Int) := of_decide_eq_true y3_; obtain ⟨i07, hi07, _, hsz7, _⟩ := info_parts info52; have hroom7 : l0_2.length ≤ c0_2 := HC0_2.out; have hC7 : Kd.C k52 _ A0_2 l0_2.length l0_2 := HR0_2.out; have hcut7 := cut_to (P := Tryd.prog) 26 52 .i64 Tryd.underlying26 hi07 A0_2 l0_2.length c0_2 (ji2) (of_decide_eq_true y3_) q7 hroom7; have hr7 := Kd.C_take (m := ((ji2) : Int).toNat) hC7 (by omega); have hy7 : y426.length = ((ji2) : Int).toNat := (by rw [Ny426.out, List.length_take]; omega); rw [← Ny426.out] at hr7; rw [← hy7] at hcut7; have HR429 := Aside0.mk hr7; have HC429 := Aside0.mk (show y426.length ≤ c0_2 from by omega); clear hr7 hC7 hroom7 hi07 hsz7; have KY7 := Aside0.mk hy7; clear hy7; replace q7 := eq_true q7))
   go_loopg [13] k (fun kq v13 w' => ∃ (x13_1 : Int), v13 = .int .i64 x13_1 ∧ Aside0 (manometerlaw13_few.l0 kq y426 (y426.length : Int) x13_1 a0_0 a0_1 l0_2 l0_3 = some r) ∧ Aside0 (kq ≤ k) ∧ Aside0 (w'.heap[gb425]? = some (.cells #[.int .i64 a0_0, .int .u32 a0_1, (.slice A0_2 l0_2.length c0_2), (.slice A0_3 l0_3.length c0_3)] 29 (0, 0))) ∧ Aside0 (Below w.heap.size w w'))
   case atStart => exact ⟨(0), y10_, H', ⟨Nat.le_refl _⟩, ⟨y34_⟩, ⟨y22_⟩⟩
   case round =>
    clear H'
    try clear c1
    try clear p2
    try clear c3
    try clear c3b0
    try clear c3b1
    try clear c4
    try clear c4b0
    try clear c4b1
    try clear q7
    try clear hcz6_0
    try clear hcz6_1
    try clear hcz6_2
    try clear hcz6_3
    try clear hfz6_0
    try clear hfz6_1
    try clear hfz6_2
    try clear hfz6_3
    try clear q7
    obtain ⟨x13_1, rfl, HA, HK1, BK425, HB⟩ := hrel
    cases gk with
    | zero => exact absurd HA.out (by simp [manometerlaw13_few.l0])
    | succ k1 =>
     have H := HA.out
     clear HA
     simp only [manometerlaw13_few.l0] at H
     by_cases c8 : x13_1 < (y426.length : Int)
     ·rw [if_pos c8] at H
      have c8b0 : decide (x13_1 < (y426.length : Int)) = true := decide_eq_true c8
      clear c8
      by_cases c9 : 0 ≤ x13_1
      ·rw [if_pos c9] at H
       have c9b0 : decide (0 ≤ x13_1) = true := decide_eq_true c9
       clear c9
       by_cases c10 : x13_1 < (y426.length : Int)
       ·rw [if_pos c10] at H
        have c10b0 : decide (x13_1 < (y426.length : Int)) = true := decide_eq_true c10
        clear c10
        by_cases c11 : (((rd_T52 y426 x13_1).f0).size : Int) > 300
        ·rw [if_pos c11] at H
         have c11b0 : decide (300 < (((rd_T52 y426 x13_1).f0).size : Int)) = true := decide_eq_true c11
         have c11b1 : decide (300 < ((rd_T52 y426 x13_1).f0).size) = true := decide_eq_true (by omega)
         clear c11
         obtain rfl := Option.some.inj H
         have p430 : 0 ≤ (x13_1 : Int) := of_decide_eq_true y3_
         have q430 : x13_1 < (y426.length : Int) := of_decide_eq_true y3_
         obtain ⟨ad430, e430, hx430_0, hx430_1⟩ := at_T52 HR429.out x13_1 p430 q430
         cases e430
         replace hx430_0 := (HB.out.cell (World.block_lt_of_cell? w _ hx430_0)).trans hx430_0
         replace hx430_1 := (HB.out.cell (World.block_lt_of_cell? w _ hx430_1)).trans hx430_1
         replace p430 := eq_true p430
         replace q430 := eq_true q430
         go_wp2_with (first | ((with_reducible refine gate_dst (N := 4) rfl ?_); (try (refine gate_guard (by rfl) ?_; dsimp only)); refine box_event ?hg (N := 4) ?hd (cs := #[.string (⟨#[]⟩ : ByteArray), .string (⟨#[]⟩ : ByteArray)]) (t := 52) ?hr ?_; (case hd => rfl); (case hg => rfl); (case hr => first | (go_simp; done) | (go_simp; rfl)); intro gb431 hg w12 hbox hb; have n0_ := Aside0.mk (blk_below (g := gb425) (o := .cells #[.int .i64 a0_0, .int .u32 a0_1, .slice (some ad430) l0_2.length c0_2, .slice A0_3 l0_3.length c0_3] 29 (0, 0)) y34_ hb); have n1_ := Aside0.mk (below_step y22_ hb); have n2_ := Aside0.mk (hbox); have n3_ := Aside0.mk ((by rw [hg]; exact (below_size y22_) : w.heap.size ≤ gb431)); have n4_ := Aside0.mk ((by rw [hg]; exact (below_size y22_) : w.heap.size ≤ gb431)); have n5_ := Aside0.mk ((y61_ : gb425 ≠ gb431)); have n6_ := Aside0.mk ((y63_ : gb431 ≠ gb425)); clear BK425; clear HB; have BK425 := n0_; have HB := n1_; have BK431 := n2_; have GW431 := n3_; have GE431 := n4_; have NB425_431 := n5_; have NB431_425 := n6_; clear n0_ n1_ n2_ n3_ n4_ n5_ n6_; clear hb hbox hg; have hnb13 := NB431_425.out; have hnc13 := NB425_431.out; have hcz14_0 : w12.cell? ⟨gb431, 0, none⟩ = some (.string (⟨#[]⟩ : ByteArray)) := (blk_cell BK431.out 0).trans rfl; have hcz14_1 : w12.cell? ⟨gb431, 1, none⟩ = some (.string (⟨#[]⟩ : ByteArray)) := (blk_cell BK431.out 1).trans rfl; have hfz14_0 := blk_frozen BK431.out 0; have hfz14_1 := blk_frozen BK431.out 1))
         go_ret
         exact ⟨y44_, y58_⟩
        ·rw [if_neg c11] at H
         have c11b0 : decide (300 < (((rd_T52 y426 x13_1).f0).size : Int)) = false := decide_eq_false c11
         have c11b1 : decide (300 < ((rd_T52 y426 x13_1).f0).size) = false := decide_eq_false (by omega)
         clear c11
         by_cases c15 : (((rd_T52 y426 x13_1).f1).size : Int) > 300
         ·rw [if_pos c15] at H
          have c15b0 : decide (300 < (((rd_T52 y426 x13_1).f1).size : Int)) = true := decide_eq_true c15
          have c15b1 : decide (300 < ((rd_T52 y426 x13_1).f1).size) = true := decide_eq_true (by omega)
          clear c15
          obtain rfl := Option.some.inj H
          have p430 : 0 ≤ (x13_1 : Int) := of_decide_eq_true y3_
          have q430 : x13_1 < (y426.length : Int) := of_decide_eq_true y3_
          obtain ⟨ad430, e430, hx430_0, hx430_1⟩ := at_T52 HR429.out x13_1 p430 q430
          cases e430
          replace hx430_0 := (HB.out.cell (World.block_lt_of_cell? w _ hx430_0)).trans hx430_0
          replace hx430_1 := (HB.out.cell (World.block_lt_of_cell? w _ hx430_1)).trans hx430_1
          replace p430 := eq_true p430
          replace q430 := eq_true q430
          go_wp2_with (first | ((with_reducible refine gate_dst (N := 4) rfl ?_); (try (refine gate_guard (by rfl) ?_; dsimp only)); refine box_event ?hg (N := 4) ?hd (cs := #[.string (⟨#[]⟩ : ByteArray), .string (⟨#[]⟩ : ByteArray)]) (t := 52) ?hr ?_; (case hd => rfl); (case hg => rfl); (case hr => first | (go_simp; done) | (go_simp; rfl)); intro gb431 hg w16 hbox hb; have n0_ := Aside0.mk (blk_below (g := gb425) (o := .cells #[.int .i64 a0_0, .int .u32 a0_1, .slice (some ad430) l0_2.length c0_2, .slice A0_3 l0_3.length c0_3] 29 (0, 0)) y34_ hb); have n1_ := Aside0.mk (below_step y22_ hb); have n2_ := Aside0.mk (hbox); have n3_ := Aside0.mk ((by rw [hg]; exact (below_size y22_) : w.heap.size ≤ gb431)); have n4_ := Aside0.mk ((by rw [hg]; exact (below_size y22_) : w.heap.size ≤ gb431)); have n5_ := Aside0.mk ((y61_ : gb425 ≠ gb431)); have n6_ := Aside0.mk ((y63_ : gb431 ≠ gb425)); clear BK425; clear HB; have BK425 := n0_; have HB := n1_; have BK431 := n2_; have GW431 := n3_; have GE431 := n4_; have NB425_431 := n5_; have NB431_425 := n6_; clear n0_ n1_ n2_ n3_ n4_ n5_ n6_; clear hb hbox hg; have hnb17 := NB431_425.out; have hnc17 := NB425_431.out; have hcz18_0 : w16.cell? ⟨gb431, 0, none⟩ = some (.string (⟨#[]⟩ : ByteArray)) := (blk_cell BK431.out 0).trans rfl; have hcz18_1 : w16.cell? ⟨gb431, 1, none⟩ = some (.string (⟨#[]⟩ : ByteArray)) := (blk_cell BK431.out 1).trans rfl; have hfz18_0 := blk_frozen BK431.out 0; have hfz18_1 := blk_frozen BK431.out 1))
          go_ret
          exact ⟨y44_, y58_⟩
         ·rw [if_neg c15] at H
          have c15b0 : decide (300 < (((rd_T52 y426 x13_1).f1).size : Int)) = false := decide_eq_false c15
          have c15b1 : decide (300 < ((rd_T52 y426 x13_1).f1).size) = false := decide_eq_false (by omega)
          clear c15
          have H' := Aside0.mk H
          clear H
          have p430 : 0 ≤ (x13_1 : Int) := of_decide_eq_true y3_
          have q430 : x13_1 < (y426.length : Int) := of_decide_eq_true y3_
          obtain ⟨ad430, e430, hx430_0, hx430_1⟩ := at_T52 HR429.out x13_1 p430 q430
          cases e430
          replace hx430_0 := (HB.out.cell (World.block_lt_of_cell? w _ hx430_0)).trans hx430_0
          replace hx430_1 := (HB.out.cell (World.block_lt_of_cell? w _ hx430_1)).trans hx430_1
          replace p430 := eq_true p430
          replace q430 := eq_true q430
          go_wp2_with (first | ((with_reducible refine gate_dst (N := 4) rfl ?_); (try (refine gate_guard (by rfl) ?_; dsimp only)); refine box_event ?hg (N := 4) ?hd (cs := #[.string (⟨#[]⟩ : ByteArray), .string (⟨#[]⟩ : ByteArray)]) (t := 52) ?hr ?_; (case hd => rfl); (case hg => rfl); (case hr => first | (go_simp; done) | (go_simp; rfl)); intro gb431 hg w19 hbox hb; have n0_ := Aside0.mk (blk_below (g := gb425) (o := .cells #[.int .i64 a0_0, .int .u32 a0_1, .slice (some ad430) l0_2.length c0_2, .slice A0_3 l0_3.length c0_3] 29 (0, 0)) y34_ hb); have n1_ := Aside0.mk (below_step y22_ hb); have n2_ := Aside0.mk (hbox); have n3_ := Aside0.mk ((by rw [hg]; exact (below_size y22_) : w.heap.size ≤ gb431)); have n4_ := Aside0.mk ((by rw [hg]; exact (below_size y22_) : w.heap.size ≤ gb431)); have n5_ := Aside0.mk ((y61_ : gb425 ≠ gb431)); have n6_ := Aside0.mk ((y63_ : gb431 ≠ gb425)); clear BK425; clear HB; have BK425 := n0_; have HB := n1_; have BK431 := n2_; have GW431 := n3_; have GE431 := n4_; have NB425_431 := n5_; have NB431_425 := n6_; clear n0_ n1_ n2_ n3_ n4_ n5_ n6_; clear hb hbox hg; have hnb20 := NB431_425.out; have hnc20 := NB425_431.out; have hcz21_0 : w19.cell? ⟨gb431, 0, none⟩ = some (.string (⟨#[]⟩ : ByteArray)) := (blk_cell BK431.out 0).trans rfl; have hcz21_1 : w19.cell? ⟨gb431, 1, none⟩ = some (.string (⟨#[]⟩ : ByteArray)) := (blk_cell BK431.out 1).trans rfl; have hfz21_0 := blk_frozen BK431.out 0; have hfz21_1 := blk_frozen BK431.out 1))
          go_roundg k1
          case measure => have := HK1.out; omega
          case rel => exact ⟨(wrap64 (x13_1 + 1)), y10_, H', ⟨by have := HK1.out; omega⟩, ⟨by (with_reducible repeat (first | refine blk_drewN ?_ _ | refine blk_drew ?_ | refine blk_alloc ?_ _)); refine blk_far ?_ NB425_431.out _; (with_reducible repeat (first | refine blk_drewN ?_ _ | refine blk_drew ?_ | refine blk_alloc ?_ _)); refine blk_far ?_ NB425_431.out _; (with_reducible repeat (first | refine blk_drewN ?_ _ | refine blk_drew ?_ | refine blk_alloc ?_ _)); exact BK425.out⟩, ⟨y58_⟩⟩
       ·rw [if_neg c10] at H
        exact absurd H (by simp)
      ·rw [if_neg c9] at H
       exact absurd H (by simp)
     ·rw [if_neg c8] at H
      have c8b0 : decide (x13_1 < (y426.length : Int)) = false := decide_eq_false c8
      clear c8
      by_cases c22 : (l0_2.length : Int) ≤ 40
      ·rw [if_pos c22] at H
       have c22b0 : decide ((l0_2.length : Int) ≤ 40) = true := decide_eq_true c22
       have c22b1 : decide (l0_2.length ≤ 40) = true := decide_eq_true (by omega)
       clear c22
       obtain rfl := Option.some.inj H
       have hcz23_0 : wr.cell? ⟨gb425, 0, none⟩ = some (.int .i64 a0_0) := (blk_cell BK425.out 0).trans rfl
       have hcz23_1 : wr.cell? ⟨gb425, 1, none⟩ = some (.int .u32 a0_1) := (blk_cell BK425.out 1).trans rfl
       have hcz23_2 : wr.cell? ⟨gb425, 2, none⟩ = some (.slice A0_2 l0_2.length c0_2) := (blk_cell BK425.out 2).trans rfl
       have hcz23_3 : wr.cell? ⟨gb425, 3, none⟩ = some (.slice A0_3 l0_3.length c0_3) := (blk_cell BK425.out 3).trans rfl
       have hfz23_0 := blk_frozen BK425.out 0
       have hfz23_1 := blk_frozen BK425.out 1
       have hfz23_2 := blk_frozen BK425.out 2
       have hfz23_3 := blk_frozen BK425.out 3
       go_wp2
       go_ret
       exact ⟨y44_, y22_⟩
      ·rw [if_neg c22] at H
       have c22b0 : decide ((l0_2.length : Int) ≤ 40) = false := decide_eq_false c22
       have c22b1 : decide (l0_2.length ≤ 40) = false := decide_eq_false (by omega)
       clear c22
       obtain rfl := Option.some.inj H
       have hcz24_0 : wr.cell? ⟨gb425, 0, none⟩ = some (.int .i64 a0_0) := (blk_cell BK425.out 0).trans rfl
       have hcz24_1 : wr.cell? ⟨gb425, 1, none⟩ = some (.int .u32 a0_1) := (blk_cell BK425.out 1).trans rfl
       have hcz24_2 : wr.cell? ⟨gb425, 2, none⟩ = some (.slice A0_2 l0_2.length c0_2) := (blk_cell BK425.out 2).trans rfl
       have hcz24_3 : wr.cell? ⟨gb425, 3, none⟩ = some (.slice A0_3 l0_3.length c0_3) := (blk_cell BK425.out 3).trans rfl
       have hfz24_0 := blk_frozen BK425.out 0
       have hfz24_1 := blk_frozen BK425.out 1
       have hfz24_2 := blk_frozen BK425.out 2
       have hfz24_3 := blk_frozen BK425.out 3
       go_wp2
       go_ret
       exact ⟨y44_, y22_⟩
  ·rw [if_neg c4] at H
   exact absurd H (by simp)
 ·rw [if_neg c3] at H
  exact absurd H (by simp)
end Go.Proofs.YtdckhaejhfkkbaaDoor.PRT
end
section
namespace Go.Proofs.YtdckhaejhfkkbaaDoor.PRT
open Go.RowKit Go.Proofs.YtdckhaejhfkkbaaDoorW.PrintWords Go.Proofs.YtdckhaejhfkkbaaDoorW.PrintLast Go.Proofs.YtdckhaejhfkkbaaDoorW.PrintMore
attribute [local go_sem] max2_int min2_int max_two min_two max_three min_three max_four min_four
set_option linter.unusedVariables false
set_option linter.unusedSimpArgs false
end Go.Proofs.YtdckhaejhfkkbaaDoor.PRT
end
section
namespace Go.Proofs.YtdckhaejhfkkbaaDoor.Pu
open Go Go.RowKit Go.Proofs.YtdckhaejhfkkbaaDoor Go.Proofs.YtdckhaejhfkkbaaDoor.PRT Go.Proofs.YtdckhaejhfkkbaaDoorW.PrintWords Go.Proofs.YtdckhaejhfkkbaaDoorW.PrintLast Go.Proofs.YtdckhaejhfkkbaaDoorW.PrintMore Bq
set_option linter.unusedVariables false
set_option linter.unusedSimpArgs false
theorem w7 (n : Nat) (h : n < 10) : IntKind.u64.wrap (wrap64 (7 * (n : Int))) = ((7 * n : Nat) : Int) := by
  rw [wn (n := 7 * n) (by omega) (by omega), wraps_u64n _ (by omega) (by omega)]
def valuedB (l : Str) : Bool := decide (l.length ≤ 128) && Lib.validD l
abbrev Lab := S52
theorem rdn (l : List Lab) (n : Nat) : rd_T52 l (n : Int) = l.getD n z52 := by unfold rd_T52; rw [Int.toNat_natCast]
theorem dropS (l : List Lab) (n : Nat) (h : n < l.length) : l.drop n = l.getD n z52 :: l.drop (n + 1) := by
  rw [List.drop_eq_getElem_cons h, List.getD_eq_getElem?_getD, List.getElem?_eq_getElem h]
  rfl
def pr (x : Lab) : Str × Str := (B x.f0, B x.f1)
theorem pr_inj {x y : Lab} (h : pr x = pr y) : x = y := by
  obtain ⟨a, b⟩ := x
  obtain ⟨c, d⟩ := y
  have h1 : a = c := B_inj (congrArg Prod.fst h)
  have h2 : b = d := B_inj (congrArg Prod.snd h)
  rw [h1, h2]
theorem prs_inj {a b : List Lab} (h : a.map pr = b.map pr) : a = b := by
  induction a generalizing b with
  | nil => cases b with
    | nil => rfl
    | cons _ _ => cases h
  | cons x a ih => cases b with
    | nil => cases h
    | cons y b =>
      injection h with h1 h2
      rw [pr_inj h1, ih h2]
def sameB (a b : List Lab) : Bool := decide (a.map pr = b.map pr)
theorem ne_test (x y : Lab) : ((!(x.f0.toList == y.f0.toList) || (!(x.f1.toList == y.f1.toList))) = true) ↔ ¬ pr x = pr y := by
  rw [toList_B, toList_B, toList_B, toList_B]
  unfold pr
  rw [Prod.mk.injEq]
  simp only [Bool.or_eq_true, Bool.not_eq_true', beq_eq_false_iff_ne, ne_eq]
  exact Decidable.not_and_iff_or_not.symm
theorem Same_l0 (a b : List Lab) (hs : a.length ≤ 1000000000000) (hab : a.length = b.length) : ∀ (d n k : Nat), n + d = a.length → d < k →
    labels_Same.l0 k a b (a.length : Int) (n : Int) = some (decide ((a.drop n).map pr = (b.drop n).map pr)) ∧ manometerref05_Same.l0 k a b (a.length : Int) (n : Int) = some (decide ((a.drop n).map pr = (b.drop n).map pr))
  | d, n, k, hd, hk => by
    obtain ⟨k, rfl⟩ := succ_of hk
    by_cases hlt : n < a.length
    · obtain ⟨d, rfl⟩ : ∃ e, d = e + 1 := ⟨d - 1, by omega⟩
      obtain ⟨ih1, ih2⟩ := Same_l0 a b hs hab d (n + 1) k (by omega) (by omega)
      rw [dropS a n hlt, dropS b n (by omega), List.map_cons, List.map_cons]
      simp only [labels_Same.l0, manometerref05_Same.l0]
      rw [if_pos (by omega), if_pos (by omega), if_pos (by omega), if_pos (by omega), rdn, rdn, w1 n (by omega), ih1, ih2]
      rw [if_pos (show (n : Int) < (a.length : Int) by omega), if_pos (show (0 : Int) ≤ (n : Int) by omega), if_pos (show (n : Int) < (a.length : Int) by omega), if_pos (show (n : Int) < (b.length : Int) by omega)]
      generalize a.getD n z52 = x
      generalize b.getD n z52 = y
      by_cases h : pr x = pr y
      · have h1 := fun z => ((ne_test x y).1 z) h
        rw [if_neg h1, h]
        simp
      · rw [if_pos ((ne_test x y).2 h)]
        simp [h]
    · rw [List.drop_of_length_le (by omega), List.drop_of_length_le (by omega)]
      simp only [labels_Same.l0, manometerref05_Same.l0]
      rw [if_neg (by omega), if_neg (by omega)]
      exact ⟨rfl, rfl⟩
theorem Same_ev (a b : List Lab) (hs : a.length ≤ 1000000000000) : Ev (fun k => labels_Same.f k a b) (sameB a b) ∧ Ev (fun k => manometerref05_Same.f k a b) (sameB a b) := by
  unfold labels_Same.f manometerref05_Same.f
  by_cases h : a.length = b.length
  · simp only [if_pos (show (a.length : Int) = (b.length : Int) by omega)]
    exact ⟨Ev.at a.length (fun k hk => (Same_l0 a b hs h a.length 0 k (by omega) hk).1), Ev.at a.length (fun k hk => (Same_l0 a b hs h a.length 0 k (by omega) hk).2)⟩
  · have hf : sameB a b = false := decide_eq_false (fun he => h (by rw [prs_inj he]))
    simp only [if_neg (show ¬ (a.length : Int) = (b.length : Int) by omega), hf]
    exact ⟨Ev.now _, Ev.now _⟩
def Sm (l : List Lab) : Prop := l.length ≤ 100000 ∧ ∀ x ∈ l, x.f0.size ≤ 100000 ∧ x.f1.size ≤ 100000
theorem Sm.at {l : List Lab} (h : Sm l) (n : Nat) (hn : n < l.length) : (l.getD n z52).f0.size ≤ 100000 ∧ (l.getD n z52).f1.size ≤ 100000 := by
  rw [List.getD_eq_getElem?_getD, List.getElem?_eq_getElem hn]
  exact h.2 _ (List.getElem_mem hn)
def wrongB (e : Bool) (x : Lab) : Int := if namedB (B x.f0) = true then (if valuedB (B x.f1) = true then (if e = true then 0 else (if B x.f1 = [] then 51 else 0)) else 51) else 50
def rgt : Option Str → List Lab → Int
  | _, [] => 0
  | p, x :: l => if wrongB false x = 0 then (if (match p with | none => false | some q => Op.bytesLess (B x.f0) q || decide (B x.f0 = q)) = true then 53 else rgt (some (B x.f0)) l) else wrongB false x
def rightB (l : List Lab) : Int := if l.length ≤ 16 then rgt none l else 3
def hb (x : Lab) : List Int := bytesOf x.f0 ++ ([255] ++ (bytesOf x.f1 ++ [255]))
def tookL (r : List Int) (most : Nat) : ByteArray × List Int × Int :=
  if (uget r).2.2 = 0 then
    (if (uget r).1 > (most : Int) then ((⟨#[]⟩ : ByteArray), [], 3)
    else if (uget r).1 > (r.length : Int) - (uget r).2.1 then ((⟨#[]⟩ : ByteArray), [], 6)
    else (strOfNums ((r.drop (uget r).2.1.toNat).take (uget r).1.toNat), r.drop ((uget r).2.1.toNat + (uget r).1.toNat), 0))
  else ((⟨#[]⟩ : ByteArray), [], (uget r).2.2)
def takesL : Nat → List Int → List Lab → List Lab × List Int × Int
  | 0, r, acc => (acc, r, 0)
  | n + 1, r, acc =>
    if (tookL r 64).2.2 = 0 then
      (if (tookL (tookL r 64).2.1 128).2.2 = 0 then takesL n (tookL (tookL r 64).2.1 128).2.1 (acc ++ [⟨(tookL r 64).1, (tookL (tookL r 64).2.1 128).1⟩])
      else ([], [], (tookL (tookL r 64).2.1 128).2.2))
    else ([], [], (tookL r 64).2.2)
def takeEnd (b : List Int) (z : List Lab × List Int × Int) : List Lab × Int × Int :=
  if z.2.2 = 0 then (if rightB z.1 = 0 then (z.1, ((b.length - z.2.1.length : Nat) : Int), 0) else ([], 0, rightB z.1)) else ([], 0, z.2.2)
def takeB (b : List Int) : List Lab × Int × Int :=
  if (uget b).2.2 = 0 then (if (uget b).1 > 16 then ([], 0, 3) else takeEnd b (takesL (uget b).1.toNat (b.drop (uget b).2.1.toNat) [])) else ([], 0, (uget b).2.2)
end Go.Proofs.YtdckhaejhfkkbaaDoor.Pu
end
