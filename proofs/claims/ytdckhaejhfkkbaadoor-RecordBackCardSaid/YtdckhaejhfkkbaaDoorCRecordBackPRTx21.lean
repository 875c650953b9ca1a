import Derived.Test.YtdckhaejhfkkbaaDoorCRecordBackPRTx0
import Derived.Test.YtdckhaejhfkkbaaDoorCRecordBackPRTx2
import Derived.Test.YtdckhaejhfkkbaaDoorCRecordBackO2
import Derived.Test.YtdckhaejhfkkbaaDoorCRecordBackY
namespace Go.Proofs.YtdckhaejhfkkbaaDoor.PRT
open Go.RowKit Go.Proofs.YtdckhaejhfkkbaaDoorW.PrintWords Go.Proofs.YtdckhaejhfkkbaaDoorW.PrintLast Go.Proofs.YtdckhaejhfkkbaaDoorW.PrintMore
attribute [local go_sem] max2_int min2_int max_two min_two max_three min_three max_four min_four
set_option linter.unusedVariables false
set_option linter.unusedSimpArgs false
attribute [local go_sem high] eqA45 eqA52
def labels_Same.l0 : Nat → List (S52) → List (S52) → Int → Int → Option (Bool)
 | 0, _, _, _, _ => none
 | k + 1, x0, x1, x12, x13 => if x13 < x12 then (if 0 ≤ x13 then (if x13 < (x0.length : Int) then (if x13 < (x1.length : Int) then (if (!((((rd_T52 x0 x13).f0).toList) == (((rd_T52 x1 x13).f0).toList)) || (!((((rd_T52 x0 x13).f1).toList) == (((rd_T52 x1 x13).f1).toList)))) = true then (some false) else (labels_Same.l0 k x0 x1 x12 (wrap64 (x13 + 1)))) else (none)) else (none)) else (none)) else (some true)
def labels_Same.f (k : Nat) (l0 : List (S52)) (l1 : List (S52)) : Option (Bool) := if (l0.length : Int) = (l1.length : Int) then (labels_Same.l0 k l0 l1 (l0.length : Int) 0) else (some false)
set_option maxHeartbeats 8000000 in
set_option maxRecDepth 100000 in
theorem labels_Same.calls (k : Nat) (A0 : Option Addr) (c0 : Nat) (l0 : List (S52)) (A1 : Option Addr) (c1 : Nat) (l1 : List (S52)) (r : Bool) (w : World) (hr0 : Kd.C k52 w A0 l0.length l0) (hc0 : l0.length ≤ c0) (hr1 : Kd.C k52 w A1 l1.length l1) (hc1 : l1.length ≤ c1) (h : labels_Same.f k l0 l1 = some r) :
  Calls Tryd.prog 37 #[.slice A0 l0.length c0, .slice A1 l1.length c1] w fun e w' => e = .returned (.bool r) ∧ Drawn0 w w' := by
 have hu52 := Tryd.underlying52
 have HR0 := Aside0.mk hr0
 have HC0 := Aside0.mk hc0
 clear hr0 hc0
 have HR1 := Aside0.mk hr1
 have HC1 := Aside0.mk hc1
 clear hr1 hc1
 have H : (if (l0.length : Int) = (l1.length : Int) then (labels_Same.l0 k l0 l1 (l0.length : Int) 0) else (some false)) = some r := h
 clear h
 by_cases c3 : (l0.length : Int) = (l1.length : Int)
 ·rw [if_pos c3] at H
  have c3b0 : ((l0.length : Int) == (l1.length : Int)) = true := beq_iff_eq.mpr c3
  have c3b1 : ((l0.length : Int) != (l1.length : Int)) = false := bne_eq_false_iff_eq.mpr c3
  have c3b2 : (l0.length == l1.length) = true := by first | simpa using c3 | (simp at c3 ⊢; omega)
  clear c3
  have H' := Aside0.mk H
  clear H
  go_enter Tryd.func37, Tryd.ntmps37
  go_wp2
  repeat (go_quiet (fail); try go_wp2)
  go_loopg [13] k (fun kq v13 w' => ∃ (x13_1 : Int), v13 = .int .i64 x13_1 ∧ Aside0 (labels_Same.l0 kq l0 l1 (l0.length : Int) x13_1 = some r) ∧ Aside0 (kq ≤ k) ∧ Drawn0 w w')
  case atStart => exact ⟨(0), y15_, H', ⟨Nat.le_refl _⟩, y30_⟩
  case round =>
   clear H'
   try clear c1
   try clear p2
   try clear c3
   try clear c3b0
   try clear c3b1
   try clear c3b2
   obtain ⟨x13_1, rfl, HA, HK1, ⟨m1, rfl⟩⟩ := hrel
   cases gk with
   | zero => exact absurd HA.out (by simp [labels_Same.l0])
   | succ k1 =>
    have H := HA.out
    clear HA
    simp only [labels_Same.l0] at H
    by_cases c4 : x13_1 < (l0.length : Int)
    ·rw [if_pos c4] at H
     have c4b0 : decide (x13_1 < (l0.length : Int)) = true := decide_eq_true c4
     clear c4
     by_cases c5 : 0 ≤ x13_1
     ·rw [if_pos c5] at H
      have c5b0 : decide (0 ≤ x13_1) = true := decide_eq_true c5
      clear c5
      by_cases c6 : x13_1 < (l0.length : Int)
      ·rw [if_pos c6] at H
       have c6b0 : decide (x13_1 < (l0.length : Int)) = true := decide_eq_true c6
       clear c6
       by_cases c7 : x13_1 < (l1.length : Int)
       ·rw [if_pos c7] at H
        have c7b0 : decide (x13_1 < (l1.length : Int)) = true := decide_eq_true c7
        clear c7
        by_cases c8 : (!((((rd_T52 l0 x13_1).f0).toList) == (((rd_T52 l1 x13_1).f0).toList)) || (!((((rd_T52 l0 x13_1).f1).toList) == (((rd_T52 l1 x13_1).f1).toList)))) = true
        ·rw [if_pos c8] at H
         have c8b0 : (!((((rd_T52 l0 x13_1).f0).toList) == (((rd_T52 l1 x13_1).f0).toList)) || (!((((rd_T52 l0 x13_1).f1).toList) == (((rd_T52 l1 x13_1).f1).toList)))) = true := c8
         clear c8
         obtain rfl := Option.some.inj H
         have p595 : 0 ≤ (x13_1 : Int) := of_decide_eq_true y7_
         have q595 : x13_1 < (l0.length : Int) := of_decide_eq_true y7_
         obtain ⟨ad595, e595, hx595_0, hx595_1⟩ := at_T52 HR0.out x13_1 p595 q595
         cases e595
         replace p595 := eq_true p595
         replace q595 := eq_true q595
         have p596 : 0 ≤ (x13_1 : Int) := of_decide_eq_true y7_
         have q596 : x13_1 < (l1.length : Int) := of_decide_eq_true y7_
         obtain ⟨ad596, e596, hx596_0, hx596_1⟩ := at_T52 HR1.out x13_1 p596 q596
         cases e596
         replace p596 := eq_true p596
         replace q596 := eq_true q596
         go_wp2
         repeat (go_quiet (fail); try go_wp2)
         go_ret
         exact ⟨y42_, y30_⟩
        ·rw [if_neg c8] at H
         have c8b0 : (!((((rd_T52 l0 x13_1).f0).toList) == (((rd_T52 l1 x13_1).f0).toList)) || (!((((rd_T52 l0 x13_1).f1).toList) == (((rd_T52 l1 x13_1).f1).toList)))) = false := by simpa using c8
         clear c8
         have H' := Aside0.mk H
         clear H
         have p595 : 0 ≤ (x13_1 : Int) := of_decide_eq_true y7_
         have q595 : x13_1 < (l0.length : Int) := of_decide_eq_true y7_
         obtain ⟨ad595, e595, hx595_0, hx595_1⟩ := at_T52 HR0.out x13_1 p595 q595
         cases e595
         replace p595 := eq_true p595
         replace q595 := eq_true q595
         have p596 : 0 ≤ (x13_1 : Int) := of_decide_eq_true y7_
         have q596 : x13_1 < (l1.length : Int) := of_decide_eq_true y7_
         obtain ⟨ad596, e596, hx596_0, hx596_1⟩ := at_T52 HR1.out x13_1 p596 q596
         cases e596
         replace p596 := eq_true p596
         replace q596 := eq_true q596
         go_wp2
         repeat (go_quiet (fail); try go_wp2)
         go_roundg k1
         case measure => have := HK1.out; omega
         case rel => exact ⟨(wrap64 (x13_1 + 1)), y15_, H', ⟨by have := HK1.out; omega⟩, y30_⟩
       ·rw [if_neg c7] at H
        exact absurd H (by simp)
      ·rw [if_neg c6] at H
       exact absurd H (by simp)
     ·rw [if_neg c5] at H
      exact absurd H (by simp)
    ·rw [if_neg c4] at H
     have c4b0 : decide (x13_1 < (l0.length : Int)) = false := decide_eq_false c4
     clear c4
     obtain rfl := Option.some.inj H
     go_wp2
     repeat (go_quiet (fail); try go_wp2)
     go_ret
     exact ⟨y42_, y30_⟩
 ·rw [if_neg c3] at H
  have c3b0 : ((l0.length : Int) == (l1.length : Int)) = false := beq_eq_false_iff_ne.mpr c3
  have c3b1 : ((l0.length : Int) != (l1.length : Int)) = true := bne_iff_ne.mpr c3
  have c3b2 : (l0.length == l1.length) = false := by first | simpa using c3 | (simp at c3 ⊢; omega)
  obtain rfl := Option.some.inj H
  go_enter Tryd.func37, Tryd.ntmps37
  go_wp2
  repeat (go_quiet (fail); try go_wp2)
  go_ret
  exact ⟨y42_, y30_⟩
mutual
def record_Same.j0 : Nat → Bool → Int → Int → List (S52) → List (S45) → Int → Int → List (S52) → List (S45) → Option (Bool)
 | 0, _, _, _, _, _, _, _, _, _ => none
 | k + 1, x34, x598000, x598001, x598002, x598003, x599000, x599001, x599002, x599003 => if x34 = true then (some false) else (record_Same.l0 k (x598003.length : Int) 0 x598000 x598001 x598002 x598003 x599000 x599001 x599002 x599003)
def record_Same.l0 : Nat → Int → Int → Int → Int → List (S52) → List (S45) → Int → Int → List (S52) → List (S45) → Option (Bool)
 | 0, _, _, _, _, _, _, _, _, _, _ => none
 | k + 1, x37, x38, x598000, x598001, x598002, x598003, x599000, x599001, x599002, x599003 => if x38 < x37 then (if 0 ≤ x38 then (if x38 < (x598003.length : Int) then (if x38 < (x599003.length : Int) then (if (!(((rd_T45 x598003 x38).f0) == ((rd_T45 x599003 x38).f0)) || ((!(((rd_T45 x598003 x38).f1.f0) == ((rd_T45 x599003 x38).f1.f0)) || (!(((rd_T45 x598003 x38).f1.f1) == ((rd_T45 x599003 x38).f1.f1)) || (!(((rd_T45 x598003 x38).f1.f2) == ((rd_T45 x599003 x38).f1.f2))))))) = true then (some false) else (record_Same.l0 k x37 (wrap64 (x38 + 1)) x598000 x598001 x598002 x598003 x599000 x599001 x599002 x599003)) else (none)) else (none)) else (none)) else (some true)
end
def record_Same.f (k : Nat) (a0_0 : Int) (a0_1 : Int) (l0_2 : List (S52)) (l0_3 : List (S45)) (a1_0 : Int) (a1_1 : Int) (l1_2 : List (S52)) (l1_3 : List (S45)) : Option (Bool) := if a0_0 = a1_0 then (if a0_1 = a1_1 then (if (l0_3.length : Int) = (l1_3.length : Int) then ((labels_Same.f k l0_2 l1_2).bind fun t599 => (record_Same.j0 k (!t599) a0_0 a0_1 l0_2 l0_3 a1_0 a1_1 l1_2 l1_3)) else (record_Same.j0 k true a0_0 a0_1 l0_2 l0_3 a1_0 a1_1 l1_2 l1_3)) else (record_Same.j0 k true a0_0 a0_1 l0_2 l0_3 a1_0 a1_1 l1_2 l1_3)) else (record_Same.j0 k true a0_0 a0_1 l0_2 l0_3 a1_0 a1_1 l1_2 l1_3)
set_option maxHeartbeats 8000000 in
set_option maxRecDepth 100000 in
theorem record_Same.calls (k : Nat) (a0_0 : Int) (a0_1 : Int) (A0_2 : Option Addr) (c0_2 : Nat) (l0_2 : List (S52)) (A0_3 : Option Addr) (c0_3 : Nat) (l0_3 : List (S45)) (a1_0 : Int) (a1_1 : Int) (A1_2 : Option Addr) (c1_2 : Nat) (l1_2 : List (S52)) (A1_3 : Option Addr) (c1_3 : Nat) (l1_3 : List (S45)) (r : Bool) (w : World) (hr0_2 : Kd.C k52 w A0_2 l0_2.length l0_2) (hc0_2 : l0_2.length ≤ c0_2) (hr0_3 : Kd.C k45 w A0_3 l0_3.length l0_3) (hc0_3 : l0_3.length ≤ c0_3) (hr1_2 : Kd.C k52 w A1_2 l1_2.length l1_2) (hc1_2 : l1_2.length ≤ c1_2) (hr1_3 : Kd.C k45 w A1_3 l1_3.length l1_3) (hc1_3 : l1_3.length ≤ c1_3) (h : record_Same.f k a0_0 a0_1 l0_2 l0_3 a1_0 a1_1 l1_2 l1_3 = some r) :
  Calls Tryd.prog 19 #[.agg #[.int .i64 a0_0, .int .u32 a0_1, .slice A0_2 l0_2.length c0_2, .slice A0_3 l0_3.length c0_3], .agg #[.int .i64 a1_0, .int .u32 a1_1, .slice A1_2 l1_2.length c1_2, .slice A1_3 l1_3.length c1_3]] w fun e w' => e = .returned (.bool r) ∧ Below w.heap.size w w' := by
 have hu29 := Tryd.underlying29
 have hu45 := Tryd.underlying45
 have HR0_2 := Aside0.mk hr0_2
 have HC0_2 := Aside0.mk hc0_2
 clear hr0_2 hc0_2
 have HR0_3 := Aside0.mk hr0_3
 have HC0_3 := Aside0.mk hc0_3
 clear hr0_3 hc0_3
 have HR1_2 := Aside0.mk hr1_2
 have HC1_2 := Aside0.mk hc1_2
 clear hr1_2 hc1_2
 have HR1_3 := Aside0.mk hr1_3
 have HC1_3 := Aside0.mk hc1_3
 clear hr1_3 hc1_3
 have HB := Aside0.mk (Below.refl w.heap.size w)
 have H : (if a0_0 = a1_0 then (if a0_1 = a1_1 then (if (l0_3.length : Int) = (l1_3.length : Int) then ((labels_Same.f k l0_2 l1_2).bind fun t599 => (record_Same.j0 k (!t599) a0_0 a0_1 l0_2 l0_3 a1_0 a1_1 l1_2 l1_3)) else (record_Same.j0 k true a0_0 a0_1 l0_2 l0_3 a1_0 a1_1 l1_2 l1_3)) else (record_Same.j0 k true a0_0 a0_1 l0_2 l0_3 a1_0 a1_1 l1_2 l1_3)) else (record_Same.j0 k true a0_0 a0_1 l0_2 l0_3 a1_0 a1_1 l1_2 l1_3)) = some r := h
 clear h
 have HC3 := Aside0.mk H
 clear H
 go_enter Tryd.func19, Tryd.ntmps19
 go_upto_region 1 with (first | ((with_reducible refine gate_dst (N := 2) rfl ?_); (try (refine gate_guard (by rfl) ?_; dsimp only)); refine box_event ?hg (N := 2) ?hd (cs := #[.int .i64 a0_0, .int .u32 a0_1, .slice A0_2 l0_2.length c0_2, .slice A0_3 l0_3.length c0_3]) (t := 29) ?hr ?_; (case hd => rfl); (case hg => rfl); (case hr => first | (go_simp; done) | (go_simp; rfl)); intro gb597 hg w4 hbox hb; have n0_ := Aside0.mk (below_step y1_ hb); have n1_ := Aside0.mk (hbox); have n2_ := Aside0.mk ((y29_ : w.heap.size ≤ gb597)); have n3_ := Aside0.mk ((y29_ : w.heap.size ≤ gb597)); clear HB; have HB := n0_; have BK597 := n1_; have GW597 := n2_; have GE597 := n3_; clear n0_ n1_ n2_ n3_; clear hb hbox hg) | ((with_reducible refine gate_dst (N := 3) rfl ?_); (try (refine gate_guard (by rfl) ?_; dsimp only)); refine box_event ?hg (N := 3) ?hd (cs := #[.int .i64 a1_0, .int .u32 a1_1, .slice A1_2 l1_2.length c1_2, .slice A1_3 l1_3.length c1_3]) (t := 29) ?hr ?_; (case hd => rfl); (case hg => rfl); (case hr => first | (go_simp; done) | (go_simp; rfl)); intro gb598 hg w5 hbox hb; have n0_ := Aside0.mk (blk_below (g := gb597) (o := .cells #[.int .i64 a0_0, .int .u32 a0_1, .slice A0_2 l0_2.length c0_2, .slice A0_3 l0_3.length c0_3] 29 (0, 0)) y36_ hb); have n1_ := Aside0.mk (below_step y41_ hb); have n2_ := Aside0.mk (hbox); have n3_ := Aside0.mk ((by rw [hg]; exact (below_size y41_) : w.heap.size ≤ gb598)); have n4_ := Aside0.mk ((by rw [hg]; exact (below_size y41_) : w.heap.size ≤ gb598)); have n5_ := Aside0.mk ((y91_ : gb597 ≠ gb598)); have n6_ := Aside0.mk ((y92_ : gb598 ≠ gb597)); clear BK597; clear HB; have BK597 := n0_; have HB := n1_; have BK598 := n2_; have GW598 := n3_; have GE598 := n4_; have NB597_598 := n5_; have NB598_597 := n6_; clear n0_ n1_ n2_ n3_ n4_ n5_ n6_; clear hb hbox hg))
 repeat (go_quiet (first | ((with_reducible refine gate_dst (N := 2) rfl ?_); (try (refine gate_guard (by rfl) ?_; dsimp only)); refine box_event ?hg (N := 2) ?hd (cs := #[.int .i64 a0_0, .int .u32 a0_1, .slice A0_2 l0_2.length c0_2, .slice A0_3 l0_3.length c0_3]) (t := 29) ?hr ?_; (case hd => rfl); (case hg => rfl); (case hr => first | (go_simp; done) | (go_simp; rfl)); intro gb597 hg w4 hbox hb; have n0_ := Aside0.mk (below_step y1_ hb); have n1_ := Aside0.mk (hbox); have n2_ := Aside0.mk ((y29_ : w.heap.size ≤ gb597)); have n3_ := Aside0.mk ((y29_ : w.heap.size ≤ gb597)); clear HB; have HB := n0_; have BK597 := n1_; have GW597 := n2_; have GE597 := n3_; clear n0_ n1_ n2_ n3_; clear hb hbox hg) | ((with_reducible refine gate_dst (N := 3) rfl ?_); (try (refine gate_guard (by rfl) ?_; dsimp only)); refine box_event ?hg (N := 3) ?hd (cs := #[.int .i64 a1_0, .int .u32 a1_1, .slice A1_2 l1_2.length c1_2, .slice A1_3 l1_3.length c1_3]) (t := 29) ?hr ?_; (case hd => rfl); (case hg => rfl); (case hr => first | (go_simp; done) | (go_simp; rfl)); intro gb598 hg w5 hbox hb; have n0_ := Aside0.mk (blk_below (g := gb597) (o := .cells #[.int .i64 a0_0, .int .u32 a0_1, .slice A0_2 l0_2.length c0_2, .slice A0_3 l0_3.length c0_3] 29 (0, 0)) y36_ hb); have n1_ := Aside0.mk (below_step y41_ hb); have n2_ := Aside0.mk (hbox); have n3_ := Aside0.mk ((by rw [hg]; exact (below_size y41_) : w.heap.size ≤ gb598)); have n4_ := Aside0.mk ((by rw [hg]; exact (below_size y41_) : w.heap.size ≤ gb598)); have n5_ := Aside0.mk ((y91_ : gb597 ≠ gb598)); have n6_ := Aside0.mk ((y92_ : gb598 ≠ gb597)); clear BK597; clear HB; have BK597 := n0_; have HB := n1_; have BK598 := n2_; have GW598 := n3_; have GE598 := n4_; have NB597_598 := n5_; have NB598_597 := n6_; clear n0_ n1_ n2_ n3_ n4_ n5_ n6_; clear hb hbox hg)); go_upto_region 1 with (first | ((with_reducible refine gate_dst (N := 2) rfl ?_); (try (refine gate_guard (by rfl) ?_; dsimp only)); refine box_event ?hg (N := 2) ?hd (cs := #[.int .i64 a0_0, .int .u32 a0_1, .slice A0_2 l0_2.length c0_2, .slice A0_3 l0_3.length c0_3]) (t := 29) ?hr ?_; (case hd => rfl); (case hg => rfl); (case hr => first | (go_simp; done) | (go_simp; rfl)); intro gb597 hg w4 hbox hb; have n0_ := Aside0.mk (below_step y1_ hb); have n1_ := Aside0.mk (hbox); have n2_ := Aside0.mk ((y29_ : w.heap.size ≤ gb597)); have n3_ := Aside0.mk ((y29_ : w.heap.size ≤ gb597)); clear HB; have HB := n0_; have BK597 := n1_; have GW597 := n2_; have GE597 := n3_; clear n0_ n1_ n2_ n3_; clear hb hbox hg) | ((with_reducible refine gate_dst (N := 3) rfl ?_); (try (refine gate_guard (by rfl) ?_; dsimp only)); refine box_event ?hg (N := 3) ?hd (cs := #[.int .i64 a1_0, .int .u32 a1_1, .slice A1_2 l1_2.length c1_2, .slice A1_3 l1_3.length c1_3]) (t := 29) ?hr ?_; (case hd => rfl); (case hg => rfl); (case hr => first | (go_simp; done) | (go_simp; rfl)); intro gb598 hg w5 hbox hb; have n0_ := Aside0.mk (blk_below (g := gb597) (o := .cells #[.int .i64 a0_0, .int .u32 a0_1, .slice A0_2 l0_2.length c0_2, .slice A0_3 l0_3.length c0_3] 29 (0, 0)) y36_ hb); have n1_ := Aside0.mk (below_step y41_ hb); have n2_ := Aside0.mk (hbox); have n3_ := Aside0.mk ((by rw [hg]; exact (below_size y41_) : w.heap.size ≤ gb598)); have n4_ := Aside0.mk ((by rw [hg]; exact (below_size y41_) : w.heap.size ≤ gb598)); have n5_ := Aside0.mk ((y91_ : gb597 ≠ gb598)); have n6_ := Aside0.mk ((y92_ : gb598 ≠ gb597)); clear BK597; clear HB; have BK597 := n0_; have HB := n1_; have BK598 := n2_; have GW598 := n3_; have GE598 := n4_; have NB597_598 := n5_; have NB598_597 := n6_; clear n0_ n1_ n2_ n3_ n4_ n5_ n6_; clear hb hbox hg)))
 (try simp only [Act.put, List.setIfInBounds_toArray, List.set_cons_zero, List.set_cons_succ])
 go_cut [34] (fun v34 wc => ∃ (kq : Nat) (x34_2 : Bool), v34 = .bool x34_2 ∧ Aside0 (record_Same.j0 kq x34_2 a0_0 a0_1 l0_2 l0_3 a1_0 a1_1 l1_2 l1_3 = some r) ∧ Aside0 (kq ≤ k) ∧ Aside0 (wc.heap[gb597]? = some (.cells #[.int .i64 a0_0, .int .u32 a0_1, (.slice A0_2 l0_2.length c0_2), (.slice A0_3 l0_3.length c0_3)] 29 (0, 0))) ∧ Aside0 (wc.heap[gb598]? = some (.cells #[.int .i64 a1_0, .int .u32 a1_1, (.slice A1_2 l1_2.length c1_2), (.slice A1_3 l1_3.length c1_3)] 29 (0, 0))) ∧ Aside0 (Below w.heap.size w wc))
 case first =>
  have H := HC3.out
  clear HC3
  by_cases c6 : a0_0 = a1_0
  ·rw [if_pos c6] at H
   have c6b0 : (a0_0 == a1_0) = true := beq_iff_eq.mpr c6
   have c6b1 : (a0_0 != a1_0) = false := bne_eq_false_iff_eq.mpr c6
   clear c6
   (first | rw [c6b0] | (simp only [i64_w, i32_w]; rw [c6b0]) | skip)
   by_cases c7 : a0_1 = a1_1
   ·rw [if_pos c7] at H
    have c7b0 : (a0_1 == a1_1) = true := beq_iff_eq.mpr c7
    have c7b1 : (a0_1 != a1_1) = false := bne_eq_false_iff_eq.mpr c7
    clear c7
    by_cases c8 : (l0_3.length : Int) = (l1_3.length : Int)
    ·rw [if_pos c8] at H
     have c8b0 : ((l0_3.length : Int) == (l1_3.length : Int)) = true := beq_iff_eq.mpr c8
     have c8b1 : ((l0_3.length : Int) != (l1_3.length : Int)) = false := bne_eq_false_iff_eq.mpr c8
     have c8b2 : (l0_3.length == l1_3.length) = true := by first | simpa using c8 | (simp at c8 ⊢; omega)
     clear c8
     replace H := Option.bind_eq_some_iff.mp H
     obtain ⟨t599, A90, H⟩ := H
     replace H : (record_Same.j0 k (!t599) a0_0 a0_1 l0_2 l0_3 a1_0 a1_1 l1_2 l1_3) = some r := H
     have A9 := Aside0.mk A90
     clear A90
     have H' := Aside0.mk H
     clear H
     have hnb10 := NB597_598.out
     have hnc10 := NB598_597.out
     have hcz11_0 : w5.cell? ⟨gb597, 0, none⟩ = some (.int .i64 a0_0) := (blk_cell BK597.out 0).trans rfl
     have hcz11_1 : w5.cell? ⟨gb597, 1, none⟩ = some (.int .u32 a0_1) := (blk_cell BK597.out 1).trans rfl
     have hcz11_2 : w5.cell? ⟨gb597, 2, none⟩ = some (.slice A0_2 l0_2.length c0_2) := (blk_cell BK597.out 2).trans rfl
     have hcz11_3 : w5.cell? ⟨gb597, 3, none⟩ = some (.slice A0_3 l0_3.length c0_3) := (blk_cell BK597.out 3).trans rfl
     have hfz11_0 := blk_frozen BK597.out 0
     have hfz11_1 := blk_frozen BK597.out 1
     have hfz11_2 := blk_frozen BK597.out 2
     have hfz11_3 := blk_frozen BK597.out 3
     have hcz12_0 : w5.cell? ⟨gb598, 0, none⟩ = some (.int .i64 a1_0) := (blk_cell BK598.out 0).trans rfl
     have hcz12_1 : w5.cell? ⟨gb598, 1, none⟩ = some (.int .u32 a1_1) := (blk_cell BK598.out 1).trans rfl
     have hcz12_2 : w5.cell? ⟨gb598, 2, none⟩ = some (.slice A1_2 l1_2.length c1_2) := (blk_cell BK598.out 2).trans rfl
     have hcz12_3 : w5.cell? ⟨gb598, 3, none⟩ = some (.slice A1_3 l1_3.length c1_3) := (blk_cell BK598.out 3).trans rfl
     have hfz12_0 := blk_frozen BK598.out 0
     have hfz12_1 := blk_frozen BK598.out 1
     have hfz12_2 := blk_frozen BK598.out 2
     have hfz12_3 := blk_frozen BK598.out 3
     go_wp2_with (first | (go_at_call 37; (with_reducible refine (labels_Same.calls k _ _ l0_2 _ _ l1_2 t599 _ ?side1 ?side2 ?side3 ?side4 A9.out).mono ?_); (case side1 => repeat (first | exact (Kd.C_below HR0_2.out HB.out) | (with_reducible refine Kd.C_alloc ?_ _) | (with_reducible refine Kd.C_drewN ?_ _) | (with_reducible refine Kd.C_drew ?_))); (case side2 => exact HC0_2.out); (case side3 => repeat (first | exact (Kd.C_below HR1_2.out HB.out) | (with_reducible refine Kd.C_alloc ?_ _) | (with_reducible refine Kd.C_drewN ?_ _) | (with_reducible refine Kd.C_drew ?_))); (case side4 => exact HC1_2.out); rintro e w' ⟨rfl, ⟨nd, rfl⟩⟩; (try first | exact ⟨rfl, _, World.drewN_drewN _ _ _⟩ | exact ⟨rfl, _, Eq.trans (World.drewN_drewN _ _ _) (congrArg (World.drewN _) (Nat.add_assoc _ _ _))⟩)))
     repeat (go_quiet (first | (go_at_call 37; (with_reducible refine (labels_Same.calls k _ _ l0_2 _ _ l1_2 t599 _ ?side1 ?side2 ?side3 ?side4 A9.out).mono ?_); (case side1 => repeat (first | exact (Kd.C_below HR0_2.out HB.out) | (with_reducible refine Kd.C_alloc ?_ _) | (with_reducible refine Kd.C_drewN ?_ _) | (with_reducible refine Kd.C_drew ?_))); (case side2 => exact HC0_2.out); (case side3 => repeat (first | exact (Kd.C_below HR1_2.out HB.out) | (with_reducible refine Kd.C_alloc ?_ _) | (with_reducible refine Kd.C_drewN ?_ _) | (with_reducible refine Kd.C_drew ?_))); (case side4 => exact HC1_2.out); rintro e w' ⟨rfl, ⟨nd, rfl⟩⟩; (try first | exact ⟨rfl, _, World.drewN_drewN _ _ _⟩ | exact ⟨rfl, _, Eq.trans (World.drewN_drewN _ _ _) (congrArg (World.drewN _) (Nat.add_assoc _ _ _))⟩))); try go_wp2_with (first | (go_at_call 37; (with_reducible refine (labels_Same.calls k _ _ l0_2 _ _ l1_2 t599 _ ?side1 ?side2 ?side3 ?side4 A9.out).mono ?_); (case side1 => repeat (first | exact (Kd.C_below HR0_2.out HB.out) | (with_reducible refine Kd.C_alloc ?_ _) | (with_reducible refine Kd.C_drewN ?_ _) | (with_reducible refine Kd.C_drew ?_))); (case side2 => exact HC0_2.out); (case side3 => repeat (first | exact (Kd.C_below HR1_2.out HB.out) | (with_reducible refine Kd.C_alloc ?_ _) | (with_reducible refine Kd.C_drewN ?_ _) | (with_reducible refine Kd.C_drew ?_))); (case side4 => exact HC1_2.out); rintro e w' ⟨rfl, ⟨nd, rfl⟩⟩; (try first | exact ⟨rfl, _, World.drewN_drewN _ _ _⟩ | exact ⟨rfl, _, Eq.trans (World.drewN_drewN _ _ _) (congrArg (World.drewN _) (Nat.add_assoc _ _ _))⟩))))
     go_meet
     case rel => exact ⟨_, (!t599), y15_, H', ⟨y85_⟩, ⟨y36_⟩, ⟨y64_⟩, ⟨y37_⟩⟩
    ·rw [if_neg c8] at H
     have c8b0 : ((l0_3.length : Int) == (l1_3.length : Int)) = false := beq_eq_false_iff_ne.mpr c8
     have c8b1 : ((l0_3.length : Int) != (l1_3.length : Int)) = true := bne_iff_ne.mpr c8
     have c8b2 : (l0_3.length == l1_3.length) = false := by first | simpa using c8 | (simp at c8 ⊢; omega)
     have H' := Aside0.mk H
     clear H
     have hnb13 := NB597_598.out
     have hnc13 := NB598_597.out
     have hcz14_0 : w5.cell? ⟨gb597, 0, none⟩ = some (.int .i64 a0_0) := (blk_cell BK597.out 0).trans rfl
     have hcz14_1 : w5.cell? ⟨gb597, 1, none⟩ = some (.int .u32 a0_1) := (blk_cell BK597.out 1).trans rfl
     have hcz14_2 : w5.cell? ⟨gb597, 2, none⟩ = some (.slice A0_2 l0_2.length c0_2) := (blk_cell BK597.out 2).trans rfl
     have hcz14_3 : w5.cell? ⟨gb597, 3, none⟩ = some (.slice A0_3 l0_3.length c0_3) := (blk_cell BK597.out 3).trans rfl
     have hfz14_0 := blk_frozen BK597.out 0
     have hfz14_1 := blk_frozen BK597.out 1
     have hfz14_2 := blk_frozen BK597.out 2
     have hfz14_3 := blk_frozen BK597.out 3
     have hcz15_0 : w5.cell? ⟨gb598, 0, none⟩ = some (.int .i64 a1_0) := (blk_cell BK598.out 0).trans rfl
     have hcz15_1 : w5.cell? ⟨gb598, 1, none⟩ = some (.int .u32 a1_1) := (blk_cell BK598.out 1).trans rfl
     have hcz15_2 : w5.cell? ⟨gb598, 2, none⟩ = some (.slice A1_2 l1_2.length c1_2) := (blk_cell BK598.out 2).trans rfl
     have hcz15_3 : w5.cell? ⟨gb598, 3, none⟩ = some (.slice A1_3 l1_3.length c1_3) := (blk_cell BK598.out 3).trans rfl
     have hfz15_0 := blk_frozen BK598.out 0
     have hfz15_1 := blk_frozen BK598.out 1
     have hfz15_2 := blk_frozen BK598.out 2
     have hfz15_3 := blk_frozen BK598.out 3
     go_wp2
     repeat (go_quiet (fail); try go_wp2)
     go_meet
     case rel => exact ⟨_, (true), y15_, H', ⟨y85_⟩, ⟨y36_⟩, ⟨y64_⟩, ⟨y37_⟩⟩
   ·rw [if_neg c7] at H
    have c7b0 : (a0_1 == a1_1) = false := beq_eq_false_iff_ne.mpr c7
    have c7b1 : (a0_1 != a1_1) = true := bne_iff_ne.mpr c7
    have H' := Aside0.mk H
    clear H
    have hnb16 := NB597_598.out
    have hnc16 := NB598_597.out
    have hcz17_0 : w5.cell? ⟨gb597, 0, none⟩ = some (.int .i64 a0_0) := (blk_cell BK597.out 0).trans rfl
    have hcz17_1 : w5.cell? ⟨gb597, 1, none⟩ = some (.int .u32 a0_1) := (blk_cell BK597.out 1).trans rfl
    have hcz17_2 : w5.cell? ⟨gb597, 2, none⟩ = some (.slice A0_2 l0_2.length c0_2) := (blk_cell BK597.out 2).trans rfl
    have hcz17_3 : w5.cell? ⟨gb597, 3, none⟩ = some (.slice A0_3 l0_3.length c0_3) := (blk_cell BK597.out 3).trans rfl
    have hfz17_0 := blk_frozen BK597.out 0
    have hfz17_1 := blk_frozen BK597.out 1
    have hfz17_2 := blk_frozen BK597.out 2
    have hfz17_3 := blk_frozen BK597.out 3
    have hcz18_0 : w5.cell? ⟨gb598, 0, none⟩ = some (.int .i64 a1_0) := (blk_cell BK598.out 0).trans rfl
    have hcz18_1 : w5.cell? ⟨gb598, 1, none⟩ = some (.int .u32 a1_1) := (blk_cell BK598.out 1).trans rfl
    have hcz18_2 : w5.cell? ⟨gb598, 2, none⟩ = some (.slice A1_2 l1_2.length c1_2) := (blk_cell BK598.out 2).trans rfl
    have hcz18_3 : w5.cell? ⟨gb598, 3, none⟩ = some (.slice A1_3 l1_3.length c1_3) := (blk_cell BK598.out 3).trans rfl
    have hfz18_0 := blk_frozen BK598.out 0
    have hfz18_1 := blk_frozen BK598.out 1
    have hfz18_2 := blk_frozen BK598.out 2
    have hfz18_3 := blk_frozen BK598.out 3
    go_wp2
    repeat (go_quiet (fail); try go_wp2)
    go_meet
    case rel => exact ⟨_, (true), y15_, H', ⟨y85_⟩, ⟨y36_⟩, ⟨y64_⟩, ⟨y37_⟩⟩
  ·rw [if_neg c6] at H
   have c6b0 : (a0_0 == a1_0) = false := beq_eq_false_iff_ne.mpr c6
   have c6b1 : (a0_0 != a1_0) = true := bne_iff_ne.mpr c6
   (first | rw [c6b0] | (simp only [i64_w, i32_w]; rw [c6b0]) | skip)
   have H' := Aside0.mk H
   clear H
   have hnb19 := NB597_598.out
   have hnc19 := NB598_597.out
   have hcz20_0 : w5.cell? ⟨gb597, 0, none⟩ = some (.int .i64 a0_0) := (blk_cell BK597.out 0).trans rfl
   have hcz20_1 : w5.cell? ⟨gb597, 1, none⟩ = some (.int .u32 a0_1) := (blk_cell BK597.out 1).trans rfl
   have hcz20_2 : w5.cell? ⟨gb597, 2, none⟩ = some (.slice A0_2 l0_2.length c0_2) := (blk_cell BK597.out 2).trans rfl
   have hcz20_3 : w5.cell? ⟨gb597, 3, none⟩ = some (.slice A0_3 l0_3.length c0_3) := (blk_cell BK597.out 3).trans rfl
   have hfz20_0 := blk_frozen BK597.out 0
   have hfz20_1 := blk_frozen BK597.out 1
   have hfz20_2 := blk_frozen BK597.out 2
   have hfz20_3 := blk_frozen BK597.out 3
   have hcz21_0 : w5.cell? ⟨gb598, 0, none⟩ = some (.int .i64 a1_0) := (blk_cell BK598.out 0).trans rfl
   have hcz21_1 : w5.cell? ⟨gb598, 1, none⟩ = some (.int .u32 a1_1) := (blk_cell BK598.out 1).trans rfl
   have hcz21_2 : w5.cell? ⟨gb598, 2, none⟩ = some (.slice A1_2 l1_2.length c1_2) := (blk_cell BK598.out 2).trans rfl
   have hcz21_3 : w5.cell? ⟨gb598, 3, none⟩ = some (.slice A1_3 l1_3.length c1_3) := (blk_cell BK598.out 3).trans rfl
   have hfz21_0 := blk_frozen BK598.out 0
   have hfz21_1 := blk_frozen BK598.out 1
   have hfz21_2 := blk_frozen BK598.out 2
   have hfz21_3 := blk_frozen BK598.out 3
   go_wp2
   repeat (go_quiet (fail); try go_wp2)
   go_meet
   case rel => exact ⟨_, (true), y15_, H', ⟨y85_⟩, ⟨y36_⟩, ⟨y64_⟩, ⟨y37_⟩⟩
 case rest =>
  clear HC3
  try clear c1
  try clear p2
  try clear c6
  try clear c6b0
  try clear c6b1
  try clear c7
  try clear c7b0
  try clear c7b1
  try clear c8
  try clear c8b0
  try clear c8b1
  try clear c8b2
  try clear c10
  try clear c13
  try clear c16
  try clear c19
  try clear hcz11_0
  try clear hcz11_1
  try clear hcz11_2
  try clear hcz11_3
  try clear hcz12_0
  try clear hcz12_1
  try clear hcz12_2
  try clear hcz12_3
  try clear hcz14_0
  try clear hcz14_1
  try clear hcz14_2
  try clear hcz14_3
  try clear hcz15_0
  try clear hcz15_1
  try clear hcz15_2
  try clear hcz15_3
  try clear hcz17_0
  try clear hcz17_1
  try clear hcz17_2
  try clear hcz17_3
  try clear hcz18_0
  try clear hcz18_1
  try clear hcz18_2
  try clear hcz18_3
  try clear hcz20_0
  try clear hcz20_1
  try clear hcz20_2
  try clear hcz20_3
  try clear hcz21_0
  try clear hcz21_1
  try clear hcz21_2
  try clear hcz21_3
  try clear hfz11_0
  try clear hfz11_1
  try clear hfz11_2
  try clear hfz11_3
  try clear hfz12_0
  try clear hfz12_1
  try clear hfz12_2
  try clear hfz12_3
  try clear hfz14_0
  try clear hfz14_1
  try clear hfz14_2
  try clear hfz14_3
  try clear hfz15_0
  try clear hfz15_1
  try clear hfz15_2
  try clear hfz15_3
  try clear hfz17_0
  try clear hfz17_1
  try clear hfz17_2
  try clear hfz17_3
  try clear hfz18_0
  try clear hfz18_1
  try clear hfz18_2
  try clear hfz18_3
  try clear hfz20_0
  try clear hfz20_1
  try clear hfz20_2
  try clear hfz20_3
  try clear hfz21_0
  try clear hfz21_1
  try clear hfz21_2
  try clear hfz21_3
  obtain ⟨kq, x34_2, rfl, HA, HJ2, BK597, BK598, HB⟩ := hcut
  cases kq with
  | zero => exact absurd HA.out (by simp [record_Same.j0])
  | succ kj2 =>
   have H := HA.out
   clear HA
   simp only [record_Same.j0] at H
   by_cases c22 : x34_2 = true
   ·subst c22
    have H1 : (some false) = some r := by rw [if_pos rfl] at H; exact H
    clear H
    have H := H1
    clear H1
    obtain rfl := Option.some.inj H
    go_wp2
    repeat (go_quiet (fail); try go_wp2)
    go_ret
    exact ⟨y8_, y37_⟩
   ·replace c22 := Bool.eq_false_iff.mpr c22
    subst c22
    have H1 : (record_Same.l0 kj2 (l0_3.length : Int) 0 a0_0 a0_1 l0_2 l0_3 a1_0 a1_1 l1_2 l1_3) = some r := by rw [if_neg (show ¬ (false = true) by decide)] at H; exact H
    clear H
    have H := H1
    clear H1
    have H' := Aside0.mk H
    clear H
    have hnb23 := NB597_598.out
    have hnc23 := NB598_597.out
    have hcz24_0 : wc.cell? ⟨gb597, 0, none⟩ = some (.int .i64 a0_0) := (blk_cell BK597.out 0).trans rfl
    have hcz24_1 : wc.cell? ⟨gb597, 1, none⟩ = some (.int .u32 a0_1) := (blk_cell BK597.out 1).trans rfl
    have hcz24_2 : wc.cell? ⟨gb597, 2, none⟩ = some (.slice A0_2 l0_2.length c0_2) := (blk_cell BK597.out 2).trans rfl
    have hcz24_3 : wc.cell? ⟨gb597, 3, none⟩ = some (.slice A0_3 l0_3.length c0_3) := (blk_cell BK597.out 3).trans rfl
    have hfz24_0 := blk_frozen BK597.out 0
    have hfz24_1 := blk_frozen BK597.out 1
    have hfz24_2 := blk_frozen BK597.out 2
    have hfz24_3 := blk_frozen BK597.out 3
    go_wp2
    repeat (go_quiet (fail); try go_wp2)
    go_loopg [38] kj2 (fun kq v38 w' => ∃ (x38_2 : Int), v38 = .int .i64 x38_2 ∧ Aside0 (record_Same.l0 kq (l0_3.length : Int) x38_2 a0_0 a0_1 l0_2 l0_3 a1_0 a1_1 l1_2 l1_3 = some r) ∧ Aside0 (kq ≤ kj2) ∧ Aside0 (w'.heap[gb597]? = some (.cells #[.int .i64 a0_0, .int .u32 a0_1, (.slice A0_2 l0_2.length c0_2), (.slice A0_3 l0_3.length c0_3)] 29 (0, 0))) ∧ Aside0 (w'.heap[gb598]? = some (.cells #[.int .i64 a1_0, .int .u32 a1_1, (.slice A1_2 l1_2.length c1_2), (.slice A1_3 l1_3.length c1_3)] 29 (0, 0))) ∧ Aside0 (Below w.heap.size w w'))
    case atStart => exact ⟨(0), y15_, H', ⟨Nat.le_refl _⟩, ⟨y36_⟩, ⟨y64_⟩, ⟨y37_⟩⟩
    case round =>
     clear H'
     try clear c1
     try clear c2
     try clear p2
     try clear c6
     try clear c6b0
     try clear c6b1
     try clear c7
     try clear c7b0
     try clear c7b1
     try clear c8
     try clear c8b0
     try clear c8b1
     try clear c8b2
     try clear c10
     try clear c13
     try clear c16
     try clear c19
     try clear c22
     try clear c23
     try clear hcz11_0
     try clear hcz11_1
     try clear hcz11_2
     try clear hcz11_3
     try clear hcz12_0
     try clear hcz12_1
     try clear hcz12_2
     try clear hcz12_3
     try clear hcz14_0
     try clear hcz14_1
     try clear hcz14_2
     try clear hcz14_3
     try clear hcz15_0
     try clear hcz15_1
     try clear hcz15_2
     try clear hcz15_3
     try clear hcz17_0
     try clear hcz17_1
     try clear hcz17_2
     try clear hcz17_3
     try clear hcz18_0
     try clear hcz18_1
     try clear hcz18_2
     try clear hcz18_3
     try clear hcz20_0
     try clear hcz20_1
     try clear hcz20_2
     try clear hcz20_3
     try clear hcz21_0
     try clear hcz21_1
     try clear hcz21_2
     try clear hcz21_3
     try clear hcz24_0
     try clear hcz24_1
     try clear hcz24_2
     try clear hcz24_3
     try clear hfz11_0
     try clear hfz11_1
     try clear hfz11_2
     try clear hfz11_3
     try clear hfz12_0
     try clear hfz12_1
     try clear hfz12_2
     try clear hfz12_3
     try clear hfz14_0
     try clear hfz14_1
     try clear hfz14_2
     try clear hfz14_3
     try clear hfz15_0
     try clear hfz15_1
     try clear hfz15_2
     try clear hfz15_3
     try clear hfz17_0
     try clear hfz17_1
     try clear hfz17_2
     try clear hfz17_3
     try clear hfz18_0
     try clear hfz18_1
     try clear hfz18_2
     try clear hfz18_3
     try clear hfz20_0
     try clear hfz20_1
     try clear hfz20_2
     try clear hfz20_3
     try clear hfz21_0
     try clear hfz21_1
     try clear hfz21_2
     try clear hfz21_3
     try clear hfz24_0
     try clear hfz24_1
     try clear hfz24_2
     try clear hfz24_3
     try clear p2
     obtain ⟨x38_2, rfl, HA, HK2, BK597, BK598, HB⟩ := hrel
     cases gk with
     | zero => exact absurd HA.out (by simp [record_Same.l0])
     | succ k2 =>
      have H := HA.out
      clear HA
      simp only [record_Same.l0] at H
      by_cases c25 : x38_2 < (l0_3.length : Int)
      ·rw [if_pos c25] at H
       have c25b0 : decide (x38_2 < (l0_3.length : Int)) = true := decide_eq_true c25
       clear c25
       by_cases c26 : 0 ≤ x38_2
       ·rw [if_pos c26] at H
        have c26b0 : decide (0 ≤ x38_2) = true := decide_eq_true c26
        clear c26
        by_cases c27 : x38_2 < (l0_3.length : Int)
        ·rw [if_pos c27] at H
         have c27b0 : decide (x38_2 < (l0_3.length : Int)) = true := decide_eq_true c27
         clear c27
         by_cases c28 : x38_2 < (l1_3.length : Int)
         ·rw [if_pos c28] at H
          have c28b0 : decide (x38_2 < (l1_3.length : Int)) = true := decide_eq_true c28
          clear c28
          by_cases c29 : (!(((rd_T45 l0_3 x38_2).f0) == ((rd_T45 l1_3 x38_2).f0)) || ((!(((rd_T45 l0_3 x38_2).f1.f0) == ((rd_T45 l1_3 x38_2).f1.f0)) || (!(((rd_T45 l0_3 x38_2).f1.f1) == ((rd_T45 l1_3 x38_2).f1.f1)) || (!(((rd_T45 l0_3 x38_2).f1.f2) == ((rd_T45 l1_3 x38_2).f1.f2))))))) = true
          ·rw [if_pos c29] at H
           have c29b0 : (!(((rd_T45 l0_3 x38_2).f0) == ((rd_T45 l1_3 x38_2).f0)) || ((!(((rd_T45 l0_3 x38_2).f1.f0) == ((rd_T45 l1_3 x38_2).f1.f0)) || (!(((rd_T45 l0_3 x38_2).f1.f1) == ((rd_T45 l1_3 x38_2).f1.f1)) || (!(((rd_T45 l0_3 x38_2).f1.f2) == ((rd_T45 l1_3 x38_2).f1.f2))))))) = true := c29
           clear c29
           obtain rfl := Option.some.inj H
           have hnb30 := NB597_598.out
           have hnc30 := NB598_597.out
           have hcz31_0 : wr.cell? ⟨gb597, 0, none⟩ = some (.int .i64 a0_0) := (blk_cell BK597.out 0).trans rfl
           have hcz31_1 : wr.cell? ⟨gb597, 1, none⟩ = some (.int .u32 a0_1) := (blk_cell BK597.out 1).trans rfl
           have hcz31_2 : wr.cell? ⟨gb597, 2, none⟩ = some (.slice A0_2 l0_2.length c0_2) := (blk_cell BK597.out 2).trans rfl
           have hcz31_3 : wr.cell? ⟨gb597, 3, none⟩ = some (.slice A0_3 l0_3.length c0_3) := (blk_cell BK597.out 3).trans rfl
           have hfz31_0 := blk_frozen BK597.out 0
           have hfz31_1 := blk_frozen BK597.out 1
           have hfz31_2 := blk_frozen BK597.out 2
           have hfz31_3 := blk_frozen BK597.out 3
           have p600 : 0 ≤ (x38_2 : Int) := of_decide_eq_true y7_
           have q600 : x38_2 < (l0_3.length : Int) := of_decide_eq_true y7_
           obtain ⟨ad600, e600, hx600_0, hx600_1, hx600_2, hx600_3⟩ := at_T45 HR0_3.out x38_2 p600 q600
           cases e600
           replace hx600_0 := (HB.out.cell (World.block_lt_of_cell? w _ hx600_0)).trans hx600_0
           replace hx600_1 := (HB.out.cell (World.block_lt_of_cell? w _ hx600_1)).trans hx600_1
           replace hx600_2 := (HB.out.cell (World.block_lt_of_cell? w _ hx600_2)).trans hx600_2
           replace hx600_3 := (HB.out.cell (World.block_lt_of_cell? w _ hx600_3)).trans hx600_3
           replace p600 := eq_true p600
           replace q600 := eq_true q600
           have hcz32_0 : wr.cell? ⟨gb598, 0, none⟩ = some (.int .i64 a1_0) := (blk_cell BK598.out 0).trans rfl
           have hcz32_1 : wr.cell? ⟨gb598, 1, none⟩ = some (.int .u32 a1_1) := (blk_cell BK598.out 1).trans rfl
           have hcz32_2 : wr.cell? ⟨gb598, 2, none⟩ = some (.slice A1_2 l1_2.length c1_2) := (blk_cell BK598.out 2).trans rfl
           have hcz32_3 : wr.cell? ⟨gb598, 3, none⟩ = some (.slice A1_3 l1_3.length c1_3) := (blk_cell BK598.out 3).trans rfl
           have hfz32_0 := blk_frozen BK598.out 0
           have hfz32_1 := blk_frozen BK598.out 1
           have hfz32_2 := blk_frozen BK598.out 2
           have hfz32_3 := blk_frozen BK598.out 3
           have p601 : 0 ≤ (x38_2 : Int) := of_decide_eq_true y7_
           have q601 : x38_2 < (l1_3.length : Int) := of_decide_eq_true y7_
           obtain ⟨ad601, e601, hx601_0, hx601_1, hx601_2, hx601_3⟩ := at_T45 HR1_3.out x38_2 p601 q601
           cases e601
           replace hx601_0 := (HB.out.cell (World.block_lt_of_cell? w _ hx601_0)).trans hx601_0
           replace hx601_1 := (HB.out.cell (World.block_lt_of_cell? w _ hx601_1)).trans hx601_1
           replace hx601_2 := (HB.out.cell (World.block_lt_of_cell? w _ hx601_2)).trans hx601_2
           replace hx601_3 := (HB.out.cell (World.block_lt_of_cell? w _ hx601_3)).trans hx601_3
           replace p601 := eq_true p601
           replace q601 := eq_true q601
           go_wp2
           repeat (go_quiet (fail); try go_wp2)
           go_ret
           exact ⟨y8_, y37_⟩
          ·rw [if_neg c29] at H
           have c29b0 : (!(((rd_T45 l0_3 x38_2).f0) == ((rd_T45 l1_3 x38_2).f0)) || ((!(((rd_T45 l0_3 x38_2).f1.f0) == ((rd_T45 l1_3 x38_2).f1.f0)) || (!(((rd_T45 l0_3 x38_2).f1.f1) == ((rd_T45 l1_3 x38_2).f1.f1)) || (!(((rd_T45 l0_3 x38_2).f1.f2) == ((rd_T45 l1_3 x38_2).f1.f2))))))) = false := by simpa using c29
           clear c29
           have H' := Aside0.mk H
           clear H
           have hnb33 := NB597_598.out
           have hnc33 := NB598_597.out
           have hcz34_0 : wr.cell? ⟨gb597, 0, none⟩ = some (.int .i64 a0_0) := (blk_cell BK597.out 0).trans rfl
           have hcz34_1 : wr.cell? ⟨gb597, 1, none⟩ = some (.int .u32 a0_1) := (blk_cell BK597.out 1).trans rfl
           have hcz34_2 : wr.cell? ⟨gb597, 2, none⟩ = some (.slice A0_2 l0_2.length c0_2) := (blk_cell BK597.out 2).trans rfl
           have hcz34_3 : wr.cell? ⟨gb597, 3, none⟩ = some (.slice A0_3 l0_3.length c0_3) := (blk_cell BK597.out 3).trans rfl
           have hfz34_0 := blk_frozen BK597.out 0
           have hfz34_1 := blk_frozen BK597.out 1
           have hfz34_2 := blk_frozen BK597.out 2
           have hfz34_3 := blk_frozen BK597.out 3
           have p600 : 0 ≤ (x38_2 : Int) := of_decide_eq_true y7_
           have q600 : x38_2 < (l0_3.length : Int) := of_decide_eq_true y7_
           obtain ⟨ad600, e600, hx600_0, hx600_1, hx600_2, hx600_3⟩ := at_T45 HR0_3.out x38_2 p600 q600
           cases e600
           replace hx600_0 := (HB.out.cell (World.block_lt_of_cell? w _ hx600_0)).trans hx600_0
           replace hx600_1 := (HB.out.cell (World.block_lt_of_cell? w _ hx600_1)).trans hx600_1
           replace hx600_2 := (HB.out.cell (World.block_lt_of_cell? w _ hx600_2)).trans hx600_2
           replace hx600_3 := (HB.out.cell (World.block_lt_of_cell? w _ hx600_3)).trans hx600_3
           replace p600 := eq_true p600
           replace q600 := eq_true q600
           have hcz35_0 : wr.cell? ⟨gb598, 0, none⟩ = some (.int .i64 a1_0) := (blk_cell BK598.out 0).trans rfl
           have hcz35_1 : wr.cell? ⟨gb598, 1, none⟩ = some (.int .u32 a1_1) := (blk_cell BK598.out 1).trans rfl
           have hcz35_2 : wr.cell? ⟨gb598, 2, none⟩ = some (.slice A1_2 l1_2.length c1_2) := (blk_cell BK598.out 2).trans rfl
           have hcz35_3 : wr.cell? ⟨gb598, 3, none⟩ = some (.slice A1_3 l1_3.length c1_3) := (blk_cell BK598.out 3).trans rfl
           have hfz35_0 := blk_frozen BK598.out 0
           have hfz35_1 := blk_frozen BK598.out 1
           have hfz35_2 := blk_frozen BK598.out 2
           have hfz35_3 := blk_frozen BK598.out 3
           have p601 : 0 ≤ (x38_2 : Int) := of_decide_eq_true y7_
           have q601 : x38_2 < (l1_3.length : Int) := of_decide_eq_true y7_
           obtain ⟨ad601, e601, hx601_0, hx601_1, hx601_2, hx601_3⟩ := at_T45 HR1_3.out x38_2 p601 q601
           cases e601
           replace hx601_0 := (HB.out.cell (World.block_lt_of_cell? w _ hx601_0)).trans hx601_0
           replace hx601_1 := (HB.out.cell (World.block_lt_of_cell? w _ hx601_1)).trans hx601_1
           replace hx601_2 := (HB.out.cell (World.block_lt_of_cell? w _ hx601_2)).trans hx601_2
           replace hx601_3 := (HB.out.cell (World.block_lt_of_cell? w _ hx601_3)).trans hx601_3
           replace p601 := eq_true p601
           replace q601 := eq_true q601
           go_wp2
           repeat (go_quiet (fail); try go_wp2)
           go_roundg k2
           case measure => have := HJ2.out; have := HK2.out; omega
           case rel => exact ⟨(wrap64 (x38_2 + 1)), y15_, H', ⟨by have := HJ2.out; have := HK2.out; omega⟩, ⟨y36_⟩, ⟨y64_⟩, ⟨y37_⟩⟩
         ·rw [if_neg c28] at H
          exact absurd H (by simp)
        ·rw [if_neg c27] at H
         exact absurd H (by simp)
       ·rw [if_neg c26] at H
        exact absurd H (by simp)
      ·rw [if_neg c25] at H
       have c25b0 : decide (x38_2 < (l0_3.length : Int)) = false := decide_eq_false c25
       clear c25
       obtain rfl := Option.some.inj H
       go_wp2
       repeat (go_quiet (fail); try go_wp2)
       go_ret
       exact ⟨y8_, y37_⟩
end Go.Proofs.YtdckhaejhfkkbaaDoor.PRT
