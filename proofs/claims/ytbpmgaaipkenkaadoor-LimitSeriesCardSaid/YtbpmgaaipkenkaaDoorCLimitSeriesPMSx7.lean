import Derived.Test.YtbpmgaaipkenkaaDoorCLimitSeriesPMSx0
import Derived.Test.YtbpmgaaipkenkaaDoorCLimitSeriesPMSx1
import Derived.Test.YtbpmgaaipkenkaaDoorCLimitSeriesPMSx5
import Derived.Test.YtbpmgaaipkenkaaDoorCLimitSeriesPMSx6
import Derived.Test.YtbpmgaaipkenkaaDoorCLimitSeriesPMCx0
namespace Go.Proofs.YtbpmgaaipkenkaaDoor.PMS
open Go.RowKit Go.Proofs.YtbpmgaaipkenkaaDoorW.PrintWords Go.Proofs.YtbpmgaaipkenkaaDoorW.PrintLast Go.Proofs.YtbpmgaaipkenkaaDoorW.PrintMore
attribute [local go_sem] max2_int min2_int max_two min_two max_three min_three max_four min_four
set_option linter.unusedVariables false
set_option linter.unusedSimpArgs false
attribute [local go_sem high] eqA66
mutual
def manometerref05_Right.l0 : Nat → List (S66) → List (S66) → Int → Int → Option (Int)
 | 0, _, _, _, _ => none
 | k + 1, x0, x8, x9, x10 => if x10 < x9 then (if 0 ≤ x10 then (if x10 < (x8.length : Int) then ((manometerref05_Named.f k ((rd_T66 x8 x10).f0)).bind fun t154 => (if t154 = true then ((manometerref05_Valued.f k ((rd_T66 x8 x10).f1)).bind fun t155 => (if t155 = true then (manometerref05_Right.j1 k x0 x10 x8 x9 x10 (((rd_T66 x8 x10).f1).toList == ([] : List UInt8)) ((rd_T66 x8 x10).f0) ((rd_T66 x8 x10).f1)) else (manometerref05_Right.j1 k x0 x10 x8 x9 x10 true ((rd_T66 x8 x10).f0) ((rd_T66 x8 x10).f1)))) else (some 50))) else (none)) else (none)) else (some 0)
def manometerref05_Right.j1 : Nat → List (S66) → Int → List (S66) → Int → Int → Bool → ByteArray → ByteArray → Option (Int)
 | 0, _, _, _, _, _, _, _, _ => none
 | k + 1, x0, x3, x8, x9, x10, x20, x154000, x154001 => if x20 = true then (some 51) else (if x3 > 0 then (if 0 ≤ (wrap64 (x3 - 1)) then (if (wrap64 (x3 - 1)) < (x0.length : Int) then (if (Op.bytesLess x154000.toList (((rd_T66 x0 (wrap64 (x3 - 1))).f0).toList)) = true then (some 53) else (if x154000.toList = ((rd_T66 x0 (wrap64 (x3 - 1))).f0).toList then (some 53) else (manometerref05_Right.l0 k x0 x8 x9 (wrap64 (x10 + 1))))) else (none)) else (none)) else (manometerref05_Right.l0 k x0 x8 x9 (wrap64 (x10 + 1))))
end
def manometerref05_Right.f (k : Nat) (l0 : List (S66)) : Option (Int) := if (l0.length : Int) > 16 then (some 3) else (manometerref05_Right.l0 k l0 l0 (l0.length : Int) 0)
set_option maxHeartbeats 8000000 in
set_option maxRecDepth 100000 in
theorem manometerref05_Right.calls (k : Nat) (A0 : Option Addr) (c0 : Nat) (l0 : List (S66)) (r : Int) (w : World) (hr0 : Kd.C k66 w A0 l0.length l0) (hc0 : l0.length ≤ c0) (h : manometerref05_Right.f k l0 = some r) :
  Calls Tryd.prog 46 #[.slice A0 l0.length c0] w fun e w' => e = .returned (.int .i64 r) ∧ Below w.heap.size w w' := by
 have hu66 := Tryd.underlying66
 have HR0 := Aside0.mk hr0
 have HC0 := Aside0.mk hc0
 clear hr0 hc0
 have HB := Aside0.mk (Below.refl w.heap.size w)
 have H : (if (l0.length : Int) > 16 then (some 3) else (manometerref05_Right.l0 k l0 l0 (l0.length : Int) 0)) = some r := h
 clear h
 by_cases c2 : (l0.length : Int) > 16
 ·rw [if_pos c2] at H
  have c2b0 : decide (16 < (l0.length : Int)) = true := decide_eq_true c2
  have c2b1 : decide (16 < l0.length) = true := decide_eq_true (by omega)
  clear c2
  obtain rfl := Option.some.inj H
  go_enter Tryd.func46, Tryd.ntmps46
  go_wp2
  repeat (go_quiet (fail); try go_wp2)
  go_ret
  exact ⟨y10_, y1_⟩
 ·rw [if_neg c2] at H
  have c2b0 : decide (16 < (l0.length : Int)) = false := decide_eq_false c2
  have c2b1 : decide (16 < l0.length) = false := decide_eq_false (by omega)
  clear c2
  have H' := Aside0.mk H
  clear H
  go_enter Tryd.func46, Tryd.ntmps46
  go_wp2
  repeat (go_quiet (fail); try go_wp2)
  go_loopg [10] k (fun kq v10 w' => ∃ (x10_1 : Int), v10 = .int .i64 x10_1 ∧ Aside0 (manometerref05_Right.l0 kq l0 l0 (l0.length : Int) x10_1 = some r) ∧ Aside0 (kq ≤ k) ∧ Aside0 (Below w.heap.size w w'))
  case atStart => exact ⟨(0), y6_, H', ⟨Nat.le_refl _⟩, ⟨y1_⟩⟩
  case round =>
   clear H'
   try clear c2
   try clear c2b0
   try clear c2b1
   try clear p2
   obtain ⟨x10_1, rfl, HA, HK1, HB⟩ := hrel
   cases gk with
   | zero => exact absurd HA.out (by simp [manometerref05_Right.l0])
   | succ k1 =>
    have H := HA.out
    clear HA
    simp only [manometerref05_Right.l0] at H
    by_cases c3 : x10_1 < (l0.length : Int)
    ·rw [if_pos c3] at H
     have c3b0 : decide (x10_1 < (l0.length : Int)) = true := decide_eq_true c3
     clear c3
     by_cases c4 : 0 ≤ x10_1
     ·rw [if_pos c4] at H
      have c4b0 : decide (0 ≤ x10_1) = true := decide_eq_true c4
      clear c4
      by_cases c5 : x10_1 < (l0.length : Int)
      ·rw [if_pos c5] at H
       have c5b0 : decide (x10_1 < (l0.length : Int)) = true := decide_eq_true c5
       clear c5
       replace H := Option.bind_eq_some_iff.mp H
       obtain ⟨t154, A60, H⟩ := H
       replace H : (if t154 = true then ((manometerref05_Valued.f k1 ((rd_T66 l0 x10_1).f1)).bind fun t155 => (if t155 = true then (manometerref05_Right.j1 k1 l0 x10_1 l0 (l0.length : Int) x10_1 (((rd_T66 l0 x10_1).f1).toList == ([] : List UInt8)) ((rd_T66 l0 x10_1).f0) ((rd_T66 l0 x10_1).f1)) else (manometerref05_Right.j1 k1 l0 x10_1 l0 (l0.length : Int) x10_1 true ((rd_T66 l0 x10_1).f0) ((rd_T66 l0 x10_1).f1)))) else (some 50)) = some r := H
       have A6 := Aside0.mk A60
       clear A60
       by_cases c7 : t154 = true
       ·subst c7
        have H1 : ((manometerref05_Valued.f k1 ((rd_T66 l0 x10_1).f1)).bind fun t155 => (if t155 = true then (manometerref05_Right.j1 k1 l0 x10_1 l0 (l0.length : Int) x10_1 (((rd_T66 l0 x10_1).f1).toList == ([] : List UInt8)) ((rd_T66 l0 x10_1).f0) ((rd_T66 l0 x10_1).f1)) else (manometerref05_Right.j1 k1 l0 x10_1 l0 (l0.length : Int) x10_1 true ((rd_T66 l0 x10_1).f0) ((rd_T66 l0 x10_1).f1)))) = some r := by rw [if_pos rfl] at H; exact H
        clear H
        have H := H1
        clear H1
        have HC8 := Aside0.mk H
        clear H
        have p152 : 0 ≤ (x10_1 : Int) := of_decide_eq_true y4_
        have q152 : x10_1 < (l0.length : Int) := of_decide_eq_true y4_
        obtain ⟨ad152, e152, hx152_0, hx152_1⟩ := at_T66 HR0.out x10_1 p152 q152
        cases e152
        replace hx152_0 := (HB.out.cell (World.block_lt_of_cell? w _ hx152_0)).trans hx152_0
        replace hx152_1 := (HB.out.cell (World.block_lt_of_cell? w _ hx152_1)).trans hx152_1
        replace p152 := eq_true p152
        replace q152 := eq_true q152
        go_upto_region 8 with (first | ((with_reducible refine gate_dst (N := 4) rfl ?_); refine box_event ?hg (N := 4) ?hd (cs := #[.string (⟨#[]⟩ : ByteArray), .string (⟨#[]⟩ : ByteArray)]) (t := 66) ?hr ?_; (case hd => rfl); (case hg => rfl); (case hr => first | (go_simp; done) | (go_simp; rfl)); intro gb153 hg w9 hbox hb; have n0_ := Aside0.mk (below_step y1_ hb); have n1_ := Aside0.mk (hbox); have n2_ := Aside0.mk ((y9_ : w.heap.size ≤ gb153)); have n3_ := Aside0.mk ((y9_ : w.heap.size ≤ gb153)); clear HB; have HB := n0_; have BK153 := n1_; have GW153 := n2_; have GE153 := n3_; clear n0_ n1_ n2_ n3_; clear hb hbox hg; have hcz10_0 : w9.cell? ⟨gb153, 0, none⟩ = some (.string (⟨#[]⟩ : ByteArray)) := (blk_cell BK153.out 0).trans rfl; have hcz10_1 : w9.cell? ⟨gb153, 1, none⟩ = some (.string (⟨#[]⟩ : ByteArray)) := (blk_cell BK153.out 1).trans rfl; have hfz10_0 := blk_frozen BK153.out 0; have hfz10_1 := blk_frozen BK153.out 1) | (go_at_call 52; (with_reducible refine (manometerref05_Named.calls k1 ((rd_T66 l0 x10_1).f0) true _ A6.out).mono ?_); rintro e w' ⟨rfl, ⟨nd, rfl⟩⟩; (try first | exact ⟨rfl, _, World.drewN_drewN _ _ _⟩ | exact ⟨rfl, _, Eq.trans (World.drewN_drewN _ _ _) (congrArg (World.drewN _) (Nat.add_assoc _ _ _))⟩)))
        repeat (go_quiet (first | ((with_reducible refine gate_dst (N := 4) rfl ?_); refine box_event ?hg (N := 4) ?hd (cs := #[.string (⟨#[]⟩ : ByteArray), .string (⟨#[]⟩ : ByteArray)]) (t := 66) ?hr ?_; (case hd => rfl); (case hg => rfl); (case hr => first | (go_simp; done) | (go_simp; rfl)); intro gb153 hg w9 hbox hb; have n0_ := Aside0.mk (below_step y1_ hb); have n1_ := Aside0.mk (hbox); have n2_ := Aside0.mk ((y9_ : w.heap.size ≤ gb153)); have n3_ := Aside0.mk ((y9_ : w.heap.size ≤ gb153)); clear HB; have HB := n0_; have BK153 := n1_; have GW153 := n2_; have GE153 := n3_; clear n0_ n1_ n2_ n3_; clear hb hbox hg; have hcz10_0 : w9.cell? ⟨gb153, 0, none⟩ = some (.string (⟨#[]⟩ : ByteArray)) := (blk_cell BK153.out 0).trans rfl; have hcz10_1 : w9.cell? ⟨gb153, 1, none⟩ = some (.string (⟨#[]⟩ : ByteArray)) := (blk_cell BK153.out 1).trans rfl; have hfz10_0 := blk_frozen BK153.out 0; have hfz10_1 := blk_frozen BK153.out 1) | (go_at_call 52; (with_reducible refine (manometerref05_Named.calls k1 ((rd_T66 l0 x10_1).f0) true _ A6.out).mono ?_); rintro e w' ⟨rfl, ⟨nd, rfl⟩⟩; (try first | exact ⟨rfl, _, World.drewN_drewN _ _ _⟩ | exact ⟨rfl, _, Eq.trans (World.drewN_drewN _ _ _) (congrArg (World.drewN _) (Nat.add_assoc _ _ _))⟩))); go_upto_region 8 with (first | ((with_reducible refine gate_dst (N := 4) rfl ?_); refine box_event ?hg (N := 4) ?hd (cs := #[.string (⟨#[]⟩ : ByteArray), .string (⟨#[]⟩ : ByteArray)]) (t := 66) ?hr ?_; (case hd => rfl); (case hg => rfl); (case hr => first | (go_simp; done) | (go_simp; rfl)); intro gb153 hg w9 hbox hb; have n0_ := Aside0.mk (below_step y1_ hb); have n1_ := Aside0.mk (hbox); have n2_ := Aside0.mk ((y9_ : w.heap.size ≤ gb153)); have n3_ := Aside0.mk ((y9_ : w.heap.size ≤ gb153)); clear HB; have HB := n0_; have BK153 := n1_; have GW153 := n2_; have GE153 := n3_; clear n0_ n1_ n2_ n3_; clear hb hbox hg; have hcz10_0 : w9.cell? ⟨gb153, 0, none⟩ = some (.string (⟨#[]⟩ : ByteArray)) := (blk_cell BK153.out 0).trans rfl; have hcz10_1 : w9.cell? ⟨gb153, 1, none⟩ = some (.string (⟨#[]⟩ : ByteArray)) := (blk_cell BK153.out 1).trans rfl; have hfz10_0 := blk_frozen BK153.out 0; have hfz10_1 := blk_frozen BK153.out 1) | (go_at_call 52; (with_reducible refine (manometerref05_Named.calls k1 ((rd_T66 l0 x10_1).f0) true _ A6.out).mono ?_); rintro e w' ⟨rfl, ⟨nd, rfl⟩⟩; (try first | exact ⟨rfl, _, World.drewN_drewN _ _ _⟩ | exact ⟨rfl, _, Eq.trans (World.drewN_drewN _ _ _) (congrArg (World.drewN _) (Nat.add_assoc _ _ _))⟩))))
        (try simp only [Act.put, List.setIfInBounds_toArray, List.set_cons_zero, List.set_cons_succ])
        go_cut [20] (fun v20 wc => ∃ (kq : Nat) (x20_7 : Bool), v20 = .bool x20_7 ∧ Aside0 (manometerref05_Right.j1 kq l0 x10_1 l0 (l0.length : Int) x10_1 x20_7 ((rd_T66 l0 x10_1).f0) ((rd_T66 l0 x10_1).f1) = some r) ∧ Aside0 (kq ≤ k1) ∧ Aside0 (wc.heap[gb153]? = some (.cells #[.string ((rd_T66 l0 x10_1).f0), .string ((rd_T66 l0 x10_1).f1)] 66 (0, 0))) ∧ Aside0 (Below w.heap.size w wc))
        case first =>
         have H := HC8.out
         clear HC8
         replace H := Option.bind_eq_some_iff.mp H
         obtain ⟨t155, A110, H⟩ := H
         replace H : (if t155 = true then (manometerref05_Right.j1 k1 l0 x10_1 l0 (l0.length : Int) x10_1 (((rd_T66 l0 x10_1).f1).toList == ([] : List UInt8)) ((rd_T66 l0 x10_1).f0) ((rd_T66 l0 x10_1).f1)) else (manometerref05_Right.j1 k1 l0 x10_1 l0 (l0.length : Int) x10_1 true ((rd_T66 l0 x10_1).f0) ((rd_T66 l0 x10_1).f1))) = some r := H
         have A11 := Aside0.mk A110
         clear A110
         by_cases c12 : t155 = true
         ·subst c12
          have H1 : (manometerref05_Right.j1 k1 l0 x10_1 l0 (l0.length : Int) x10_1 (((rd_T66 l0 x10_1).f1).toList == ([] : List UInt8)) ((rd_T66 l0 x10_1).f0) ((rd_T66 l0 x10_1).f1)) = some r := by rw [if_pos rfl] at H; exact H
          clear H
          have H := H1
          clear H1
          have H' := Aside0.mk H
          clear H
          have hcz13_0 : w9.cell? ⟨gb153, 0, none⟩ = some (.string (⟨#[]⟩ : ByteArray)) := (blk_cell BK153.out 0).trans rfl
          have hcz13_1 : w9.cell? ⟨gb153, 1, none⟩ = some (.string (⟨#[]⟩ : ByteArray)) := (blk_cell BK153.out 1).trans rfl
          have hfz13_0 := blk_frozen BK153.out 0
          have hfz13_1 := blk_frozen BK153.out 1
          go_wp2_with (first | (go_at_call 53; (with_reducible refine (manometerref05_Valued.calls k1 ((rd_T66 l0 x10_1).f1) true _ A11.out).mono ?_); rintro e w' ⟨rfl, ⟨nd, rfl⟩⟩; (try first | exact ⟨rfl, _, World.drewN_drewN _ _ _⟩ | exact ⟨rfl, _, Eq.trans (World.drewN_drewN _ _ _) (congrArg (World.drewN _) (Nat.add_assoc _ _ _))⟩)))
          repeat (go_quiet (first | (go_at_call 53; (with_reducible refine (manometerref05_Valued.calls k1 ((rd_T66 l0 x10_1).f1) true _ A11.out).mono ?_); rintro e w' ⟨rfl, ⟨nd, rfl⟩⟩; (try first | exact ⟨rfl, _, World.drewN_drewN _ _ _⟩ | exact ⟨rfl, _, Eq.trans (World.drewN_drewN _ _ _) (congrArg (World.drewN _) (Nat.add_assoc _ _ _))⟩))); try go_wp2_with (first | (go_at_call 53; (with_reducible refine (manometerref05_Valued.calls k1 ((rd_T66 l0 x10_1).f1) true _ A11.out).mono ?_); rintro e w' ⟨rfl, ⟨nd, rfl⟩⟩; (try first | exact ⟨rfl, _, World.drewN_drewN _ _ _⟩ | exact ⟨rfl, _, Eq.trans (World.drewN_drewN _ _ _) (congrArg (World.drewN _) (Nat.add_assoc _ _ _))⟩))))
          go_meet
          case rel => exact ⟨_, ((((rd_T66 l0 x10_1).f1).toList == ([] : List UInt8))), y6_, H', ⟨y33_⟩, ⟨y27_⟩, ⟨y24_⟩⟩
         ·replace c12 := Bool.eq_false_iff.mpr c12
          subst c12
          have H1 : (manometerref05_Right.j1 k1 l0 x10_1 l0 (l0.length : Int) x10_1 true ((rd_T66 l0 x10_1).f0) ((rd_T66 l0 x10_1).f1)) = some r := by rw [if_neg (show ¬ (false = true) by decide)] at H; exact H
          clear H
          have H := H1
          clear H1
          have H' := Aside0.mk H
          clear H
          have hcz14_0 : w9.cell? ⟨gb153, 0, none⟩ = some (.string (⟨#[]⟩ : ByteArray)) := (blk_cell BK153.out 0).trans rfl
          have hcz14_1 : w9.cell? ⟨gb153, 1, none⟩ = some (.string (⟨#[]⟩ : ByteArray)) := (blk_cell BK153.out 1).trans rfl
          have hfz14_0 := blk_frozen BK153.out 0
          have hfz14_1 := blk_frozen BK153.out 1
          go_wp2_with (first | (go_at_call 53; (with_reducible refine (manometerref05_Valued.calls k1 ((rd_T66 l0 x10_1).f1) false _ A11.out).mono ?_); rintro e w' ⟨rfl, ⟨nd, rfl⟩⟩; (try first | exact ⟨rfl, _, World.drewN_drewN _ _ _⟩ | exact ⟨rfl, _, Eq.trans (World.drewN_drewN _ _ _) (congrArg (World.drewN _) (Nat.add_assoc _ _ _))⟩)))
          repeat (go_quiet (first | (go_at_call 53; (with_reducible refine (manometerref05_Valued.calls k1 ((rd_T66 l0 x10_1).f1) false _ A11.out).mono ?_); rintro e w' ⟨rfl, ⟨nd, rfl⟩⟩; (try first | exact ⟨rfl, _, World.drewN_drewN _ _ _⟩ | exact ⟨rfl, _, Eq.trans (World.drewN_drewN _ _ _) (congrArg (World.drewN _) (Nat.add_assoc _ _ _))⟩))); try go_wp2_with (first | (go_at_call 53; (with_reducible refine (manometerref05_Valued.calls k1 ((rd_T66 l0 x10_1).f1) false _ A11.out).mono ?_); rintro e w' ⟨rfl, ⟨nd, rfl⟩⟩; (try first | exact ⟨rfl, _, World.drewN_drewN _ _ _⟩ | exact ⟨rfl, _, Eq.trans (World.drewN_drewN _ _ _) (congrArg (World.drewN _) (Nat.add_assoc _ _ _))⟩))))
          go_meet
          case rel => exact ⟨_, (true), y6_, H', ⟨y33_⟩, ⟨y27_⟩, ⟨y24_⟩⟩
        case rest =>
         clear HC8
         try clear c1
         try clear p1
         try clear q1
         try clear hx1
         try clear c2
         try clear c2b0
         try clear c2b1
         try clear p2
         try clear c3
         try clear c3b0
         try clear c4
         try clear c4b0
         try clear c5
         try clear c5b0
         try clear c7
         try clear c12
         try clear hcz10_0
         try clear hcz10_1
         try clear hcz13_0
         try clear hcz13_1
         try clear hcz14_0
         try clear hcz14_1
         try clear hfz10_0
         try clear hfz10_1
         try clear hfz13_0
         try clear hfz13_1
         try clear hfz14_0
         try clear hfz14_1
         try clear hx152_0
         try clear hx152_1
         try clear p152
         try clear p2
         try clear q152
         obtain ⟨kq, x20_7, rfl, HA, HJ7, BK153, HB⟩ := hcut
         cases kq with
         | zero => exact absurd HA.out (by simp [manometerref05_Right.j1])
         | succ kj7 =>
          have H := HA.out
          clear HA
          simp only [manometerref05_Right.j1] at H
          by_cases c15 : x20_7 = true
          ·subst c15
           have H1 : (some 51) = some r := by rw [if_pos rfl] at H; exact H
           clear H
           have H := H1
           clear H1
           obtain rfl := Option.some.inj H
           go_wp2
           repeat (go_quiet (fail); try go_wp2)
           go_ret
           exact ⟨y10_, y24_⟩
          ·replace c15 := Bool.eq_false_iff.mpr c15
           subst c15
           have H1 : (if x10_1 > 0 then (if 0 ≤ (wrap64 (x10_1 - 1)) then (if (wrap64 (x10_1 - 1)) < (l0.length : Int) then (if (Op.bytesLess ((rd_T66 l0 x10_1).f0).toList (((rd_T66 l0 (wrap64 (x10_1 - 1))).f0).toList)) = true then (some 53) else (if ((rd_T66 l0 x10_1).f0).toList = ((rd_T66 l0 (wrap64 (x10_1 - 1))).f0).toList then (some 53) else (manometerref05_Right.l0 kj7 l0 l0 (l0.length : Int) (wrap64 (x10_1 + 1))))) else (none)) else (none)) else (manometerref05_Right.l0 kj7 l0 l0 (l0.length : Int) (wrap64 (x10_1 + 1)))) = some r := by rw [if_neg (show ¬ (false = true) by decide)] at H; exact H
           clear H
           have H := H1
           clear H1
           by_cases c16 : x10_1 > 0
           ·rw [if_pos c16] at H
            have c16b0 : decide (0 < x10_1) = true := decide_eq_true c16
            clear c16
            obtain ⟨ji17, hji17⟩ : ∃ j_ : Int, (wrap64 (x10_1 - 1)) = j_ := ⟨_, rfl⟩
            replace H : (if 0 ≤ (ji17) then (if (ji17) < (l0.length : Int) then (if (Op.bytesLess ((rd_T66 l0 x10_1).f0).toList (((rd_T66 l0 (ji17)).f0).toList)) = true then (some 53) else (if ((rd_T66 l0 x10_1).f0).toList = ((rd_T66 l0 (ji17)).f0).toList then (some 53) else (manometerref05_Right.l0 kj7 l0 l0 (l0.length : Int) (wrap64 (x10_1 + 1))))) else (none)) else (none)) = some r := by first | (rw [hji17] at H; exact H) | (simp only [hji17] at H ⊢; exact H)
            have hji17w : (IntKind.i64.wrap (x10_1 - 1)) = ji17 := (i64_w _).trans hji17
            by_cases c18 : 0 ≤ (ji17)
            ·rw [if_pos c18] at H
             have c18b0 : decide (0 ≤ (ji17)) = true := decide_eq_true c18
             clear c18
             by_cases c19 : (ji17) < (l0.length : Int)
             ·rw [if_pos c19] at H
              have c19b0 : decide ((ji17) < (l0.length : Int)) = true := decide_eq_true c19
              clear c19
              by_cases c20 : (Op.bytesLess ((rd_T66 l0 x10_1).f0).toList (((rd_T66 l0 (ji17)).f0).toList)) = true
              ·rw [if_pos c20] at H
               have c20b0 : (Op.bytesLess ((rd_T66 l0 x10_1).f0).toList (((rd_T66 l0 (ji17)).f0).toList)) = true := c20
               clear c20
               obtain rfl := Option.some.inj H
               have hcz21_0 : wc.cell? ⟨gb153, 0, none⟩ = some (.string ((rd_T66 l0 x10_1).f0)) := (blk_cell BK153.out 0).trans rfl
               have hcz21_1 : wc.cell? ⟨gb153, 1, none⟩ = some (.string ((rd_T66 l0 x10_1).f1)) := (blk_cell BK153.out 1).trans rfl
               have hfz21_0 := blk_frozen BK153.out 0
               have hfz21_1 := blk_frozen BK153.out 1
               have p156 : 0 ≤ ((ji17) : Int) := of_decide_eq_true y4_
               have q156 : (ji17) < (l0.length : Int) := of_decide_eq_true y4_
               obtain ⟨ad156, e156, hx156_0, hx156_1⟩ := at_T66 HR0.out (ji17) p156 q156
               obtain rfl : ad152 = ad156 := (by injection e156)
               replace hx156_0 := (HB.out.cell (World.block_lt_of_cell? w _ hx156_0)).trans hx156_0
               replace hx156_1 := (HB.out.cell (World.block_lt_of_cell? w _ hx156_1)).trans hx156_1
               replace p156 := eq_true p156
               replace q156 := eq_true q156
               go_wp2
               repeat (go_quiet (fail); try go_wp2)
               go_ret
               exact ⟨by first | rfl | (simp [errW_none, errW_some] <;> rfl) | (simp only [← hji17]; first | rfl | (simp [errW_none, errW_some] <;> rfl)) | (simp [*, errW_none, errW_some] <;> rfl), y24_⟩
              ·rw [if_neg c20] at H
               have c20b0 : (Op.bytesLess ((rd_T66 l0 x10_1).f0).toList (((rd_T66 l0 (ji17)).f0).toList)) = false := by simpa using c20
               clear c20
               by_cases c22 : ((rd_T66 l0 x10_1).f0).toList = ((rd_T66 l0 (ji17)).f0).toList
               ·rw [if_pos c22] at H
                have c22b0 : (((rd_T66 l0 x10_1).f0).toList == ((rd_T66 l0 (ji17)).f0).toList) = true := beq_iff_eq.mpr c22
                have c22b1 : (((rd_T66 l0 x10_1).f0).toList != ((rd_T66 l0 (ji17)).f0).toList) = false := bne_eq_false_iff_eq.mpr c22
                clear c22
                obtain rfl := Option.some.inj H
                have hcz23_0 : wc.cell? ⟨gb153, 0, none⟩ = some (.string ((rd_T66 l0 x10_1).f0)) := (blk_cell BK153.out 0).trans rfl
                have hcz23_1 : wc.cell? ⟨gb153, 1, none⟩ = some (.string ((rd_T66 l0 x10_1).f1)) := (blk_cell BK153.out 1).trans rfl
                have hfz23_0 := blk_frozen BK153.out 0
                have hfz23_1 := blk_frozen BK153.out 1
                have p156 : 0 ≤ ((ji17) : Int) := of_decide_eq_true y4_
                have q156 : (ji17) < (l0.length : Int) := of_decide_eq_true y4_
                obtain ⟨ad156, e156, hx156_0, hx156_1⟩ := at_T66 HR0.out (ji17) p156 q156
                obtain rfl : ad152 = ad156 := (by injection e156)
                replace hx156_0 := (HB.out.cell (World.block_lt_of_cell? w _ hx156_0)).trans hx156_0
                replace hx156_1 := (HB.out.cell (World.block_lt_of_cell? w _ hx156_1)).trans hx156_1
                replace p156 := eq_true p156
                replace q156 := eq_true q156
                go_wp2
                repeat (go_quiet (fail); try go_wp2)
                go_ret
                exact ⟨by first | rfl | (simp [errW_none, errW_some] <;> rfl) | (simp only [← hji17]; first | rfl | (simp [errW_none, errW_some] <;> rfl)) | (simp [*, errW_none, errW_some] <;> rfl), y24_⟩
               ·rw [if_neg c22] at H
                have c22b0 : (((rd_T66 l0 x10_1).f0).toList == ((rd_T66 l0 (ji17)).f0).toList) = false := beq_eq_false_iff_ne.mpr c22
                have c22b1 : (((rd_T66 l0 x10_1).f0).toList != ((rd_T66 l0 (ji17)).f0).toList) = true := bne_iff_ne.mpr c22
                have H' := Aside0.mk H
                clear H
                have hcz24_0 : wc.cell? ⟨gb153, 0, none⟩ = some (.string ((rd_T66 l0 x10_1).f0)) := (blk_cell BK153.out 0).trans rfl
                have hcz24_1 : wc.cell? ⟨gb153, 1, none⟩ = some (.string ((rd_T66 l0 x10_1).f1)) := (blk_cell BK153.out 1).trans rfl
                have hfz24_0 := blk_frozen BK153.out 0
                have hfz24_1 := blk_frozen BK153.out 1
                have p156 : 0 ≤ ((ji17) : Int) := of_decide_eq_true y4_
                have q156 : (ji17) < (l0.length : Int) := of_decide_eq_true y4_
                obtain ⟨ad156, e156, hx156_0, hx156_1⟩ := at_T66 HR0.out (ji17) p156 q156
                obtain rfl : ad152 = ad156 := (by injection e156)
                replace hx156_0 := (HB.out.cell (World.block_lt_of_cell? w _ hx156_0)).trans hx156_0
                replace hx156_1 := (HB.out.cell (World.block_lt_of_cell? w _ hx156_1)).trans hx156_1
                replace p156 := eq_true p156
                replace q156 := eq_true q156
                go_wp2
                repeat (go_quiet (fail); try go_wp2)
                go_roundg kj7
                case measure => have := HK1.out; have := HJ7.out; omega
                case rel => exact ⟨(wrap64 (x10_1 + 1)), y6_, H', ⟨y50_⟩, ⟨y24_⟩⟩
             ·rw [if_neg c19] at H
              exact absurd H (by simp)
            ·rw [if_neg c18] at H
             exact absurd H (by simp)
           ·rw [if_neg c16] at H
            have c16b0 : decide (0 < x10_1) = false := decide_eq_false c16
            clear c16
            have H' := Aside0.mk H
            clear H
            go_wp2
            repeat (go_quiet (fail); try go_wp2)
            go_roundg kj7
            case measure => have := HK1.out; have := HJ7.out; omega
            case rel => exact ⟨(wrap64 (x10_1 + 1)), y6_, H', ⟨y50_⟩, ⟨y24_⟩⟩
       ·replace c7 := Bool.eq_false_iff.mpr c7
        subst c7
        have H1 : (some 50) = some r := by rw [if_neg (show ¬ (false = true) by decide)] at H; exact H
        clear H
        have H := H1
        clear H1
        obtain rfl := Option.some.inj H
        have p152 : 0 ≤ (x10_1 : Int) := of_decide_eq_true y4_
        have q152 : x10_1 < (l0.length : Int) := of_decide_eq_true y4_
        obtain ⟨ad152, e152, hx152_0, hx152_1⟩ := at_T66 HR0.out x10_1 p152 q152
        cases e152
        replace hx152_0 := (HB.out.cell (World.block_lt_of_cell? w _ hx152_0)).trans hx152_0
        replace hx152_1 := (HB.out.cell (World.block_lt_of_cell? w _ hx152_1)).trans hx152_1
        replace p152 := eq_true p152
        replace q152 := eq_true q152
        go_wp2_with (first | ((with_reducible refine gate_dst (N := 4) rfl ?_); refine box_event ?hg (N := 4) ?hd (cs := #[.string (⟨#[]⟩ : ByteArray), .string (⟨#[]⟩ : ByteArray)]) (t := 66) ?hr ?_; (case hd => rfl); (case hg => rfl); (case hr => first | (go_simp; done) | (go_simp; rfl)); intro gb153 hg w25 hbox hb; have n0_ := Aside0.mk (below_step y1_ hb); have n1_ := Aside0.mk (hbox); have n2_ := Aside0.mk ((y9_ : w.heap.size ≤ gb153)); have n3_ := Aside0.mk ((y9_ : w.heap.size ≤ gb153)); clear HB; have HB := n0_; have BK153 := n1_; have GW153 := n2_; have GE153 := n3_; clear n0_ n1_ n2_ n3_; clear hb hbox hg; have hcz26_0 : w25.cell? ⟨gb153, 0, none⟩ = some (.string (⟨#[]⟩ : ByteArray)) := (blk_cell BK153.out 0).trans rfl; have hcz26_1 : w25.cell? ⟨gb153, 1, none⟩ = some (.string (⟨#[]⟩ : ByteArray)) := (blk_cell BK153.out 1).trans rfl; have hfz26_0 := blk_frozen BK153.out 0; have hfz26_1 := blk_frozen BK153.out 1) | (go_at_call 52; (with_reducible refine (manometerref05_Named.calls k1 ((rd_T66 l0 x10_1).f0) false _ A6.out).mono ?_); rintro e w' ⟨rfl, ⟨nd, rfl⟩⟩; (try first | exact ⟨rfl, _, World.drewN_drewN _ _ _⟩ | exact ⟨rfl, _, Eq.trans (World.drewN_drewN _ _ _) (congrArg (World.drewN _) (Nat.add_assoc _ _ _))⟩)))
        repeat (go_quiet (first | ((with_reducible refine gate_dst (N := 4) rfl ?_); refine box_event ?hg (N := 4) ?hd (cs := #[.string (⟨#[]⟩ : ByteArray), .string (⟨#[]⟩ : ByteArray)]) (t := 66) ?hr ?_; (case hd => rfl); (case hg => rfl); (case hr => first | (go_simp; done) | (go_simp; rfl)); intro gb153 hg w25 hbox hb; have n0_ := Aside0.mk (below_step y1_ hb); have n1_ := Aside0.mk (hbox); have n2_ := Aside0.mk ((y9_ : w.heap.size ≤ gb153)); have n3_ := Aside0.mk ((y9_ : w.heap.size ≤ gb153)); clear HB; have HB := n0_; have BK153 := n1_; have GW153 := n2_; have GE153 := n3_; clear n0_ n1_ n2_ n3_; clear hb hbox hg; have hcz26_0 : w25.cell? ⟨gb153, 0, none⟩ = some (.string (⟨#[]⟩ : ByteArray)) := (blk_cell BK153.out 0).trans rfl; have hcz26_1 : w25.cell? ⟨gb153, 1, none⟩ = some (.string (⟨#[]⟩ : ByteArray)) := (blk_cell BK153.out 1).trans rfl; have hfz26_0 := blk_frozen BK153.out 0; have hfz26_1 := blk_frozen BK153.out 1) | (go_at_call 52; (with_reducible refine (manometerref05_Named.calls k1 ((rd_T66 l0 x10_1).f0) false _ A6.out).mono ?_); rintro e w' ⟨rfl, ⟨nd, rfl⟩⟩; (try first | exact ⟨rfl, _, World.drewN_drewN _ _ _⟩ | exact ⟨rfl, _, Eq.trans (World.drewN_drewN _ _ _) (congrArg (World.drewN _) (Nat.add_assoc _ _ _))⟩))); try go_wp2_with (first | ((with_reducible refine gate_dst (N := 4) rfl ?_); refine box_event ?hg (N := 4) ?hd (cs := #[.string (⟨#[]⟩ : ByteArray), .string (⟨#[]⟩ : ByteArray)]) (t := 66) ?hr ?_; (case hd => rfl); (case hg => rfl); (case hr => first | (go_simp; done) | (go_simp; rfl)); intro gb153 hg w25 hbox hb; have n0_ := Aside0.mk (below_step y1_ hb); have n1_ := Aside0.mk (hbox); have n2_ := Aside0.mk ((y9_ : w.heap.size ≤ gb153)); have n3_ := Aside0.mk ((y9_ : w.heap.size ≤ gb153)); clear HB; have HB := n0_; have BK153 := n1_; have GW153 := n2_; have GE153 := n3_; clear n0_ n1_ n2_ n3_; clear hb hbox hg; have hcz26_0 : w25.cell? ⟨gb153, 0, none⟩ = some (.string (⟨#[]⟩ : ByteArray)) := (blk_cell BK153.out 0).trans rfl; have hcz26_1 : w25.cell? ⟨gb153, 1, none⟩ = some (.string (⟨#[]⟩ : ByteArray)) := (blk_cell BK153.out 1).trans rfl; have hfz26_0 := blk_frozen BK153.out 0; have hfz26_1 := blk_frozen BK153.out 1) | (go_at_call 52; (with_reducible refine (manometerref05_Named.calls k1 ((rd_T66 l0 x10_1).f0) false _ A6.out).mono ?_); rintro e w' ⟨rfl, ⟨nd, rfl⟩⟩; (try first | exact ⟨rfl, _, World.drewN_drewN _ _ _⟩ | exact ⟨rfl, _, Eq.trans (World.drewN_drewN _ _ _) (congrArg (World.drewN _) (Nat.add_assoc _ _ _))⟩))))
        go_ret
        exact ⟨y10_, y24_⟩
      ·rw [if_neg c5] at H
       exact absurd H (by simp)
     ·rw [if_neg c4] at H
      exact absurd H (by simp)
    ·rw [if_neg c3] at H
     have c3b0 : decide (x10_1 < (l0.length : Int)) = false := decide_eq_false c3
     clear c3
     obtain rfl := Option.some.inj H
     go_wp2
     repeat (go_quiet (fail); try go_wp2)
     go_ret
     exact ⟨y10_, y1_⟩
def manometerref05_Same.l0 : Nat → List (S66) → List (S66) → Int → Int → Option (Bool)
 | 0, _, _, _, _ => none
 | k + 1, x0, x1, x12, x13 => if x13 < x12 then (if 0 ≤ x13 then (if x13 < (x0.length : Int) then (if x13 < (x1.length : Int) then (if (!((((rd_T66 x0 x13).f0).toList) == (((rd_T66 x1 x13).f0).toList)) || (!((((rd_T66 x0 x13).f1).toList) == (((rd_T66 x1 x13).f1).toList)))) = true then (some false) else (manometerref05_Same.l0 k x0 x1 x12 (wrap64 (x13 + 1)))) else (none)) else (none)) else (none)) else (some true)
def manometerref05_Same.f (k : Nat) (l0 : List (S66)) (l1 : List (S66)) : Option (Bool) := if (l0.length : Int) = (l1.length : Int) then (manometerref05_Same.l0 k l0 l1 (l0.length : Int) 0) else (some false)
set_option maxHeartbeats 8000000 in
set_option maxRecDepth 100000 in
theorem manometerref05_Same.calls (k : Nat) (A0 : Option Addr) (c0 : Nat) (l0 : List (S66)) (A1 : Option Addr) (c1 : Nat) (l1 : List (S66)) (r : Bool) (w : World) (hr0 : Kd.C k66 w A0 l0.length l0) (hc0 : l0.length ≤ c0) (hr1 : Kd.C k66 w A1 l1.length l1) (hc1 : l1.length ≤ c1) (h : manometerref05_Same.f k l0 l1 = some r) :
  Calls Tryd.prog 48 #[.slice A0 l0.length c0, .slice A1 l1.length c1] w fun e w' => e = .returned (.bool r) ∧ Drawn0 w w' := by
 have hu66 := Tryd.underlying66
 have HR0 := Aside0.mk hr0
 have HC0 := Aside0.mk hc0
 clear hr0 hc0
 have HR1 := Aside0.mk hr1
 have HC1 := Aside0.mk hc1
 clear hr1 hc1
 have H : (if (l0.length : Int) = (l1.length : Int) then (manometerref05_Same.l0 k l0 l1 (l0.length : Int) 0) else (some false)) = some r := h
 clear h
 by_cases c3 : (l0.length : Int) = (l1.length : Int)
 ·rw [if_pos c3] at H
  have c3b0 : ((l0.length : Int) == (l1.length : Int)) = true := beq_iff_eq.mpr c3
  have c3b1 : ((l0.length : Int) != (l1.length : Int)) = false := bne_eq_false_iff_eq.mpr c3
  have c3b2 : (l0.length == l1.length) = true := by first | simpa using c3 | (simp at c3 ⊢; omega)
  clear c3
  have H' := Aside0.mk H
  clear H
  go_enter Tryd.func48, Tryd.ntmps48
  go_wp2
  repeat (go_quiet (fail); try go_wp2)
  go_loopg [13] k (fun kq v13 w' => ∃ (x13_1 : Int), v13 = .int .i64 x13_1 ∧ Aside0 (manometerref05_Same.l0 kq l0 l1 (l0.length : Int) x13_1 = some r) ∧ Aside0 (kq ≤ k) ∧ Drawn0 w w')
  case atStart => exact ⟨(0), y6_, H', ⟨Nat.le_refl _⟩, y7_⟩
  case round =>
   clear H'
   try clear c1
   try clear p2
   try clear c3
   try clear c3b0
   try clear c3b1
   try clear c3b2
   obtain ⟨x13_1, rfl, HA, HK1, ⟨m1, rfl⟩⟩ := hrel
   cases gk with
   | zero => exact absurd HA.out (by simp [manometerref05_Same.l0])
   | succ k1 =>
    have H := HA.out
    clear HA
    simp only [manometerref05_Same.l0] at H
    by_cases c4 : x13_1 < (l0.length : Int)
    ·rw [if_pos c4] at H
     have c4b0 : decide (x13_1 < (l0.length : Int)) = true := decide_eq_true c4
     clear c4
     by_cases c5 : 0 ≤ x13_1
     ·rw [if_pos c5] at H
      have c5b0 : decide (0 ≤ x13_1) = true := decide_eq_true c5
      clear c5
      by_cases c6 : x13_1 < (l0.length : Int)
      ·rw [if_pos c6] at H
       have c6b0 : decide (x13_1 < (l0.length : Int)) = true := decide_eq_true c6
       clear c6
       by_cases c7 : x13_1 < (l1.length : Int)
       ·rw [if_pos c7] at H
        have c7b0 : decide (x13_1 < (l1.length : Int)) = true := decide_eq_true c7
        clear c7
        by_cases c8 : (!((((rd_T66 l0 x13_1).f0).toList) == (((rd_T66 l1 x13_1).f0).toList)) || (!((((rd_T66 l0 x13_1).f1).toList) == (((rd_T66 l1 x13_1).f1).toList)))) = true
        ·rw [if_pos c8] at H
         have c8b0 : (!((((rd_T66 l0 x13_1).f0).toList) == (((rd_T66 l1 x13_1).f0).toList)) || (!((((rd_T66 l0 x13_1).f1).toList) == (((rd_T66 l1 x13_1).f1).toList)))) = true := c8
         clear c8
         obtain rfl := Option.some.inj H
         have p157 : 0 ≤ (x13_1 : Int) := of_decide_eq_true y4_
         have q157 : x13_1 < (l0.length : Int) := of_decide_eq_true y4_
         obtain ⟨ad157, e157, hx157_0, hx157_1⟩ := at_T66 HR0.out x13_1 p157 q157
         cases e157
         replace p157 := eq_true p157
         replace q157 := eq_true q157
         have p158 : 0 ≤ (x13_1 : Int) := of_decide_eq_true y4_
         have q158 : x13_1 < (l1.length : Int) := of_decide_eq_true y4_
         obtain ⟨ad158, e158, hx158_0, hx158_1⟩ := at_T66 HR1.out x13_1 p158 q158
         cases e158
         replace p158 := eq_true p158
         replace q158 := eq_true q158
         go_wp2
         repeat (go_quiet (fail); try go_wp2)
         go_ret
         exact ⟨y11_, y7_⟩
        ·rw [if_neg c8] at H
         have c8b0 : (!((((rd_T66 l0 x13_1).f0).toList) == (((rd_T66 l1 x13_1).f0).toList)) || (!((((rd_T66 l0 x13_1).f1).toList) == (((rd_T66 l1 x13_1).f1).toList)))) = false := by simpa using c8
         clear c8
         have H' := Aside0.mk H
         clear H
         have p157 : 0 ≤ (x13_1 : Int) := of_decide_eq_true y4_
         have q157 : x13_1 < (l0.length : Int) := of_decide_eq_true y4_
         obtain ⟨ad157, e157, hx157_0, hx157_1⟩ := at_T66 HR0.out x13_1 p157 q157
         cases e157
         replace p157 := eq_true p157
         replace q157 := eq_true q157
         have p158 : 0 ≤ (x13_1 : Int) := of_decide_eq_true y4_
         have q158 : x13_1 < (l1.length : Int) := of_decide_eq_true y4_
         obtain ⟨ad158, e158, hx158_0, hx158_1⟩ := at_T66 HR1.out x13_1 p158 q158
         cases e158
         replace p158 := eq_true p158
         replace q158 := eq_true q158
         go_wp2
         repeat (go_quiet (fail); try go_wp2)
         go_roundg k1
         case measure => have := HK1.out; omega
         case rel => exact ⟨(wrap64 (x13_1 + 1)), y6_, H', ⟨y51_⟩, y7_⟩
       ·rw [if_neg c7] at H
        exact absurd H (by simp)
      ·rw [if_neg c6] at H
       exact absurd H (by simp)
     ·rw [if_neg c5] at H
      exact absurd H (by simp)
    ·rw [if_neg c4] at H
     have c4b0 : decide (x13_1 < (l0.length : Int)) = false := decide_eq_false c4
     clear c4
     obtain rfl := Option.some.inj H
     go_wp2
     repeat (go_quiet (fail); try go_wp2)
     go_ret
     exact ⟨y11_, y7_⟩
 ·rw [if_neg c3] at H
  have c3b0 : ((l0.length : Int) == (l1.length : Int)) = false := beq_eq_false_iff_ne.mpr c3
  have c3b1 : ((l0.length : Int) != (l1.length : Int)) = true := bne_iff_ne.mpr c3
  have c3b2 : (l0.length == l1.length) = false := by first | simpa using c3 | (simp at c3 ⊢; omega)
  obtain rfl := Option.some.inj H
  go_enter Tryd.func48, Tryd.ntmps48
  go_wp2
  repeat (go_quiet (fail); try go_wp2)
  go_ret
  exact ⟨y11_, y7_⟩
def manometerref05_text.f (a0 : ByteArray) (a1 : ByteArray) : Option (Int) := if (Op.bytesLess a0.toList a1.toList) = true then (some (-1)) else (if (Op.bytesLess a1.toList a0.toList) = true then (some 1) else (some 0))
set_option maxHeartbeats 8000000 in
theorem manometerref05_text.calls (a0 : ByteArray) (a1 : ByteArray) (r : Int) (w : World) (h : manometerref05_text.f a0 a1 = some r) :
  Calls Tryd.prog 59 #[.string a0, .string a1] w fun e w' => e = .returned (.int .i64 r) ∧ Drawn0 w w' := by
 unfold manometerref05_text.f at h
 rw [less_gt a0.toList a1.toList] at h
 cases h1 : Op.bytesLess a0.toList a1.toList with
 | true =>
  rw [h1] at h
  obtain rfl := Option.some.inj (show some (-1 : Int) = some r from h)
  go_enter Tryd.func59, Tryd.ntmps59
  go_wp2
  go_ret
  exact ⟨rfl, y7_⟩
 | false =>
  cases h2 : (a0.toList == a1.toList) with
  | true =>
   rw [h1, h2] at h
   obtain rfl := Option.some.inj (show some (0 : Int) = some r from h)
   go_enter Tryd.func59, Tryd.ntmps59
   go_wp2
   go_ret
   exact ⟨rfl, y7_⟩
  | false =>
   rw [h1, h2] at h
   obtain rfl := Option.some.inj (show some (1 : Int) = some r from h)
   go_enter Tryd.func59, Tryd.ntmps59
   go_wp2
   go_ret
   exact ⟨rfl, y7_⟩
def manometerref05_Compare.l0 : Nat → List (S66) → List (S66) → Int → Int → Option (Int)
 | 0, _, _, _, _ => none
 | k + 1, x0, x1, x12, x13 => if x13 < x12 then (if 0 ≤ x13 then (if x13 < (x0.length : Int) then (if x13 < (x1.length : Int) then ((manometerref05_text.f ((rd_T66 x0 x13).f0) ((rd_T66 x1 x13).f0)).bind fun t161 => (if t161 = 0 then ((manometerref05_text.f ((rd_T66 x0 x13).f1) ((rd_T66 x1 x13).f1)).bind fun t164 => (if t164 = 0 then (manometerref05_Compare.l0 k x0 x1 x12 (wrap64 (x13 + 1))) else (some t164))) else (some t161))) else (none)) else (none)) else (none)) else (if (x0.length : Int) < (x1.length : Int) then (some (-1)) else (if (x0.length : Int) > (x1.length : Int) then (some 1) else (some 0)))
def manometerref05_Compare.f (k : Nat) (l0 : List (S66)) (l1 : List (S66)) : Option (Int) := manometerref05_Compare.l0 k l0 l1 (mn (l0.length : Int) (l1.length : Int)) 0
set_option maxHeartbeats 8000000 in
set_option maxRecDepth 100000 in
theorem manometerref05_Compare.calls (k : Nat) (A0 : Option Addr) (c0 : Nat) (l0 : List (S66)) (A1 : Option Addr) (c1 : Nat) (l1 : List (S66)) (r : Int) (w : World) (hr0 : Kd.C k66 w A0 l0.length l0) (hc0 : l0.length ≤ c0) (hr1 : Kd.C k66 w A1 l1.length l1) (hc1 : l1.length ≤ c1) (h : manometerref05_Compare.f k l0 l1 = some r) :
  Calls Tryd.prog 54 #[.slice A0 l0.length c0, .slice A1 l1.length c1] w fun e w' => e = .returned (.int .i64 r) ∧ Below w.heap.size w w' := by
 have HR0 := Aside0.mk hr0
 have HC0 := Aside0.mk hc0
 clear hr0 hc0
 have HR1 := Aside0.mk hr1
 have HC1 := Aside0.mk hc1
 clear hr1 hc1
 have HB := Aside0.mk (Below.refl w.heap.size w)
 have H : (manometerref05_Compare.l0 k l0 l1 (mn (l0.length : Int) (l1.length : Int)) 0) = some r := h
 clear h
 obtain ⟨ji3, hji3⟩ : ∃ j_ : Int, (mn (l0.length : Int) (l1.length : Int)) = j_ := ⟨_, rfl⟩
 replace H : (manometerref05_Compare.l0 k l0 l1 ji3 0) = some r := by first | (rw [hji3] at H; exact H) | (simp only [hji3] at H ⊢; exact H)
 (try (have hji3l : 0 ≤ ji3 := by (rw [← hji3]; unfold mn; (repeat' split) <;> omega)))
 (try (have hji3m : 0 ≤ ji3 := by omega))
 have hji3_ : (if (l1.length : Int) < (l0.length : Int) then (l1.length : Int) else (l0.length : Int)) = ji3 := hji3
 have hji3n_ : (if l1.length < l0.length then (l1.length : Int) else (l0.length : Int)) = ji3 := by rw [← hji3_]; simp only [Int.ofNat_lt]
 have H' := Aside0.mk H
 clear H
 go_enter Tryd.func54, Tryd.ntmps54
 go_wp2
 repeat (go_quiet (fail); try go_wp2)
 go_loopg [13] k (fun kq v13 w' => ∃ (x13_1 : Int), v13 = .int .i64 x13_1 ∧ Aside0 (manometerref05_Compare.l0 kq l0 l1 ji3 x13_1 = some r) ∧ Aside0 (kq ≤ k) ∧ Aside0 (Below w.heap.size w w'))
 case atStart => exact ⟨(0), y6_, H', ⟨Nat.le_refl _⟩, ⟨y1_⟩⟩
 case round =>
  clear H'
  try clear c1
  try clear p2
  obtain ⟨x13_1, rfl, HA, HK1, HB⟩ := hrel
  cases gk with
  | zero => exact absurd HA.out (by simp [manometerref05_Compare.l0])
  | succ k1 =>
   have H := HA.out
   clear HA
   simp only [manometerref05_Compare.l0] at H
   by_cases c4 : x13_1 < ji3
   ·rw [if_pos c4] at H
    have c4b0 : decide (x13_1 < ji3) = true := decide_eq_true c4
    clear c4
    by_cases c5 : 0 ≤ x13_1
    ·rw [if_pos c5] at H
     have c5b0 : decide (0 ≤ x13_1) = true := decide_eq_true c5
     clear c5
     by_cases c6 : x13_1 < (l0.length : Int)
     ·rw [if_pos c6] at H
      have c6b0 : decide (x13_1 < (l0.length : Int)) = true := decide_eq_true c6
      clear c6
      by_cases c7 : x13_1 < (l1.length : Int)
      ·rw [if_pos c7] at H
       have c7b0 : decide (x13_1 < (l1.length : Int)) = true := decide_eq_true c7
       clear c7
       replace H := Option.bind_eq_some_iff.mp H
       obtain ⟨t161, A80, H⟩ := H
       replace H : (if t161 = 0 then ((manometerref05_text.f ((rd_T66 l0 x13_1).f1) ((rd_T66 l1 x13_1).f1)).bind fun t164 => (if t164 = 0 then (manometerref05_Compare.l0 k1 l0 l1 ji3 (wrap64 (x13_1 + 1))) else (some t164))) else (some t161)) = some r := H
       have A8 := Aside0.mk A80
       clear A80
       by_cases c9 : t161 = 0
       ·rw [if_pos c9] at H
        have c9b0 : (t161 == 0) = true := beq_iff_eq.mpr c9
        have c9b1 : (t161 != 0) = false := bne_eq_false_iff_eq.mpr c9
        clear c9
        replace H := Option.bind_eq_some_iff.mp H
        obtain ⟨t164, A100, H⟩ := H
        replace H : (if t164 = 0 then (manometerref05_Compare.l0 k1 l0 l1 ji3 (wrap64 (x13_1 + 1))) else (some t164)) = some r := H
        have A10 := Aside0.mk A100
        clear A100
        by_cases c11 : t164 = 0
        ·rw [if_pos c11] at H
         have c11b0 : (t164 == 0) = true := beq_iff_eq.mpr c11
         have c11b1 : (t164 != 0) = false := bne_eq_false_iff_eq.mpr c11
         clear c11
         have H' := Aside0.mk H
         clear H
         have p159 : 0 ≤ (x13_1 : Int) := of_decide_eq_true y4_
         have q159 : x13_1 < (l0.length : Int) := of_decide_eq_true y4_
         obtain ⟨ad159, e159, hx159_0, hx159_1⟩ := at_T66 HR0.out x13_1 p159 q159
         cases e159
         replace hx159_0 := (HB.out.cell (World.block_lt_of_cell? w _ hx159_0)).trans hx159_0
         replace hx159_1 := (HB.out.cell (World.block_lt_of_cell? w _ hx159_1)).trans hx159_1
         replace p159 := eq_true p159
         replace q159 := eq_true q159
         have p160 : 0 ≤ (x13_1 : Int) := of_decide_eq_true y4_
         have q160 : x13_1 < (l1.length : Int) := of_decide_eq_true y4_
         obtain ⟨ad160, e160, hx160_0, hx160_1⟩ := at_T66 HR1.out x13_1 p160 q160
         cases e160
         replace hx160_0 := (HB.out.cell (World.block_lt_of_cell? w _ hx160_0)).trans hx160_0
         replace hx160_1 := (HB.out.cell (World.block_lt_of_cell? w _ hx160_1)).trans hx160_1
         replace p160 := eq_true p160
         replace q160 := eq_true q160
         go_wp2_with (first | (go_at_call 59; (with_reducible refine (manometerref05_text.calls ((rd_T66 l0 x13_1).f0) ((rd_T66 l1 x13_1).f0) t161 _ A8.out).mono ?_); rintro e w' ⟨rfl, ⟨nd, rfl⟩⟩; (try first | exact ⟨rfl, _, World.drewN_drewN _ _ _⟩ | exact ⟨rfl, _, Eq.trans (World.drewN_drewN _ _ _) (congrArg (World.drewN _) (Nat.add_assoc _ _ _))⟩); have p162 : 0 ≤ (x13_1 : Int) := of_decide_eq_true y4_; have q162 : x13_1 < (l0.length : Int) := of_decide_eq_true y4_; obtain ⟨ad162, e162, hx162_0, hx162_1⟩ := at_T66 HR0.out x13_1 p162 q162; obtain rfl : ad159 = ad162 := (by injection e162); replace hx162_0 := (HB.out.cell (World.block_lt_of_cell? w _ hx162_0)).trans hx162_0; replace hx162_1 := (HB.out.cell (World.block_lt_of_cell? w _ hx162_1)).trans hx162_1; replace p162 := eq_true p162; replace q162 := eq_true q162; have p163 : 0 ≤ (x13_1 : Int) := of_decide_eq_true y4_; have q163 : x13_1 < (l1.length : Int) := of_decide_eq_true y4_; obtain ⟨ad163, e163, hx163_0, hx163_1⟩ := at_T66 HR1.out x13_1 p163 q163; obtain rfl : ad160 = ad163 := (by injection e163); replace hx163_0 := (HB.out.cell (World.block_lt_of_cell? w _ hx163_0)).trans hx163_0; replace hx163_1 := (HB.out.cell (World.block_lt_of_cell? w _ hx163_1)).trans hx163_1; replace p163 := eq_true p163; replace q163 := eq_true q163) | (go_at_call 59; (with_reducible refine (manometerref05_text.calls ((rd_T66 l0 x13_1).f1) ((rd_T66 l1 x13_1).f1) t164 _ A10.out).mono ?_); rintro e w' ⟨rfl, ⟨nd, rfl⟩⟩; (try first | exact ⟨rfl, _, World.drewN_drewN _ _ _⟩ | exact ⟨rfl, _, Eq.trans (World.drewN_drewN _ _ _) (congrArg (World.drewN _) (Nat.add_assoc _ _ _))⟩)))
         repeat (go_quiet (first | (go_at_call 59; (with_reducible refine (manometerref05_text.calls ((rd_T66 l0 x13_1).f0) ((rd_T66 l1 x13_1).f0) t161 _ A8.out).mono ?_); rintro e w' ⟨rfl, ⟨nd, rfl⟩⟩; (try first | exact ⟨rfl, _, World.drewN_drewN _ _ _⟩ | exact ⟨rfl, _, Eq.trans (World.drewN_drewN _ _ _) (congrArg (World.drewN _) (Nat.add_assoc _ _ _))⟩); have p162 : 0 ≤ (x13_1 : Int) := of_decide_eq_true y4_; have q162 : x13_1 < (l0.length : Int) := of_decide_eq_true y4_; obtain ⟨ad162, e162, hx162_0, hx162_1⟩ := at_T66 HR0.out x13_1 p162 q162; obtain rfl : ad159 = ad162 := (by injection e162); replace hx162_0 := (HB.out.cell (World.block_lt_of_cell? w _ hx162_0)).trans hx162_0; replace hx162_1 := (HB.out.cell (World.block_lt_of_cell? w _ hx162_1)).trans hx162_1; replace p162 := eq_true p162; replace q162 := eq_true q162; have p163 : 0 ≤ (x13_1 : Int) := of_decide_eq_true y4_; have q163 : x13_1 < (l1.length : Int) := of_decide_eq_true y4_; obtain ⟨ad163, e163, hx163_0, hx163_1⟩ := at_T66 HR1.out x13_1 p163 q163; obtain rfl : ad160 = ad163 := (by injection e163); replace hx163_0 := (HB.out.cell (World.block_lt_of_cell? w _ hx163_0)).trans hx163_0; replace hx163_1 := (HB.out.cell (World.block_lt_of_cell? w _ hx163_1)).trans hx163_1; replace p163 := eq_true p163; replace q163 := eq_true q163) | (go_at_call 59; (with_reducible refine (manometerref05_text.calls ((rd_T66 l0 x13_1).f1) ((rd_T66 l1 x13_1).f1) t164 _ A10.out).mono ?_); rintro e w' ⟨rfl, ⟨nd, rfl⟩⟩; (try first | exact ⟨rfl, _, World.drewN_drewN _ _ _⟩ | exact ⟨rfl, _, Eq.trans (World.drewN_drewN _ _ _) (congrArg (World.drewN _) (Nat.add_assoc _ _ _))⟩))); try go_wp2_with (first | (go_at_call 59; (with_reducible refine (manometerref05_text.calls ((rd_T66 l0 x13_1).f0) ((rd_T66 l1 x13_1).f0) t161 _ A8.out).mono ?_); rintro e w' ⟨rfl, ⟨nd, rfl⟩⟩; (try first | exact ⟨rfl, _, World.drewN_drewN _ _ _⟩ | exact ⟨rfl, _, Eq.trans (World.drewN_drewN _ _ _) (congrArg (World.drewN _) (Nat.add_assoc _ _ _))⟩); have p162 : 0 ≤ (x13_1 : Int) := of_decide_eq_true y4_; have q162 : x13_1 < (l0.length : Int) := of_decide_eq_true y4_; obtain ⟨ad162, e162, hx162_0, hx162_1⟩ := at_T66 HR0.out x13_1 p162 q162; obtain rfl : ad159 = ad162 := (by injection e162); replace hx162_0 := (HB.out.cell (World.block_lt_of_cell? w _ hx162_0)).trans hx162_0; replace hx162_1 := (HB.out.cell (World.block_lt_of_cell? w _ hx162_1)).trans hx162_1; replace p162 := eq_true p162; replace q162 := eq_true q162; have p163 : 0 ≤ (x13_1 : Int) := of_decide_eq_true y4_; have q163 : x13_1 < (l1.length : Int) := of_decide_eq_true y4_; obtain ⟨ad163, e163, hx163_0, hx163_1⟩ := at_T66 HR1.out x13_1 p163 q163; obtain rfl : ad160 = ad163 := (by injection e163); replace hx163_0 := (HB.out.cell (World.block_lt_of_cell? w _ hx163_0)).trans hx163_0; replace hx163_1 := (HB.out.cell (World.block_lt_of_cell? w _ hx163_1)).trans hx163_1; replace p163 := eq_true p163; replace q163 := eq_true q163) | (go_at_call 59; (with_reducible refine (manometerref05_text.calls ((rd_T66 l0 x13_1).f1) ((rd_T66 l1 x13_1).f1) t164 _ A10.out).mono ?_); rintro e w' ⟨rfl, ⟨nd, rfl⟩⟩; (try first | exact ⟨rfl, _, World.drewN_drewN _ _ _⟩ | exact ⟨rfl, _, Eq.trans (World.drewN_drewN _ _ _) (congrArg (World.drewN _) (Nat.add_assoc _ _ _))⟩))))
         go_roundg k1
         case measure => have := HK1.out; omega
         case rel => exact ⟨(wrap64 (x13_1 + 1)), y6_, H', ⟨y51_⟩, ⟨y1_⟩⟩
        ·rw [if_neg c11] at H
         have c11b0 : (t164 == 0) = false := beq_eq_false_iff_ne.mpr c11
         have c11b1 : (t164 != 0) = true := bne_iff_ne.mpr c11
         obtain rfl := Option.some.inj H
         have p159 : 0 ≤ (x13_1 : Int) := of_decide_eq_true y4_
         have q159 : x13_1 < (l0.length : Int) := of_decide_eq_true y4_
         obtain ⟨ad159, e159, hx159_0, hx159_1⟩ := at_T66 HR0.out x13_1 p159 q159
         cases e159
         replace hx159_0 := (HB.out.cell (World.block_lt_of_cell? w _ hx159_0)).trans hx159_0
         replace hx159_1 := (HB.out.cell (World.block_lt_of_cell? w _ hx159_1)).trans hx159_1
         replace p159 := eq_true p159
         replace q159 := eq_true q159
         have p160 : 0 ≤ (x13_1 : Int) := of_decide_eq_true y4_
         have q160 : x13_1 < (l1.length : Int) := of_decide_eq_true y4_
         obtain ⟨ad160, e160, hx160_0, hx160_1⟩ := at_T66 HR1.out x13_1 p160 q160
         cases e160
         replace hx160_0 := (HB.out.cell (World.block_lt_of_cell? w _ hx160_0)).trans hx160_0
         replace hx160_1 := (HB.out.cell (World.block_lt_of_cell? w _ hx160_1)).trans hx160_1
         replace p160 := eq_true p160
         replace q160 := eq_true q160
         go_wp2_with (first | (go_at_call 59; (with_reducible refine (manometerref05_text.calls ((rd_T66 l0 x13_1).f0) ((rd_T66 l1 x13_1).f0) t161 _ A8.out).mono ?_); rintro e w' ⟨rfl, ⟨nd, rfl⟩⟩; (try first | exact ⟨rfl, _, World.drewN_drewN _ _ _⟩ | exact ⟨rfl, _, Eq.trans (World.drewN_drewN _ _ _) (congrArg (World.drewN _) (Nat.add_assoc _ _ _))⟩); have p162 : 0 ≤ (x13_1 : Int) := of_decide_eq_true y4_; have q162 : x13_1 < (l0.length : Int) := of_decide_eq_true y4_; obtain ⟨ad162, e162, hx162_0, hx162_1⟩ := at_T66 HR0.out x13_1 p162 q162; obtain rfl : ad159 = ad162 := (by injection e162); replace hx162_0 := (HB.out.cell (World.block_lt_of_cell? w _ hx162_0)).trans hx162_0; replace hx162_1 := (HB.out.cell (World.block_lt_of_cell? w _ hx162_1)).trans hx162_1; replace p162 := eq_true p162; replace q162 := eq_true q162; have p163 : 0 ≤ (x13_1 : Int) := of_decide_eq_true y4_; have q163 : x13_1 < (l1.length : Int) := of_decide_eq_true y4_; obtain ⟨ad163, e163, hx163_0, hx163_1⟩ := at_T66 HR1.out x13_1 p163 q163; obtain rfl : ad160 = ad163 := (by injection e163); replace hx163_0 := (HB.out.cell (World.block_lt_of_cell? w _ hx163_0)).trans hx163_0; replace hx163_1 := (HB.out.cell (World.block_lt_of_cell? w _ hx163_1)).trans hx163_1; replace p163 := eq_true p163; replace q163 := eq_true q163) | (go_at_call 59; (with_reducible refine (manometerref05_text.calls ((rd_T66 l0 x13_1).f1) ((rd_T66 l1 x13_1).f1) t164 _ A10.out).mono ?_); rintro e w' ⟨rfl, ⟨nd, rfl⟩⟩; (try first | exact ⟨rfl, _, World.drewN_drewN _ _ _⟩ | exact ⟨rfl, _, Eq.trans (World.drewN_drewN _ _ _) (congrArg (World.drewN _) (Nat.add_assoc _ _ _))⟩)))
         repeat (go_quiet (first | (go_at_call 59; (with_reducible refine (manometerref05_text.calls ((rd_T66 l0 x13_1).f0) ((rd_T66 l1 x13_1).f0) t161 _ A8.out).mono ?_); rintro e w' ⟨rfl, ⟨nd, rfl⟩⟩; (try first | exact ⟨rfl, _, World.drewN_drewN _ _ _⟩ | exact ⟨rfl, _, Eq.trans (World.drewN_drewN _ _ _) (congrArg (World.drewN _) (Nat.add_assoc _ _ _))⟩); have p162 : 0 ≤ (x13_1 : Int) := of_decide_eq_true y4_; have q162 : x13_1 < (l0.length : Int) := of_decide_eq_true y4_; obtain ⟨ad162, e162, hx162_0, hx162_1⟩ := at_T66 HR0.out x13_1 p162 q162; obtain rfl : ad159 = ad162 := (by injection e162); replace hx162_0 := (HB.out.cell (World.block_lt_of_cell? w _ hx162_0)).trans hx162_0; replace hx162_1 := (HB.out.cell (World.block_lt_of_cell? w _ hx162_1)).trans hx162_1; replace p162 := eq_true p162; replace q162 := eq_true q162; have p163 : 0 ≤ (x13_1 : Int) := of_decide_eq_true y4_; have q163 : x13_1 < (l1.length : Int) := of_decide_eq_true y4_; obtain ⟨ad163, e163, hx163_0, hx163_1⟩ := at_T66 HR1.out x13_1 p163 q163; obtain rfl : ad160 = ad163 := (by injection e163); replace hx163_0 := (HB.out.cell (World.block_lt_of_cell? w _ hx163_0)).trans hx163_0; replace hx163_1 := (HB.out.cell (World.block_lt_of_cell? w _ hx163_1)).trans hx163_1; replace p163 := eq_true p163; replace q163 := eq_true q163) | (go_at_call 59; (with_reducible refine (manometerref05_text.calls ((rd_T66 l0 x13_1).f1) ((rd_T66 l1 x13_1).f1) t164 _ A10.out).mono ?_); rintro e w' ⟨rfl, ⟨nd, rfl⟩⟩; (try first | exact ⟨rfl, _, World.drewN_drewN _ _ _⟩ | exact ⟨rfl, _, Eq.trans (World.drewN_drewN _ _ _) (congrArg (World.drewN _) (Nat.add_assoc _ _ _))⟩))); try go_wp2_with (first | (go_at_call 59; (with_reducible refine (manometerref05_text.calls ((rd_T66 l0 x13_1).f0) ((rd_T66 l1 x13_1).f0) t161 _ A8.out).mono ?_); rintro e w' ⟨rfl, ⟨nd, rfl⟩⟩; (try first | exact ⟨rfl, _, World.drewN_drewN _ _ _⟩ | exact ⟨rfl, _, Eq.trans (World.drewN_drewN _ _ _) (congrArg (World.drewN _) (Nat.add_assoc _ _ _))⟩); have p162 : 0 ≤ (x13_1 : Int) := of_decide_eq_true y4_; have q162 : x13_1 < (l0.length : Int) := of_decide_eq_true y4_; obtain ⟨ad162, e162, hx162_0, hx162_1⟩ := at_T66 HR0.out x13_1 p162 q162; obtain rfl : ad159 = ad162 := (by injection e162); replace hx162_0 := (HB.out.cell (World.block_lt_of_cell? w _ hx162_0)).trans hx162_0; replace hx162_1 := (HB.out.cell (World.block_lt_of_cell? w _ hx162_1)).trans hx162_1; replace p162 := eq_true p162; replace q162 := eq_true q162; have p163 : 0 ≤ (x13_1 : Int) := of_decide_eq_true y4_; have q163 : x13_1 < (l1.length : Int) := of_decide_eq_true y4_; obtain ⟨ad163, e163, hx163_0, hx163_1⟩ := at_T66 HR1.out x13_1 p163 q163; obtain rfl : ad160 = ad163 := (by injection e163); replace hx163_0 := (HB.out.cell (World.block_lt_of_cell? w _ hx163_0)).trans hx163_0; replace hx163_1 := (HB.out.cell (World.block_lt_of_cell? w _ hx163_1)).trans hx163_1; replace p163 := eq_true p163; replace q163 := eq_true q163) | (go_at_call 59; (with_reducible refine (manometerref05_text.calls ((rd_T66 l0 x13_1).f1) ((rd_T66 l1 x13_1).f1) t164 _ A10.out).mono ?_); rintro e w' ⟨rfl, ⟨nd, rfl⟩⟩; (try first | exact ⟨rfl, _, World.drewN_drewN _ _ _⟩ | exact ⟨rfl, _, Eq.trans (World.drewN_drewN _ _ _) (congrArg (World.drewN _) (Nat.add_assoc _ _ _))⟩))))
         go_ret
         exact ⟨y17_, y1_⟩
       ·rw [if_neg c9] at H
        have c9b0 : (t161 == 0) = false := beq_eq_false_iff_ne.mpr c9
        have c9b1 : (t161 != 0) = true := bne_iff_ne.mpr c9
        obtain rfl := Option.some.inj H
        have p159 : 0 ≤ (x13_1 : Int) := of_decide_eq_true y4_
        have q159 : x13_1 < (l0.length : Int) := of_decide_eq_true y4_
        obtain ⟨ad159, e159, hx159_0, hx159_1⟩ := at_T66 HR0.out x13_1 p159 q159
        cases e159
        replace hx159_0 := (HB.out.cell (World.block_lt_of_cell? w _ hx159_0)).trans hx159_0
        replace hx159_1 := (HB.out.cell (World.block_lt_of_cell? w _ hx159_1)).trans hx159_1
        replace p159 := eq_true p159
        replace q159 := eq_true q159
        have p160 : 0 ≤ (x13_1 : Int) := of_decide_eq_true y4_
        have q160 : x13_1 < (l1.length : Int) := of_decide_eq_true y4_
        obtain ⟨ad160, e160, hx160_0, hx160_1⟩ := at_T66 HR1.out x13_1 p160 q160
        cases e160
        replace hx160_0 := (HB.out.cell (World.block_lt_of_cell? w _ hx160_0)).trans hx160_0
        replace hx160_1 := (HB.out.cell (World.block_lt_of_cell? w _ hx160_1)).trans hx160_1
        replace p160 := eq_true p160
        replace q160 := eq_true q160
        go_wp2_with (first | (go_at_call 59; (with_reducible refine (manometerref05_text.calls ((rd_T66 l0 x13_1).f0) ((rd_T66 l1 x13_1).f0) t161 _ A8.out).mono ?_); rintro e w' ⟨rfl, ⟨nd, rfl⟩⟩; (try first | exact ⟨rfl, _, World.drewN_drewN _ _ _⟩ | exact ⟨rfl, _, Eq.trans (World.drewN_drewN _ _ _) (congrArg (World.drewN _) (Nat.add_assoc _ _ _))⟩)))
        repeat (go_quiet (first | (go_at_call 59; (with_reducible refine (manometerref05_text.calls ((rd_T66 l0 x13_1).f0) ((rd_T66 l1 x13_1).f0) t161 _ A8.out).mono ?_); rintro e w' ⟨rfl, ⟨nd, rfl⟩⟩; (try first | exact ⟨rfl, _, World.drewN_drewN _ _ _⟩ | exact ⟨rfl, _, Eq.trans (World.drewN_drewN _ _ _) (congrArg (World.drewN _) (Nat.add_assoc _ _ _))⟩))); try go_wp2_with (first | (go_at_call 59; (with_reducible refine (manometerref05_text.calls ((rd_T66 l0 x13_1).f0) ((rd_T66 l1 x13_1).f0) t161 _ A8.out).mono ?_); rintro e w' ⟨rfl, ⟨nd, rfl⟩⟩; (try first | exact ⟨rfl, _, World.drewN_drewN _ _ _⟩ | exact ⟨rfl, _, Eq.trans (World.drewN_drewN _ _ _) (congrArg (World.drewN _) (Nat.add_assoc _ _ _))⟩))))
        go_ret
        exact ⟨y17_, y1_⟩
      ·rw [if_neg c7] at H
       exact absurd H (by simp)
     ·rw [if_neg c6] at H
      exact absurd H (by simp)
    ·rw [if_neg c5] at H
     exact absurd H (by simp)
   ·rw [if_neg c4] at H
    have c4b0 : decide (x13_1 < ji3) = false := decide_eq_false c4
    clear c4
    by_cases c12 : (l0.length : Int) < (l1.length : Int)
    ·rw [if_pos c12] at H
     have c12b0 : decide ((l0.length : Int) < (l1.length : Int)) = true := decide_eq_true c12
     have c12b1 : decide (l0.length < l1.length) = true := decide_eq_true (Int.ofNat_lt.mp c12)
     clear c12
     obtain rfl := Option.some.inj H
     go_wp2
     repeat (go_quiet (fail); try go_wp2)
     go_ret
     exact ⟨y17_, y1_⟩
    ·rw [if_neg c12] at H
     have c12b0 : decide ((l0.length : Int) < (l1.length : Int)) = false := decide_eq_false c12
     have c12b1 : decide (l0.length < l1.length) = false := decide_eq_false (fun h => c12 (Int.ofNat_lt.mpr h))
     clear c12
     by_cases c13 : (l0.length : Int) > (l1.length : Int)
     ·rw [if_pos c13] at H
      have c13b0 : decide ((l1.length : Int) < (l0.length : Int)) = true := decide_eq_true c13
      have c13b1 : decide (l1.length < l0.length) = true := decide_eq_true (Int.ofNat_lt.mp c13)
      clear c13
      obtain rfl := Option.some.inj H
      go_wp2
      repeat (go_quiet (fail); try go_wp2)
      go_ret
      exact ⟨y17_, y1_⟩
     ·rw [if_neg c13] at H
      have c13b0 : decide ((l1.length : Int) < (l0.length : Int)) = false := decide_eq_false c13
      have c13b1 : decide (l1.length < l0.length) = false := decide_eq_false (fun h => c13 (Int.ofNat_lt.mpr h))
      clear c13
      obtain rfl := Option.some.inj H
      go_wp2
      repeat (go_quiet (fail); try go_wp2)
      go_ret
      exact ⟨y17_, y1_⟩
end Go.Proofs.YtbpmgaaipkenkaaDoor.PMS
