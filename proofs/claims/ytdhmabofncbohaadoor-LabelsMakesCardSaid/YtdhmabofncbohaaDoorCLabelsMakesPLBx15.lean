import Derived.Test.YtdhmabofncbohaaDoorCLabelsMakesPLBx0
import Derived.Test.YtdhmabofncbohaaDoorCLabelsMakesPLBx3
import Derived.Test.YtdhmabofncbohaaDoorCLabelsMakesPLBx5
import Derived.Test.YtdhmabofncbohaaDoorCLabelsMakesPLBx6
import Derived.Test.YtdhmabofncbohaaDoorCLabelsMakesPLBx7
import Derived.Test.YtdhmabofncbohaaDoorCLabelsMakesPLBx8
import Derived.Test.YtdhmabofncbohaaDoorCLabelsMakesPLBx10
import Derived.Test.YtdhmabofncbohaaDoorCLabelsMakesPLBx11
import Derived.Test.YtdhmabofncbohaaDoorCLabelsMakesPLBx13
import Derived.Test.YtdhmabofncbohaaDoorCLabelsMakesPLBx14
import Derived.Test.YtdhmabofncbohaaDoorCLabelsMakesL1
import Derived.Test.YtdhmabofncbohaaDoorCLabelsMakesY
namespace Go.Proofs.YtdhmabofncbohaaDoor.PLB
open Go.RowKit Go.Proofs.YtdhmabofncbohaaDoorW.PrintWords Go.Proofs.YtdhmabofncbohaaDoorW.PrintLast Go.Proofs.YtdhmabofncbohaaDoorW.PrintMore
attribute [local go_sem] max2_int min2_int max_two min_two max_three min_three max_four min_four
set_option linter.unusedVariables false
set_option linter.unusedSimpArgs false
mutual
def manometerref05_Right.l0 : Nat → List (S44) → List (S44) → Int → Int → Option (Int)
 | 0, _, _, _, _ => none
 | k + 1, x0, x8, x9, x10 => if x10 < x9 then (if 0 ≤ x10 then (if x10 < (x8.length : Int) then ((manometerref05_Named.f k ((rd_T44 x8 x10).f0)).bind fun t397 => (if t397 = true then ((manometerref05_Valued.f k ((rd_T44 x8 x10).f1)).bind fun t398 => (if t398 = true then (manometerref05_Right.j1 k x0 x10 x8 x9 x10 (((rd_T44 x8 x10).f1).toList == ([] : List UInt8)) ((rd_T44 x8 x10).f0) ((rd_T44 x8 x10).f1)) else (manometerref05_Right.j1 k x0 x10 x8 x9 x10 true ((rd_T44 x8 x10).f0) ((rd_T44 x8 x10).f1)))) else (some 50))) else (none)) else (none)) else (some 0)
def manometerref05_Right.j1 : Nat → List (S44) → Int → List (S44) → Int → Int → Bool → ByteArray → ByteArray → Option (Int)
 | 0, _, _, _, _, _, _, _, _ => none
 | k + 1, x0, x3, x8, x9, x10, x20, x397000, x397001 => if x20 = true then (some 51) else (if x3 > 0 then (if 0 ≤ (wrap64 (x3 - 1)) then (if (wrap64 (x3 - 1)) < (x0.length : Int) then (if (Op.bytesLess x397000.toList (((rd_T44 x0 (wrap64 (x3 - 1))).f0).toList)) = true then (some 53) else (if x397000.toList = ((rd_T44 x0 (wrap64 (x3 - 1))).f0).toList then (some 53) else (manometerref05_Right.l0 k x0 x8 x9 (wrap64 (x10 + 1))))) else (none)) else (none)) else (manometerref05_Right.l0 k x0 x8 x9 (wrap64 (x10 + 1))))
end
def manometerref05_Right.f (k : Nat) (l0 : List (S44)) : Option (Int) := if (l0.length : Int) > 16 then (some 3) else (manometerref05_Right.l0 k l0 l0 (l0.length : Int) 0)
set_option maxHeartbeats 8000000 in
set_option maxRecDepth 100000 in
theorem manometerref05_Right.calls (k : Nat) (A0 : Option Addr) (c0 : Nat) (l0 : List (S44)) (r : Int) (w : World) (hr0 : Kd.C k44 w A0 l0.length l0) (hc0 : l0.length ≤ c0) (h : manometerref05_Right.f k l0 = some r) :
  Calls Tryd.prog 37 #[.slice A0 l0.length c0] w fun e w' => e = .returned (.int .i64 r) ∧ Below w.heap.size w w' := by
 have hu44 := Tryd.underlying44
 have HR0 := Aside0.mk hr0
 have HC0 := Aside0.mk hc0
 clear hr0 hc0
 have HB := Aside0.mk (Below.refl w.heap.size w)
 have H : (if (l0.length : Int) > 16 then (some 3) else (manometerref05_Right.l0 k l0 l0 (l0.length : Int) 0)) = some r := h
 clear h
 by_cases c2 : (l0.length : Int) > 16
 ·rw [if_pos c2] at H
  have c2b0 : decide (16 < (l0.length : Int)) = true := decide_eq_true c2
  have c2b1 : decide (16 < l0.length) = true := decide_eq_true (by omega)
  clear c2
  obtain rfl := Option.some.inj H
  go_enter Tryd.func37, Tryd.ntmps37
  go_wp2
  repeat (go_quiet (fail); try go_wp2)
  go_ret
  exact ⟨y9_, y1_⟩
 ·rw [if_neg c2] at H
  have c2b0 : decide (16 < (l0.length : Int)) = false := decide_eq_false c2
  have c2b1 : decide (16 < l0.length) = false := decide_eq_false (by omega)
  clear c2
  have H' := Aside0.mk H
  clear H
  go_enter Tryd.func37, Tryd.ntmps37
  go_wp2
  repeat (go_quiet (fail); try go_wp2)
  go_loopg [10] k (fun kq v10 w' => ∃ (x10_1 : Int), v10 = .int .i64 x10_1 ∧ Aside0 (manometerref05_Right.l0 kq l0 l0 (l0.length : Int) x10_1 = some r) ∧ Aside0 (kq ≤ k) ∧ Aside0 (Below w.heap.size w w'))
  case atStart => exact ⟨(0), y6_, H', ⟨Nat.le_refl _⟩, ⟨y1_⟩⟩
  case round =>
   clear H'
   try clear c2
   try clear c2b0
   try clear c2b1
   try clear p2
   obtain ⟨x10_1, rfl, HA, HK1, HB⟩ := hrel
   cases gk with
   | zero => exact absurd HA.out (by simp [manometerref05_Right.l0])
   | succ k1 =>
    have H := HA.out
    clear HA
    simp only [manometerref05_Right.l0] at H
    by_cases c3 : x10_1 < (l0.length : Int)
    ·rw [if_pos c3] at H
     have c3b0 : decide (x10_1 < (l0.length : Int)) = true := decide_eq_true c3
     clear c3
     by_cases c4 : 0 ≤ x10_1
     ·rw [if_pos c4] at H
      have c4b0 : decide (0 ≤ x10_1) = true := decide_eq_true c4
      clear c4
      by_cases c5 : x10_1 < (l0.length : Int)
      ·rw [if_pos c5] at H
       have c5b0 : decide (x10_1 < (l0.length : Int)) = true := decide_eq_true c5
       clear c5
       replace H := Option.bind_eq_some_iff.mp H
       obtain ⟨t397, A60, H⟩ := H
       replace H : (if t397 = true then ((manometerref05_Valued.f k1 ((rd_T44 l0 x10_1).f1)).bind fun t398 => (if t398 = true then (manometerref05_Right.j1 k1 l0 x10_1 l0 (l0.length : Int) x10_1 (((rd_T44 l0 x10_1).f1).toList == ([] : List UInt8)) ((rd_T44 l0 x10_1).f0) ((rd_T44 l0 x10_1).f1)) else (manometerref05_Right.j1 k1 l0 x10_1 l0 (l0.length : Int) x10_1 true ((rd_T44 l0 x10_1).f0) ((rd_T44 l0 x10_1).f1)))) else (some 50)) = some r := H
       have A6 := Aside0.mk A60
       clear A60
       by_cases c7 : t397 = true
       ·subst c7
        have H1 : ((manometerref05_Valued.f k1 ((rd_T44 l0 x10_1).f1)).bind fun t398 => (if t398 = true then (manometerref05_Right.j1 k1 l0 x10_1 l0 (l0.length : Int) x10_1 (((rd_T44 l0 x10_1).f1).toList == ([] : List UInt8)) ((rd_T44 l0 x10_1).f0) ((rd_T44 l0 x10_1).f1)) else (manometerref05_Right.j1 k1 l0 x10_1 l0 (l0.length : Int) x10_1 true ((rd_T44 l0 x10_1).f0) ((rd_T44 l0 x10_1).f1)))) = some r := by rw [if_pos rfl] at H; exact H
        clear H
        have H := H1
        clear H1
        have HC8 := Aside0.mk H
        clear H
        have p395 : 0 ≤ (x10_1 : Int) := of_decide_eq_true y3_
        have q395 : x10_1 < (l0.length : Int) := of_decide_eq_true y3_
        obtain ⟨ad395, e395, hx395_0, hx395_1⟩ := at_T44 HR0.out x10_1 p395 q395
        cases e395
        replace hx395_0 := (HB.out.cell (World.block_lt_of_cell? w _ hx395_0)).trans hx395_0
        replace hx395_1 := (HB.out.cell (World.block_lt_of_cell? w _ hx395_1)).trans hx395_1
        replace p395 := eq_true p395
        replace q395 := eq_true q395
        go_upto_region 8 with (first | ((with_reducible refine gate_dst (N := 4) rfl ?_); refine box_event ?hg (N := 4) ?hd (cs := #[.string (⟨#[]⟩ : ByteArray), .string (⟨#[]⟩ : ByteArray)]) (t := 44) ?hr ?_; (case hd => rfl); (case hg => rfl); (case hr => first | (go_simp; done) | (go_simp; rfl)); intro gb396 hg w9 hbox hb; have n0_ := Aside0.mk (below_step y1_ hb); have n1_ := Aside0.mk (hbox); have n2_ := Aside0.mk ((y11_ : w.heap.size ≤ gb396)); have n3_ := Aside0.mk ((y11_ : w.heap.size ≤ gb396)); clear HB; have HB := n0_; have BK396 := n1_; have GW396 := n2_; have GE396 := n3_; clear n0_ n1_ n2_ n3_; clear hb hbox hg; have hcz10_0 : w9.cell? ⟨gb396, 0, none⟩ = some (.string (⟨#[]⟩ : ByteArray)) := (blk_cell BK396.out 0).trans rfl; have hcz10_1 : w9.cell? ⟨gb396, 1, none⟩ = some (.string (⟨#[]⟩ : ByteArray)) := (blk_cell BK396.out 1).trans rfl; have hfz10_0 := blk_frozen BK396.out 0; have hfz10_1 := blk_frozen BK396.out 1) | (go_at_call 17; (with_reducible refine (manometerref05_Named.calls k1 ((rd_T44 l0 x10_1).f0) true _ A6.out).mono ?_); rintro e w' ⟨rfl, ⟨nd, rfl⟩⟩; (try first | exact ⟨rfl, _, World.drewN_drewN _ _ _⟩ | exact ⟨rfl, _, Eq.trans (World.drewN_drewN _ _ _) (congrArg (World.drewN _) (Nat.add_assoc _ _ _))⟩)))
        repeat (go_quiet (first | ((with_reducible refine gate_dst (N := 4) rfl ?_); refine box_event ?hg (N := 4) ?hd (cs := #[.string (⟨#[]⟩ : ByteArray), .string (⟨#[]⟩ : ByteArray)]) (t := 44) ?hr ?_; (case hd => rfl); (case hg => rfl); (case hr => first | (go_simp; done) | (go_simp; rfl)); intro gb396 hg w9 hbox hb; have n0_ := Aside0.mk (below_step y1_ hb); have n1_ := Aside0.mk (hbox); have n2_ := Aside0.mk ((y11_ : w.heap.size ≤ gb396)); have n3_ := Aside0.mk ((y11_ : w.heap.size ≤ gb396)); clear HB; have HB := n0_; have BK396 := n1_; have GW396 := n2_; have GE396 := n3_; clear n0_ n1_ n2_ n3_; clear hb hbox hg; have hcz10_0 : w9.cell? ⟨gb396, 0, none⟩ = some (.string (⟨#[]⟩ : ByteArray)) := (blk_cell BK396.out 0).trans rfl; have hcz10_1 : w9.cell? ⟨gb396, 1, none⟩ = some (.string (⟨#[]⟩ : ByteArray)) := (blk_cell BK396.out 1).trans rfl; have hfz10_0 := blk_frozen BK396.out 0; have hfz10_1 := blk_frozen BK396.out 1) | (go_at_call 17; (with_reducible refine (manometerref05_Named.calls k1 ((rd_T44 l0 x10_1).f0) true _ A6.out).mono ?_); rintro e w' ⟨rfl, ⟨nd, rfl⟩⟩; (try first | exact ⟨rfl, _, World.drewN_drewN _ _ _⟩ | exact ⟨rfl, _, Eq.trans (World.drewN_drewN _ _ _) (congrArg (World.drewN _) (Nat.add_assoc _ _ _))⟩))); go_upto_region 8 with (first | ((with_reducible refine gate_dst (N := 4) rfl ?_); refine box_event ?hg (N := 4) ?hd (cs := #[.string (⟨#[]⟩ : ByteArray), .string (⟨#[]⟩ : ByteArray)]) (t := 44) ?hr ?_; (case hd => rfl); (case hg => rfl); (case hr => first | (go_simp; done) | (go_simp; rfl)); intro gb396 hg w9 hbox hb; have n0_ := Aside0.mk (below_step y1_ hb); have n1_ := Aside0.mk (hbox); have n2_ := Aside0.mk ((y11_ : w.heap.size ≤ gb396)); have n3_ := Aside0.mk ((y11_ : w.heap.size ≤ gb396)); clear HB; have HB := n0_; have BK396 := n1_; have GW396 := n2_; have GE396 := n3_; clear n0_ n1_ n2_ n3_; clear hb hbox hg; have hcz10_0 : w9.cell? ⟨gb396, 0, none⟩ = some (.string (⟨#[]⟩ : ByteArray)) := (blk_cell BK396.out 0).trans rfl; have hcz10_1 : w9.cell? ⟨gb396, 1, none⟩ = some (.string (⟨#[]⟩ : ByteArray)) := (blk_cell BK396.out 1).trans rfl; have hfz10_0 := blk_frozen BK396.out 0; have hfz10_1 := blk_frozen BK396.out 1) | (go_at_call 17; (with_reducible refine (manometerref05_Named.calls k1 ((rd_T44 l0 x10_1).f0) true _ A6.out).mono ?_); rintro e w' ⟨rfl, ⟨nd, rfl⟩⟩; (try first | exact ⟨rfl, _, World.drewN_drewN _ _ _⟩ | exact ⟨rfl, _, Eq.trans (World.drewN_drewN _ _ _) (congrArg (World.drewN _) (Nat.add_assoc _ _ _))⟩))))
        (try simp only [Act.put, List.setIfInBounds_toArray, List.set_cons_zero, List.set_cons_succ])
        go_cut [20] (fun v20 wc => ∃ (kq : Nat) (x20_7 : Bool), v20 = .bool x20_7 ∧ Aside0 (manometerref05_Right.j1 kq l0 x10_1 l0 (l0.length : Int) x10_1 x20_7 ((rd_T44 l0 x10_1).f0) ((rd_T44 l0 x10_1).f1) = some r) ∧ Aside0 (kq ≤ k1) ∧ Aside0 (wc.heap[gb396]? = some (.cells #[.string ((rd_T44 l0 x10_1).f0), .string ((rd_T44 l0 x10_1).f1)] 44 (0, 0))) ∧ Aside0 (Below w.heap.size w wc))
        case first =>
         have H := HC8.out
         clear HC8
         replace H := Option.bind_eq_some_iff.mp H
         obtain ⟨t398, A110, H⟩ := H
         replace H : (if t398 = true then (manometerref05_Right.j1 k1 l0 x10_1 l0 (l0.length : Int) x10_1 (((rd_T44 l0 x10_1).f1).toList == ([] : List UInt8)) ((rd_T44 l0 x10_1).f0) ((rd_T44 l0 x10_1).f1)) else (manometerref05_Right.j1 k1 l0 x10_1 l0 (l0.length : Int) x10_1 true ((rd_T44 l0 x10_1).f0) ((rd_T44 l0 x10_1).f1))) = some r := H
         have A11 := Aside0.mk A110
         clear A110
         by_cases c12 : t398 = true
         ·subst c12
          have H1 : (manometerref05_Right.j1 k1 l0 x10_1 l0 (l0.length : Int) x10_1 (((rd_T44 l0 x10_1).f1).toList == ([] : List UInt8)) ((rd_T44 l0 x10_1).f0) ((rd_T44 l0 x10_1).f1)) = some r := by rw [if_pos rfl] at H; exact H
          clear H
          have H := H1
          clear H1
          have H' := Aside0.mk H
          clear H
          have hcz13_0 : w9.cell? ⟨gb396, 0, none⟩ = some (.string (⟨#[]⟩ : ByteArray)) := (blk_cell BK396.out 0).trans rfl
          have hcz13_1 : w9.cell? ⟨gb396, 1, none⟩ = some (.string (⟨#[]⟩ : ByteArray)) := (blk_cell BK396.out 1).trans rfl
          have hfz13_0 := blk_frozen BK396.out 0
          have hfz13_1 := blk_frozen BK396.out 1
          go_wp2_with (first | (go_at_call 19; (with_reducible refine (manometerref05_Valued.calls k1 ((rd_T44 l0 x10_1).f1) true _ A11.out).mono ?_); rintro e w' ⟨rfl, ⟨nd, rfl⟩⟩; (try first | exact ⟨rfl, _, World.drewN_drewN _ _ _⟩ | exact ⟨rfl, _, Eq.trans (World.drewN_drewN _ _ _) (congrArg (World.drewN _) (Nat.add_assoc _ _ _))⟩)))
          repeat (go_quiet (first | (go_at_call 19; (with_reducible refine (manometerref05_Valued.calls k1 ((rd_T44 l0 x10_1).f1) true _ A11.out).mono ?_); rintro e w' ⟨rfl, ⟨nd, rfl⟩⟩; (try first | exact ⟨rfl, _, World.drewN_drewN _ _ _⟩ | exact ⟨rfl, _, Eq.trans (World.drewN_drewN _ _ _) (congrArg (World.drewN _) (Nat.add_assoc _ _ _))⟩))); try go_wp2_with (first | (go_at_call 19; (with_reducible refine (manometerref05_Valued.calls k1 ((rd_T44 l0 x10_1).f1) true _ A11.out).mono ?_); rintro e w' ⟨rfl, ⟨nd, rfl⟩⟩; (try first | exact ⟨rfl, _, World.drewN_drewN _ _ _⟩ | exact ⟨rfl, _, Eq.trans (World.drewN_drewN _ _ _) (congrArg (World.drewN _) (Nat.add_assoc _ _ _))⟩))))
          go_meet
          case rel => exact ⟨_, ((((rd_T44 l0 x10_1).f1).toList == ([] : List UInt8))), y6_, H', ⟨y55_⟩, ⟨y46_⟩, ⟨y30_⟩⟩
         ·replace c12 := Bool.eq_false_iff.mpr c12
          subst c12
          have H1 : (manometerref05_Right.j1 k1 l0 x10_1 l0 (l0.length : Int) x10_1 true ((rd_T44 l0 x10_1).f0) ((rd_T44 l0 x10_1).f1)) = some r := by rw [if_neg (show ¬ (false = true) by decide)] at H; exact H
          clear H
          have H := H1
          clear H1
          have H' := Aside0.mk H
          clear H
          have hcz14_0 : w9.cell? ⟨gb396, 0, none⟩ = some (.string (⟨#[]⟩ : ByteArray)) := (blk_cell BK396.out 0).trans rfl
          have hcz14_1 : w9.cell? ⟨gb396, 1, none⟩ = some (.string (⟨#[]⟩ : ByteArray)) := (blk_cell BK396.out 1).trans rfl
          have hfz14_0 := blk_frozen BK396.out 0
          have hfz14_1 := blk_frozen BK396.out 1
          go_wp2_with (first | (go_at_call 19; (with_reducible refine (manometerref05_Valued.calls k1 ((rd_T44 l0 x10_1).f1) false _ A11.out).mono ?_); rintro e w' ⟨rfl, ⟨nd, rfl⟩⟩; (try first | exact ⟨rfl, _, World.drewN_drewN _ _ _⟩ | exact ⟨rfl, _, Eq.trans (World.drewN_drewN _ _ _) (congrArg (World.drewN _) (Nat.add_assoc _ _ _))⟩)))
          repeat (go_quiet (first | (go_at_call 19; (with_reducible refine (manometerref05_Valued.calls k1 ((rd_T44 l0 x10_1).f1) false _ A11.out).mono ?_); rintro e w' ⟨rfl, ⟨nd, rfl⟩⟩; (try first | exact ⟨rfl, _, World.drewN_drewN _ _ _⟩ | exact ⟨rfl, _, Eq.trans (World.drewN_drewN _ _ _) (congrArg (World.drewN _) (Nat.add_assoc _ _ _))⟩))); try go_wp2_with (first | (go_at_call 19; (with_reducible refine (manometerref05_Valued.calls k1 ((rd_T44 l0 x10_1).f1) false _ A11.out).mono ?_); rintro e w' ⟨rfl, ⟨nd, rfl⟩⟩; (try first | exact ⟨rfl, _, World.drewN_drewN _ _ _⟩ | exact ⟨rfl, _, Eq.trans (World.drewN_drewN _ _ _) (congrArg (World.drewN _) (Nat.add_assoc _ _ _))⟩))))
          go_meet
          case rel => exact ⟨_, (true), y6_, H', ⟨y55_⟩, ⟨y46_⟩, ⟨y30_⟩⟩
        case rest =>
         clear HC8
         try clear c1
         try clear c2
         try clear c2b0
         try clear c2b1
         try clear p2
         try clear c3
         try clear c3b0
         try clear p3
         try clear q3
         try clear hx3
         try clear c4
         try clear c4b0
         try clear c5
         try clear c5b0
         try clear c7
         try clear c12
         try clear hcz10_0
         try clear hcz10_1
         try clear hcz13_0
         try clear hcz13_1
         try clear hcz14_0
         try clear hcz14_1
         try clear hfz10_0
         try clear hfz10_1
         try clear hfz13_0
         try clear hfz13_1
         try clear hfz14_0
         try clear hfz14_1
         try clear hx395_0
         try clear hx395_1
         try clear p2
         try clear p395
         try clear q395
         obtain ⟨kq, x20_7, rfl, HA, HJ7, BK396, HB⟩ := hcut
         cases kq with
         | zero => exact absurd HA.out (by simp [manometerref05_Right.j1])
         | succ kj7 =>
          have H := HA.out
          clear HA
          simp only [manometerref05_Right.j1] at H
          by_cases c15 : x20_7 = true
          ·subst c15
           have H1 : (some 51) = some r := by rw [if_pos rfl] at H; exact H
           clear H
           have H := H1
           clear H1
           obtain rfl := Option.some.inj H
           go_wp2
           repeat (go_quiet (fail); try go_wp2)
           go_ret
           exact ⟨y9_, y30_⟩
          ·replace c15 := Bool.eq_false_iff.mpr c15
           subst c15
           have H1 : (if x10_1 > 0 then (if 0 ≤ (wrap64 (x10_1 - 1)) then (if (wrap64 (x10_1 - 1)) < (l0.length : Int) then (if (Op.bytesLess ((rd_T44 l0 x10_1).f0).toList (((rd_T44 l0 (wrap64 (x10_1 - 1))).f0).toList)) = true then (some 53) else (if ((rd_T44 l0 x10_1).f0).toList = ((rd_T44 l0 (wrap64 (x10_1 - 1))).f0).toList then (some 53) else (manometerref05_Right.l0 kj7 l0 l0 (l0.length : Int) (wrap64 (x10_1 + 1))))) else (none)) else (none)) else (manometerref05_Right.l0 kj7 l0 l0 (l0.length : Int) (wrap64 (x10_1 + 1)))) = some r := by rw [if_neg (show ¬ (false = true) by decide)] at H; exact H
           clear H
           have H := H1
           clear H1
           by_cases c16 : x10_1 > 0
           ·rw [if_pos c16] at H
            have c16b0 : decide (0 < x10_1) = true := decide_eq_true c16
            clear c16
            obtain ⟨ji17, hji17⟩ : ∃ j_ : Int, (wrap64 (x10_1 - 1)) = j_ := ⟨_, rfl⟩
            replace H : (if 0 ≤ (ji17) then (if (ji17) < (l0.length : Int) then (if (Op.bytesLess ((rd_T44 l0 x10_1).f0).toList (((rd_T44 l0 (ji17)).f0).toList)) = true then (some 53) else (if ((rd_T44 l0 x10_1).f0).toList = ((rd_T44 l0 (ji17)).f0).toList then (some 53) else (manometerref05_Right.l0 kj7 l0 l0 (l0.length : Int) (wrap64 (x10_1 + 1))))) else (none)) else (none)) = some r := by first | (rw [hji17] at H; exact H) | (simp only [hji17] at H ⊢; exact H)
            have hji17w : (IntKind.i64.wrap (x10_1 - 1)) = ji17 := (i64_w _).trans hji17
            by_cases c18 : 0 ≤ (ji17)
            ·rw [if_pos c18] at H
             have c18b0 : decide (0 ≤ (ji17)) = true := decide_eq_true c18
             clear c18
             by_cases c19 : (ji17) < (l0.length : Int)
             ·rw [if_pos c19] at H
              have c19b0 : decide ((ji17) < (l0.length : Int)) = true := decide_eq_true c19
              clear c19
              by_cases c20 : (Op.bytesLess ((rd_T44 l0 x10_1).f0).toList (((rd_T44 l0 (ji17)).f0).toList)) = true
              ·rw [if_pos c20] at H
               have c20b0 : (Op.bytesLess ((rd_T44 l0 x10_1).f0).toList (((rd_T44 l0 (ji17)).f0).toList)) = true := c20
               clear c20
               obtain rfl := Option.some.inj H
               have hcz21_0 : wc.cell? ⟨gb396, 0, none⟩ = some (.string ((rd_T44 l0 x10_1).f0)) := (blk_cell BK396.out 0).trans rfl
               have hcz21_1 : wc.cell? ⟨gb396, 1, none⟩ = some (.string ((rd_T44 l0 x10_1).f1)) := (blk_cell BK396.out 1).trans rfl
               have hfz21_0 := blk_frozen BK396.out 0
               have hfz21_1 := blk_frozen BK396.out 1
               have p399 : 0 ≤ ((ji17) : Int) := of_decide_eq_true y3_
               have q399 : (ji17) < (l0.length : Int) := of_decide_eq_true y3_
               obtain ⟨ad399, e399, hx399_0, hx399_1⟩ := at_T44 HR0.out (ji17) p399 q399
               obtain rfl : ad395 = ad399 := (by injection e399)
               replace hx399_0 := (HB.out.cell (World.block_lt_of_cell? w _ hx399_0)).trans hx399_0
               replace hx399_1 := (HB.out.cell (World.block_lt_of_cell? w _ hx399_1)).trans hx399_1
               replace p399 := eq_true p399
               replace q399 := eq_true q399
               go_wp2
               repeat (go_quiet (fail); try go_wp2)
               go_ret
               exact ⟨by first | rfl | (simp [errW_none, errW_some] <;> rfl) | (simp only [← hji17]; first | rfl | (simp [errW_none, errW_some] <;> rfl)) | (simp [*, errW_none, errW_some] <;> rfl), y30_⟩
              ·rw [if_neg c20] at H
               have c20b0 : (Op.bytesLess ((rd_T44 l0 x10_1).f0).toList (((rd_T44 l0 (ji17)).f0).toList)) = false := by simpa using c20
               clear c20
               by_cases c22 : ((rd_T44 l0 x10_1).f0).toList = ((rd_T44 l0 (ji17)).f0).toList
               ·rw [if_pos c22] at H
                have c22b0 : (((rd_T44 l0 x10_1).f0).toList == ((rd_T44 l0 (ji17)).f0).toList) = true := beq_iff_eq.mpr c22
                have c22b1 : (((rd_T44 l0 x10_1).f0).toList != ((rd_T44 l0 (ji17)).f0).toList) = false := bne_eq_false_iff_eq.mpr c22
                clear c22
                obtain rfl := Option.some.inj H
                have hcz23_0 : wc.cell? ⟨gb396, 0, none⟩ = some (.string ((rd_T44 l0 x10_1).f0)) := (blk_cell BK396.out 0).trans rfl
                have hcz23_1 : wc.cell? ⟨gb396, 1, none⟩ = some (.string ((rd_T44 l0 x10_1).f1)) := (blk_cell BK396.out 1).trans rfl
                have hfz23_0 := blk_frozen BK396.out 0
                have hfz23_1 := blk_frozen BK396.out 1
                have p399 : 0 ≤ ((ji17) : Int) := of_decide_eq_true y3_
                have q399 : (ji17) < (l0.length : Int) := of_decide_eq_true y3_
                obtain ⟨ad399, e399, hx399_0, hx399_1⟩ := at_T44 HR0.out (ji17) p399 q399
                obtain rfl : ad395 = ad399 := (by injection e399)
                replace hx399_0 := (HB.out.cell (World.block_lt_of_cell? w _ hx399_0)).trans hx399_0
                replace hx399_1 := (HB.out.cell (World.block_lt_of_cell? w _ hx399_1)).trans hx399_1
                replace p399 := eq_true p399
                replace q399 := eq_true q399
                go_wp2
                repeat (go_quiet (fail); try go_wp2)
                go_ret
                exact ⟨by first | rfl | (simp [errW_none, errW_some] <;> rfl) | (simp only [← hji17]; first | rfl | (simp [errW_none, errW_some] <;> rfl)) | (simp [*, errW_none, errW_some] <;> rfl), y30_⟩
               ·rw [if_neg c22] at H
                have c22b0 : (((rd_T44 l0 x10_1).f0).toList == ((rd_T44 l0 (ji17)).f0).toList) = false := beq_eq_false_iff_ne.mpr c22
                have c22b1 : (((rd_T44 l0 x10_1).f0).toList != ((rd_T44 l0 (ji17)).f0).toList) = true := bne_iff_ne.mpr c22
                have H' := Aside0.mk H
                clear H
                have hcz24_0 : wc.cell? ⟨gb396, 0, none⟩ = some (.string ((rd_T44 l0 x10_1).f0)) := (blk_cell BK396.out 0).trans rfl
                have hcz24_1 : wc.cell? ⟨gb396, 1, none⟩ = some (.string ((rd_T44 l0 x10_1).f1)) := (blk_cell BK396.out 1).trans rfl
                have hfz24_0 := blk_frozen BK396.out 0
                have hfz24_1 := blk_frozen BK396.out 1
                have p399 : 0 ≤ ((ji17) : Int) := of_decide_eq_true y3_
                have q399 : (ji17) < (l0.length : Int) := of_decide_eq_true y3_
                obtain ⟨ad399, e399, hx399_0, hx399_1⟩ := at_T44 HR0.out (ji17) p399 q399
                obtain rfl : ad395 = ad399 := (by injection e399)
                replace hx399_0 := (HB.out.cell (World.block_lt_of_cell? w _ hx399_0)).trans hx399_0
                replace hx399_1 := (HB.out.cell (World.block_lt_of_cell? w _ hx399_1)).trans hx399_1
                replace p399 := eq_true p399
                replace q399 := eq_true q399
                go_wp2
                repeat (go_quiet (fail); try go_wp2)
                go_roundg kj7
                case measure => have := HK1.out; have := HJ7.out; omega
                case rel => exact ⟨(wrap64 (x10_1 + 1)), y6_, H', ⟨by have := HK1.out; have := HJ7.out; omega⟩, ⟨y30_⟩⟩
             ·rw [if_neg c19] at H
              exact absurd H (by simp)
            ·rw [if_neg c18] at H
             exact absurd H (by simp)
           ·rw [if_neg c16] at H
            have c16b0 : decide (0 < x10_1) = false := decide_eq_false c16
            clear c16
            have H' := Aside0.mk H
            clear H
            go_wp2
            repeat (go_quiet (fail); try go_wp2)
            go_roundg kj7
            case measure => have := HK1.out; have := HJ7.out; omega
            case rel => exact ⟨(wrap64 (x10_1 + 1)), y6_, H', ⟨by have := HK1.out; have := HJ7.out; omega⟩, ⟨y30_⟩⟩
       ·replace c7 := Bool.eq_false_iff.mpr c7
        subst c7
        have H1 : (some 50) = some r := by rw [if_neg (show ¬ (false = true) by decide)] at H; exact H
        clear H
        have H := H1
        clear H1
        obtain rfl := Option.some.inj H
        have p395 : 0 ≤ (x10_1 : Int) := of_decide_eq_true y3_
        have q395 : x10_1 < (l0.length : Int) := of_decide_eq_true y3_
        obtain ⟨ad395, e395, hx395_0, hx395_1⟩ := at_T44 HR0.out x10_1 p395 q395
        cases e395
        replace hx395_0 := (HB.out.cell (World.block_lt_of_cell? w _ hx395_0)).trans hx395_0
        replace hx395_1 := (HB.out.cell (World.block_lt_of_cell? w _ hx395_1)).trans hx395_1
        replace p395 := eq_true p395
        replace q395 := eq_true q395
        go_wp2_with (first | ((with_reducible refine gate_dst (N := 4) rfl ?_); refine box_event ?hg (N := 4) ?hd (cs := #[.string (⟨#[]⟩ : ByteArray), .string (⟨#[]⟩ : ByteArray)]) (t := 44) ?hr ?_; (case hd => rfl); (case hg => rfl); (case hr => first | (go_simp; done) | (go_simp; rfl)); intro gb396 hg w25 hbox hb; have n0_ := Aside0.mk (below_step y1_ hb); have n1_ := Aside0.mk (hbox); have n2_ := Aside0.mk ((y11_ : w.heap.size ≤ gb396)); have n3_ := Aside0.mk ((y11_ : w.heap.size ≤ gb396)); clear HB; have HB := n0_; have BK396 := n1_; have GW396 := n2_; have GE396 := n3_; clear n0_ n1_ n2_ n3_; clear hb hbox hg; have hcz26_0 : w25.cell? ⟨gb396, 0, none⟩ = some (.string (⟨#[]⟩ : ByteArray)) := (blk_cell BK396.out 0).trans rfl; have hcz26_1 : w25.cell? ⟨gb396, 1, none⟩ = some (.string (⟨#[]⟩ : ByteArray)) := (blk_cell BK396.out 1).trans rfl; have hfz26_0 := blk_frozen BK396.out 0; have hfz26_1 := blk_frozen BK396.out 1) | (go_at_call 17; (with_reducible refine (manometerref05_Named.calls k1 ((rd_T44 l0 x10_1).f0) false _ A6.out).mono ?_); rintro e w' ⟨rfl, ⟨nd, rfl⟩⟩; (try first | exact ⟨rfl, _, World.drewN_drewN _ _ _⟩ | exact ⟨rfl, _, Eq.trans (World.drewN_drewN _ _ _) (congrArg (World.drewN _) (Nat.add_assoc _ _ _))⟩)))
        repeat (go_quiet (first | ((with_reducible refine gate_dst (N := 4) rfl ?_); refine box_event ?hg (N := 4) ?hd (cs := #[.string (⟨#[]⟩ : ByteArray), .string (⟨#[]⟩ : ByteArray)]) (t := 44) ?hr ?_; (case hd => rfl); (case hg => rfl); (case hr => first | (go_simp; done) | (go_simp; rfl)); intro gb396 hg w25 hbox hb; have n0_ := Aside0.mk (below_step y1_ hb); have n1_ := Aside0.mk (hbox); have n2_ := Aside0.mk ((y11_ : w.heap.size ≤ gb396)); have n3_ := Aside0.mk ((y11_ : w.heap.size ≤ gb396)); clear HB; have HB := n0_; have BK396 := n1_; have GW396 := n2_; have GE396 := n3_; clear n0_ n1_ n2_ n3_; clear hb hbox hg; have hcz26_0 : w25.cell? ⟨gb396, 0, none⟩ = some (.string (⟨#[]⟩ : ByteArray)) := (blk_cell BK396.out 0).trans rfl; have hcz26_1 : w25.cell? ⟨gb396, 1, none⟩ = some (.string (⟨#[]⟩ : ByteArray)) := (blk_cell BK396.out 1).trans rfl; have hfz26_0 := blk_frozen BK396.out 0; have hfz26_1 := blk_frozen BK396.out 1) | (go_at_call 17; (with_reducible refine (manometerref05_Named.calls k1 ((rd_T44 l0 x10_1).f0) false _ A6.out).mono ?_); rintro e w' ⟨rfl, ⟨nd, rfl⟩⟩; (try first | exact ⟨rfl, _, World.drewN_drewN _ _ _⟩ | exact ⟨rfl, _, Eq.trans (World.drewN_drewN _ _ _) (congrArg (World.drewN _) (Nat.add_assoc _ _ _))⟩))); try go_wp2_with (first | ((with_reducible refine gate_dst (N := 4) rfl ?_); refine box_event ?hg (N := 4) ?hd (cs := #[.string (⟨#[]⟩ : ByteArray), .string (⟨#[]⟩ : ByteArray)]) (t := 44) ?hr ?_; (case hd => rfl); (case hg => rfl); (case hr => first | (go_simp; done) | (go_simp; rfl)); intro gb396 hg w25 hbox hb; have n0_ := Aside0.mk (below_step y1_ hb); have n1_ := Aside0.mk (hbox); have n2_ := Aside0.mk ((y11_ : w.heap.size ≤ gb396)); have n3_ := Aside0.mk ((y11_ : w.heap.size ≤ gb396)); clear HB; have HB := n0_; have BK396 := n1_; have GW396 := n2_; have GE396 := n3_; clear n0_ n1_ n2_ n3_; clear hb hbox hg; have hcz26_0 : w25.cell? ⟨gb396, 0, none⟩ = some (.string (⟨#[]⟩ : ByteArray)) := (blk_cell BK396.out 0).trans rfl; have hcz26_1 : w25.cell? ⟨gb396, 1, none⟩ = some (.string (⟨#[]⟩ : ByteArray)) := (blk_cell BK396.out 1).trans rfl; have hfz26_0 := blk_frozen BK396.out 0; have hfz26_1 := blk_frozen BK396.out 1) | (go_at_call 17; (with_reducible refine (manometerref05_Named.calls k1 ((rd_T44 l0 x10_1).f0) false _ A6.out).mono ?_); rintro e w' ⟨rfl, ⟨nd, rfl⟩⟩; (try first | exact ⟨rfl, _, World.drewN_drewN _ _ _⟩ | exact ⟨rfl, _, Eq.trans (World.drewN_drewN _ _ _) (congrArg (World.drewN _) (Nat.add_assoc _ _ _))⟩))))
        go_ret
        exact ⟨y9_, y30_⟩
      ·rw [if_neg c5] at H
       exact absurd H (by simp)
     ·rw [if_neg c4] at H
      exact absurd H (by simp)
    ·rw [if_neg c3] at H
     have c3b0 : decide (x10_1 < (l0.length : Int)) = false := decide_eq_false c3
     clear c3
     obtain rfl := Option.some.inj H
     go_wp2
     repeat (go_quiet (fail); try go_wp2)
     go_ret
     exact ⟨y9_, y1_⟩
def manometerlaw05_LabelsMakes.j0 : Nat → List (S44) → Bool → Option (Bool)
 | 0, _, _ => none
 | k + 1, x0, x14 => if x14 = true then ((manometerlaw05_live.f k).bind fun t402 => (some t402)) else ((manometerlaw05_copied.f x0).bind fun t403 => ((labels_Make.f k t403).bind fun bt406 => ((manometerref05_Make.f k x0).bind fun bt410 => ((manometerref05_Same.f k t403 x0).bind fun t414 => (if t414 = true then ((manometerref05_Same.f k bt406.1 bt410.1).bind fun t415 => (if t415 = true then (if bt406.2 = bt410.2 then ((labels_Right.f k x0).bind fun t416 => ((manometerref05_Right.f k x0).bind fun t417 => (some (t416 == t417)))) else (some false)) else (some false))) else (some false))))))
def manometerlaw05_LabelsMakes.f (k : Nat) (l0 : List (S44)) : Option (Bool) := (manometerlaw05_live.f k).bind fun t400 => (if t400 = true then ((manometerlaw05_few.f k l0).bind fun t401 => (manometerlaw05_LabelsMakes.j0 k l0 (!t401))) else (manometerlaw05_LabelsMakes.j0 k l0 true))
set_option maxHeartbeats 8000000 in
set_option maxRecDepth 100000 in
theorem manometerlaw05_LabelsMakes.calls (k : Nat) (A0 : Option Addr) (c0 : Nat) (l0 : List (S44)) (r : Bool) (w : World) (hT : Aside0 (Tab w)) (hr0 : Kd.C k44 w A0 l0.length l0) (hc0 : l0.length ≤ c0) (h : manometerlaw05_LabelsMakes.f k l0 = some r) :
  Calls Tryd.prog 8 #[.slice A0 l0.length c0] w fun e w' => e = .returned (.bool r) ∧ Below w.heap.size w w' := by
 have HR0 := Aside0.mk hr0
 have HC0 := Aside0.mk hc0
 clear hr0 hc0
 have HB := Aside0.mk (Below.refl w.heap.size w)
 have H : ((manometerlaw05_live.f k).bind fun t400 => (if t400 = true then ((manometerlaw05_few.f k l0).bind fun t401 => (manometerlaw05_LabelsMakes.j0 k l0 (!t401))) else (manometerlaw05_LabelsMakes.j0 k l0 true))) = some r := h
 clear h
 have HC2 := Aside0.mk H
 clear H
 go_enter Tryd.func8, Tryd.ntmps8
 go_upto_region 1 with (fail)
 go_cut [14] (fun v14 wc => ∃ (kq : Nat) (x14_1 : Bool), v14 = .bool x14_1 ∧ Aside0 (manometerlaw05_LabelsMakes.j0 kq l0 x14_1 = some r) ∧ Aside0 (kq ≤ k) ∧ Aside0 (Below w.heap.size w wc))
 case first =>
  have H := HC2.out
  clear HC2
  replace H := Option.bind_eq_some_iff.mp H
  obtain ⟨t400, A30, H⟩ := H
  replace H : (if t400 = true then ((manometerlaw05_few.f k l0).bind fun t401 => (manometerlaw05_LabelsMakes.j0 k l0 (!t401))) else (manometerlaw05_LabelsMakes.j0 k l0 true)) = some r := H
  have A3 := Aside0.mk A30
  clear A30
  by_cases c4 : t400 = true
  ·subst c4
   have H1 : ((manometerlaw05_few.f k l0).bind fun t401 => (manometerlaw05_LabelsMakes.j0 k l0 (!t401))) = some r := by rw [if_pos rfl] at H; exact H
   clear H
   have H := H1
   clear H1
   replace H := Option.bind_eq_some_iff.mp H
   obtain ⟨t401, A50, H⟩ := H
   replace H : (manometerlaw05_LabelsMakes.j0 k l0 (!t401)) = some r := H
   have A5 := Aside0.mk A50
   clear A50
   have H' := Aside0.mk H
   clear H
   go_wp2_with (first | ((with_reducible refine gate_callee (f := 15) rfl ?_); refine goesL_ (some 8) rfl rfl Tryd.func15 (by kernel_rfl) rfl #[] rfl y2_ ?_; (with_reducible refine (manometerlaw05_live.calls k  true _ ?side1 A3.out).mono ?_); (case side1 => exact ⟨Tab_below hT.out y1_⟩); rintro e w6 ⟨rfl, hb⟩; refine ⟨_, rfl, ?_⟩; have n0_ := Aside0.mk (below_step y1_ hb); clear HB; have HB := n0_; clear n0_; (try clear hb); (try clear hb2); (try clear hk); (try clear hi)) | (go_at_call 24; (with_reducible refine (manometerlaw05_few.calls k _ _ l0 t401 _ ?side1 ?side2 A5.out).mono ?_); (case side1 => repeat (first | exact (Kd.C_below HR0.out HB.out) | (with_reducible refine Kd.C_alloc ?_ _) | (with_reducible refine Kd.C_drewN ?_ _) | (with_reducible refine Kd.C_drew ?_))); (case side2 => exact HC0.out); rintro e w7 ⟨rfl, hb⟩; have n0_ := Aside0.mk (below_step y1_ hb); clear HB; have HB := n0_; clear n0_; (try clear hb); (try clear hb2); (try clear hk); (try clear hi)))
   go_meet
   case rel => exact ⟨_, (!t401), y6_, H', ⟨by first | omega | exact Nat.le_refl _⟩, ⟨y1_⟩⟩
  ·replace c4 := Bool.eq_false_iff.mpr c4
   subst c4
   have H1 : (manometerlaw05_LabelsMakes.j0 k l0 true) = some r := by rw [if_neg (show ¬ (false = true) by decide)] at H; exact H
   clear H
   have H := H1
   clear H1
   have H' := Aside0.mk H
   clear H
   go_wp2_with (first | ((with_reducible refine gate_callee (f := 15) rfl ?_); refine goesL_ (some 8) rfl rfl Tryd.func15 (by kernel_rfl) rfl #[] rfl y2_ ?_; (with_reducible refine (manometerlaw05_live.calls k  false _ ?side1 A3.out).mono ?_); (case side1 => exact ⟨Tab_below hT.out y1_⟩); rintro e w8 ⟨rfl, hb⟩; refine ⟨_, rfl, ?_⟩; have n0_ := Aside0.mk (below_step y1_ hb); clear HB; have HB := n0_; clear n0_; (try clear hb); (try clear hb2); (try clear hk); (try clear hi)))
   go_meet
   case rel => exact ⟨_, (true), y6_, H', ⟨by first | omega | exact Nat.le_refl _⟩, ⟨y1_⟩⟩
 case rest =>
  clear HC2
  try clear c1
  try clear p2
  try clear c4
  try clear c8
  obtain ⟨kq, x14_1, rfl, HA, HJ1, HB⟩ := hcut
  cases kq with
  | zero => exact absurd HA.out (by simp [manometerlaw05_LabelsMakes.j0])
  | succ kj1 =>
   have H := HA.out
   clear HA
   simp only [manometerlaw05_LabelsMakes.j0] at H
   by_cases c9 : x14_1 = true
   ·subst c9
    have H1 : ((manometerlaw05_live.f kj1).bind fun t402 => (some t402)) = some r := by rw [if_pos rfl] at H; exact H
    clear H
    have H := H1
    clear H1
    replace H := Option.bind_eq_some_iff.mp H
    obtain ⟨t402, A100, H⟩ := H
    replace H : (some t402) = some r := H
    have A10 := Aside0.mk A100
    clear A100
    obtain rfl := Option.some.inj H
    go_wp2_with (first | ((with_reducible refine gate_callee (f := 15) rfl ?_); refine goesL_ (some 15) rfl rfl Tryd.func15 (by kernel_rfl) rfl #[] rfl y2_ ?_; (with_reducible refine (manometerlaw05_live.calls kj1  t402 _ ?side1 A10.out).mono ?_); (case side1 => exact ⟨Tab_below hT.out y1_⟩); rintro e w11 ⟨rfl, hb⟩; refine ⟨_, rfl, ?_⟩; have n0_ := Aside0.mk (below_step y1_ hb); clear HB; have HB := n0_; clear n0_; (try clear hb); (try clear hb2); (try clear hk); (try clear hi)))
    go_ret
    exact ⟨y9_, y1_⟩
   ·replace c9 := Bool.eq_false_iff.mpr c9
    subst c9
    have H1 : ((manometerlaw05_copied.f l0).bind fun t403 => ((labels_Make.f kj1 t403).bind fun bt406 => ((manometerref05_Make.f kj1 l0).bind fun bt410 => ((manometerref05_Same.f kj1 t403 l0).bind fun t414 => (if t414 = true then ((manometerref05_Same.f kj1 bt406.1 bt410.1).bind fun t415 => (if t415 = true then (if bt406.2 = bt410.2 then ((labels_Right.f kj1 l0).bind fun t416 => ((manometerref05_Right.f kj1 l0).bind fun t417 => (some (t416 == t417)))) else (some false)) else (some false))) else (some false)))))) = some r := by rw [if_neg (show ¬ (false = true) by decide)] at H; exact H
    clear H
    have H := H1
    clear H1
    replace H := Option.bind_eq_some_iff.mp H
    obtain ⟨t403, A120, H⟩ := H
    replace H : ((labels_Make.f kj1 t403).bind fun bt406 => ((manometerref05_Make.f kj1 l0).bind fun bt410 => ((manometerref05_Same.f kj1 t403 l0).bind fun t414 => (if t414 = true then ((manometerref05_Same.f kj1 bt406.1 bt410.1).bind fun t415 => (if t415 = true then (if bt406.2 = bt410.2 then ((labels_Right.f kj1 l0).bind fun t416 => ((manometerref05_Right.f kj1 l0).bind fun t417 => (some (t416 == t417)))) else (some false)) else (some false))) else (some false))))) = some r := H
    have A12 := Aside0.mk A120
    clear A120
    replace H := Option.bind_eq_some_iff.mp H
    obtain ⟨⟨t406, t407⟩, A130, H⟩ := H
    replace H : ((manometerref05_Make.f kj1 l0).bind fun bt410 => ((manometerref05_Same.f kj1 t403 l0).bind fun t414 => (if t414 = true then ((manometerref05_Same.f kj1 t406 bt410.1).bind fun t415 => (if t415 = true then (if t407 = bt410.2 then ((labels_Right.f kj1 l0).bind fun t416 => ((manometerref05_Right.f kj1 l0).bind fun t417 => (some (t416 == t417)))) else (some false)) else (some false))) else (some false)))) = some r := H
    have A13 := Aside0.mk A130
    clear A130
    replace H := Option.bind_eq_some_iff.mp H
    obtain ⟨⟨t410, t411⟩, A140, H⟩ := H
    replace H : ((manometerref05_Same.f kj1 t403 l0).bind fun t414 => (if t414 = true then ((manometerref05_Same.f kj1 t406 t410).bind fun t415 => (if t415 = true then (if t407 = t411 then ((labels_Right.f kj1 l0).bind fun t416 => ((manometerref05_Right.f kj1 l0).bind fun t417 => (some (t416 == t417)))) else (some false)) else (some false))) else (some false))) = some r := H
    have A14 := Aside0.mk A140
    clear A140
    replace H := Option.bind_eq_some_iff.mp H
    obtain ⟨t414, A150, H⟩ := H
    replace H : (if t414 = true then ((manometerref05_Same.f kj1 t406 t410).bind fun t415 => (if t415 = true then (if t407 = t411 then ((labels_Right.f kj1 l0).bind fun t416 => ((manometerref05_Right.f kj1 l0).bind fun t417 => (some (t416 == t417)))) else (some false)) else (some false))) else (some false)) = some r := H
    have A15 := Aside0.mk A150
    clear A150
    by_cases c16 : t414 = true
    ·subst c16
     have H1 : ((manometerref05_Same.f kj1 t406 t410).bind fun t415 => (if t415 = true then (if t407 = t411 then ((labels_Right.f kj1 l0).bind fun t416 => ((manometerref05_Right.f kj1 l0).bind fun t417 => (some (t416 == t417)))) else (some false)) else (some false))) = some r := by rw [if_pos rfl] at H; exact H
     clear H
     have H := H1
     clear H1
     replace H := Option.bind_eq_some_iff.mp H
     obtain ⟨t415, A170, H⟩ := H
     replace H : (if t415 = true then (if t407 = t411 then ((labels_Right.f kj1 l0).bind fun t416 => ((manometerref05_Right.f kj1 l0).bind fun t417 => (some (t416 == t417)))) else (some false)) else (some false)) = some r := H
     have A17 := Aside0.mk A170
     clear A170
     by_cases c18 : t415 = true
     ·subst c18
      have H1 : (if t407 = t411 then ((labels_Right.f kj1 l0).bind fun t416 => ((manometerref05_Right.f kj1 l0).bind fun t417 => (some (t416 == t417)))) else (some false)) = some r := by rw [if_pos rfl] at H; exact H
      clear H
      have H := H1
      clear H1
      by_cases c19 : t407 = t411
      ·rw [if_pos c19] at H
       have c19b0 : (t407 == t411) = true := beq_iff_eq.mpr c19
       have c19b1 : (t407 != t411) = false := bne_eq_false_iff_eq.mpr c19
       clear c19
       replace H := Option.bind_eq_some_iff.mp H
       obtain ⟨t416, A200, H⟩ := H
       replace H : ((manometerref05_Right.f kj1 l0).bind fun t417 => (some (t416 == t417))) = some r := H
       have A20 := Aside0.mk A200
       clear A200
       replace H := Option.bind_eq_some_iff.mp H
       obtain ⟨t417, A210, H⟩ := H
       replace H : (some (t416 == t417)) = some r := H
       have A21 := Aside0.mk A210
       clear A210
       obtain rfl := Option.some.inj H
       go_wp2_with (first | ((with_reducible refine gate_callee (f := 33) rfl ?_); refine goesL_ (some 17) rfl rfl Tryd.func33 (by kernel_rfl) rfl #[.slice A0 l0.length c0] rfl y2_ ?_; (with_reducible refine (manometerlaw05_copied.calls _ _ l0 t403 _ ?side1 ?side2 A12.out).mono ?_); (case side1 => repeat (first | exact (Kd.C_below HR0.out HB.out) | (with_reducible refine Kd.C_alloc ?_ _) | (with_reducible refine Kd.C_drewN ?_ _) | (with_reducible refine Kd.C_drew ?_))); (case side2 => exact HC0.out); rintro e w22 ⟨v404, rfl, ho0, hb⟩; refine ⟨_, rfl, ?_⟩; have n0_ := Aside0.mk (Kd.R_lower ho0 (below_size y1_)); have n1_ := Aside0.mk (below_step y1_ hb); clear HB; have HO405 := n0_; have HB := n1_; clear n0_ n1_; (try clear hb); (try clear hb2); (try clear hk); (try clear hi); (try clear ho0); obtain ⟨Ao23, co23, eo23⟩ := Kd.R_slice HO405.out; subst eo23) | ((with_reducible refine gate_callee (f := 34) rfl ?_); refine goesL_ (some 20) rfl rfl Tryd.func34 (by kernel_rfl) rfl #[.slice Ao23 t403.length co23] rfl y2_ ?_; (with_reducible refine (labels_Make.calls kj1 _ _ t403 t406 t407 _ ?side1 ?side2 ?side3 A13.out).mono ?_); (case side1 => exact ⟨Tab_below hT.out y1_⟩); (case side2 => repeat (first | exact (Kd.R_reads' HO405.out).2.2 | (with_reducible refine Kd.C_alloc ?_ _) | (with_reducible refine Kd.C_drewN ?_ _) | (with_reducible refine Kd.C_drew ?_))); (case side3 => exact (Kd.R_reads' HO405.out).2.1); rintro e w24 ⟨v408, rfl, ho0, hb⟩; refine ⟨_, rfl, ?_⟩; have n0_ := Aside0.mk (Kd.R_elder' y18_ (Kd.R_base ho0) hb); have n1_ := Aside0.mk (Kd.R_lower (Kd.R_new' ho0 (Kd.R_lt y18_)) (below_size y1_)); have n2_ := Aside0.mk (below_step y1_ hb); clear HO405; clear HB; have HO405 := n0_; have HO409 := n1_; have HB := n2_; clear n0_ n1_ n2_; (try clear hb); (try clear hb2); (try clear hk); (try clear hi); (try clear ho0)) | ((with_reducible refine gate_callee (f := 35) rfl ?_); refine goesL_ (some 25) rfl rfl Tryd.func35 (by kernel_rfl) rfl #[.slice A0 l0.length c0] rfl y2_ ?_; (with_reducible refine (manometerref05_Make.calls kj1 _ _ l0 t410 t411 _ ?side1 ?side2 A14.out).mono ?_); (case side1 => repeat (first | exact (Kd.C_below HR0.out HB.out) | (with_reducible refine Kd.C_alloc ?_ _) | (with_reducible refine Kd.C_drewN ?_ _) | (with_reducible refine Kd.C_drew ?_))); (case side2 => exact HC0.out); rintro e w25 ⟨v412, rfl, ho0, hb⟩; refine ⟨_, rfl, ?_⟩; have n0_ := Aside0.mk (Kd.R_elder' y18_ (Kd.R_base ho0) hb); have n1_ := Aside0.mk (Kd.R_elder' y35_ (Kd.R_base ho0) hb); have n2_ := Aside0.mk (Kd.R_lower (Kd.R_new' (Kd.R_new' ho0 (Kd.R_lt y18_)) (Kd.R_lt y35_)) (below_size y1_)); have n3_ := Aside0.mk (below_step y1_ hb); clear HO405; clear HO409; clear HB; have HO405 := n0_; have HO409 := n1_; have HO413 := n2_; have HB := n3_; clear n0_ n1_ n2_ n3_; (try clear hb); (try clear hb2); (try clear hk); (try clear hi); (try clear ho0)) | ((with_reducible refine gate_callee (f := 29) rfl ?_); refine goesL_ (some 30) rfl rfl Tryd.func29 (by kernel_rfl) rfl #[.slice Ao23 t403.length co23, .slice A0 l0.length c0] rfl y2_ ?_; (with_reducible refine (manometerref05_Same.calls kj1 _ _ t403 _ _ l0 true _ ?side1 ?side2 ?side3 ?side4 A15.out).mono ?_); (case side1 => repeat (first | exact (Kd.R_reads' HO405.out).2.2 | (with_reducible refine Kd.C_alloc ?_ _) | (with_reducible refine Kd.C_drewN ?_ _) | (with_reducible refine Kd.C_drew ?_))); (case side2 => exact (Kd.R_reads' HO405.out).2.1); (case side3 => repeat (first | exact (Kd.C_below HR0.out HB.out) | (with_reducible refine Kd.C_alloc ?_ _) | (with_reducible refine Kd.C_drewN ?_ _) | (with_reducible refine Kd.C_drew ?_))); (case side4 => exact HC0.out); rintro e w' ⟨rfl, ⟨nd, rfl⟩⟩; refine ⟨_, rfl, ?_⟩; obtain ⟨Ao26, co26, eo26⟩ := Kd.R_slice HO409.out; subst eo26; obtain ⟨Ao27, co27, eo27⟩ := Kd.R_slice HO413.out; subst eo27) | (go_at_call 29; (with_reducible refine (manometerref05_Same.calls kj1 _ _ t406 _ _ t410 true _ ?side1 ?side2 ?side3 ?side4 A17.out).mono ?_); (case side1 => repeat (first | exact (Kd.R_reads' HO409.out).2.2 | (with_reducible refine Kd.C_alloc ?_ _) | (with_reducible refine Kd.C_drewN ?_ _) | (with_reducible refine Kd.C_drew ?_))); (case side2 => exact (Kd.R_reads' HO409.out).2.1); (case side3 => repeat (first | exact (Kd.R_reads' HO413.out).2.2 | (with_reducible refine Kd.C_alloc ?_ _) | (with_reducible refine Kd.C_drewN ?_ _) | (with_reducible refine Kd.C_drew ?_))); (case side4 => exact (Kd.R_reads' HO413.out).2.1); rintro e w' ⟨rfl, ⟨nd, rfl⟩⟩) | (go_at_call 36; (with_reducible refine (labels_Right.calls kj1 _ _ l0 t416 _ ?side1 ?side2 ?side3 A20.out).mono ?_); (case side1 => exact ⟨Tab_below hT.out y1_⟩); (case side2 => repeat (first | exact (Kd.C_below HR0.out y1_) | (with_reducible refine Kd.C_alloc ?_ _) | (with_reducible refine Kd.C_drewN ?_ _) | (with_reducible refine Kd.C_drew ?_))); (case side3 => exact HC0.out); rintro e w28 ⟨rfl, hb⟩; have n0_ := Aside0.mk (Kd.R_below y18_ hb); have n1_ := Aside0.mk (Kd.R_below y35_ hb); have n2_ := Aside0.mk (Kd.R_below (by (with_reducible repeat (first | apply Kd.R_alloc | apply Kd.R_drewN | apply Kd.R_drew)); exact HO413.out) hb); have n3_ := Aside0.mk (below_step y1_ hb); clear HO405; clear HO409; clear HO413; clear HB; have HO405 := n0_; have HO409 := n1_; have HO413 := n2_; have HB := n3_; clear n0_ n1_ n2_ n3_; (try clear hb); (try clear hb2); (try clear hk); (try clear hi)) | (go_at_call 37; (with_reducible refine (manometerref05_Right.calls kj1 _ _ l0 t417 _ ?side1 ?side2 A21.out).mono ?_); (case side1 => repeat (first | exact (Kd.C_below HR0.out HB.out) | (with_reducible refine Kd.C_alloc ?_ _) | (with_reducible refine Kd.C_drewN ?_ _) | (with_reducible refine Kd.C_drew ?_))); (case side2 => exact HC0.out); rintro e w29 ⟨rfl, hb⟩; have n0_ := Aside0.mk (Kd.R_below y18_ hb); have n1_ := Aside0.mk (Kd.R_below y35_ hb); have n2_ := Aside0.mk (Kd.R_below (by (with_reducible repeat (first | apply Kd.R_alloc | apply Kd.R_drewN | apply Kd.R_drew)); exact HO413.out) hb); have n3_ := Aside0.mk (below_step y1_ hb); clear HO405; clear HO409; clear HO413; clear HB; have HO405 := n0_; have HO409 := n1_; have HO413 := n2_; have HB := n3_; clear n0_ n1_ n2_ n3_; (try clear hb); (try clear hb2); (try clear hk); (try clear hi)))
       go_ret
       exact ⟨y9_, y1_⟩
      ·rw [if_neg c19] at H
       have c19b0 : (t407 == t411) = false := beq_eq_false_iff_ne.mpr c19
       have c19b1 : (t407 != t411) = true := bne_iff_ne.mpr c19
       obtain rfl := Option.some.inj H
       go_wp2_with (first | ((with_reducible refine gate_callee (f := 33) rfl ?_); refine goesL_ (some 17) rfl rfl Tryd.func33 (by kernel_rfl) rfl #[.slice A0 l0.length c0] rfl y2_ ?_; (with_reducible refine (manometerlaw05_copied.calls _ _ l0 t403 _ ?side1 ?side2 A12.out).mono ?_); (case side1 => repeat (first | exact (Kd.C_below HR0.out HB.out) | (with_reducible refine Kd.C_alloc ?_ _) | (with_reducible refine Kd.C_drewN ?_ _) | (with_reducible refine Kd.C_drew ?_))); (case side2 => exact HC0.out); rintro e w30 ⟨v404, rfl, ho0, hb⟩; refine ⟨_, rfl, ?_⟩; have n0_ := Aside0.mk (Kd.R_lower ho0 (below_size y1_)); have n1_ := Aside0.mk (below_step y1_ hb); clear HB; have HO405 := n0_; have HB := n1_; clear n0_ n1_; (try clear hb); (try clear hb2); (try clear hk); (try clear hi); (try clear ho0); obtain ⟨Ao31, co31, eo31⟩ := Kd.R_slice HO405.out; subst eo31) | ((with_reducible refine gate_callee (f := 34) rfl ?_); refine goesL_ (some 20) rfl rfl Tryd.func34 (by kernel_rfl) rfl #[.slice Ao31 t403.length co31] rfl y2_ ?_; (with_reducible refine (labels_Make.calls kj1 _ _ t403 t406 t407 _ ?side1 ?side2 ?side3 A13.out).mono ?_); (case side1 => exact ⟨Tab_below hT.out y1_⟩); (case side2 => repeat (first | exact (Kd.R_reads' HO405.out).2.2 | (with_reducible refine Kd.C_alloc ?_ _) | (with_reducible refine Kd.C_drewN ?_ _) | (with_reducible refine Kd.C_drew ?_))); (case side3 => exact (Kd.R_reads' HO405.out).2.1); rintro e w32 ⟨v408, rfl, ho0, hb⟩; refine ⟨_, rfl, ?_⟩; have n0_ := Aside0.mk (Kd.R_elder' y18_ (Kd.R_base ho0) hb); have n1_ := Aside0.mk (Kd.R_lower (Kd.R_new' ho0 (Kd.R_lt y18_)) (below_size y1_)); have n2_ := Aside0.mk (below_step y1_ hb); clear HO405; clear HB; have HO405 := n0_; have HO409 := n1_; have HB := n2_; clear n0_ n1_ n2_; (try clear hb); (try clear hb2); (try clear hk); (try clear hi); (try clear ho0)) | ((with_reducible refine gate_callee (f := 35) rfl ?_); refine goesL_ (some 25) rfl rfl Tryd.func35 (by kernel_rfl) rfl #[.slice A0 l0.length c0] rfl y2_ ?_; (with_reducible refine (manometerref05_Make.calls kj1 _ _ l0 t410 t411 _ ?side1 ?side2 A14.out).mono ?_); (case side1 => repeat (first | exact (Kd.C_below HR0.out HB.out) | (with_reducible refine Kd.C_alloc ?_ _) | (with_reducible refine Kd.C_drewN ?_ _) | (with_reducible refine Kd.C_drew ?_))); (case side2 => exact HC0.out); rintro e w33 ⟨v412, rfl, ho0, hb⟩; refine ⟨_, rfl, ?_⟩; have n0_ := Aside0.mk (Kd.R_elder' y18_ (Kd.R_base ho0) hb); have n1_ := Aside0.mk (Kd.R_elder' y35_ (Kd.R_base ho0) hb); have n2_ := Aside0.mk (Kd.R_lower (Kd.R_new' (Kd.R_new' ho0 (Kd.R_lt y18_)) (Kd.R_lt y35_)) (below_size y1_)); have n3_ := Aside0.mk (below_step y1_ hb); clear HO405; clear HO409; clear HB; have HO405 := n0_; have HO409 := n1_; have HO413 := n2_; have HB := n3_; clear n0_ n1_ n2_ n3_; (try clear hb); (try clear hb2); (try clear hk); (try clear hi); (try clear ho0)) | ((with_reducible refine gate_callee (f := 29) rfl ?_); refine goesL_ (some 30) rfl rfl Tryd.func29 (by kernel_rfl) rfl #[.slice Ao31 t403.length co31, .slice A0 l0.length c0] rfl y2_ ?_; (with_reducible refine (manometerref05_Same.calls kj1 _ _ t403 _ _ l0 true _ ?side1 ?side2 ?side3 ?side4 A15.out).mono ?_); (case side1 => repeat (first | exact (Kd.R_reads' HO405.out).2.2 | (with_reducible refine Kd.C_alloc ?_ _) | (with_reducible refine Kd.C_drewN ?_ _) | (with_reducible refine Kd.C_drew ?_))); (case side2 => exact (Kd.R_reads' HO405.out).2.1); (case side3 => repeat (first | exact (Kd.C_below HR0.out HB.out) | (with_reducible refine Kd.C_alloc ?_ _) | (with_reducible refine Kd.C_drewN ?_ _) | (with_reducible refine Kd.C_drew ?_))); (case side4 => exact HC0.out); rintro e w' ⟨rfl, ⟨nd, rfl⟩⟩; refine ⟨_, rfl, ?_⟩; obtain ⟨Ao34, co34, eo34⟩ := Kd.R_slice HO409.out; subst eo34; obtain ⟨Ao35, co35, eo35⟩ := Kd.R_slice HO413.out; subst eo35) | (go_at_call 29; (with_reducible refine (manometerref05_Same.calls kj1 _ _ t406 _ _ t410 true _ ?side1 ?side2 ?side3 ?side4 A17.out).mono ?_); (case side1 => repeat (first | exact (Kd.R_reads' HO409.out).2.2 | (with_reducible refine Kd.C_alloc ?_ _) | (with_reducible refine Kd.C_drewN ?_ _) | (with_reducible refine Kd.C_drew ?_))); (case side2 => exact (Kd.R_reads' HO409.out).2.1); (case side3 => repeat (first | exact (Kd.R_reads' HO413.out).2.2 | (with_reducible refine Kd.C_alloc ?_ _) | (with_reducible refine Kd.C_drewN ?_ _) | (with_reducible refine Kd.C_drew ?_))); (case side4 => exact (Kd.R_reads' HO413.out).2.1); rintro e w' ⟨rfl, ⟨nd, rfl⟩⟩))
       go_ret
       exact ⟨y9_, y1_⟩
     ·replace c18 := Bool.eq_false_iff.mpr c18
      subst c18
      have H1 : (some false) = some r := by rw [if_neg (show ¬ (false = true) by decide)] at H; exact H
      clear H
      have H := H1
      clear H1
      obtain rfl := Option.some.inj H
      go_wp2_with (first | ((with_reducible refine gate_callee (f := 33) rfl ?_); refine goesL_ (some 17) rfl rfl Tryd.func33 (by kernel_rfl) rfl #[.slice A0 l0.length c0] rfl y2_ ?_; (with_reducible refine (manometerlaw05_copied.calls _ _ l0 t403 _ ?side1 ?side2 A12.out).mono ?_); (case side1 => repeat (first | exact (Kd.C_below HR0.out HB.out) | (with_reducible refine Kd.C_alloc ?_ _) | (with_reducible refine Kd.C_drewN ?_ _) | (with_reducible refine Kd.C_drew ?_))); (case side2 => exact HC0.out); rintro e w36 ⟨v404, rfl, ho0, hb⟩; refine ⟨_, rfl, ?_⟩; have n0_ := Aside0.mk (Kd.R_lower ho0 (below_size y1_)); have n1_ := Aside0.mk (below_step y1_ hb); clear HB; have HO405 := n0_; have HB := n1_; clear n0_ n1_; (try clear hb); (try clear hb2); (try clear hk); (try clear hi); (try clear ho0); obtain ⟨Ao37, co37, eo37⟩ := Kd.R_slice HO405.out; subst eo37) | ((with_reducible refine gate_callee (f := 34) rfl ?_); refine goesL_ (some 20) rfl rfl Tryd.func34 (by kernel_rfl) rfl #[.slice Ao37 t403.length co37] rfl y2_ ?_; (with_reducible refine (labels_Make.calls kj1 _ _ t403 t406 t407 _ ?side1 ?side2 ?side3 A13.out).mono ?_); (case side1 => exact ⟨Tab_below hT.out y1_⟩); (case side2 => repeat (first | exact (Kd.R_reads' HO405.out).2.2 | (with_reducible refine Kd.C_alloc ?_ _) | (with_reducible refine Kd.C_drewN ?_ _) | (with_reducible refine Kd.C_drew ?_))); (case side3 => exact (Kd.R_reads' HO405.out).2.1); rintro e w38 ⟨v408, rfl, ho0, hb⟩; refine ⟨_, rfl, ?_⟩; have n0_ := Aside0.mk (Kd.R_elder' y18_ (Kd.R_base ho0) hb); have n1_ := Aside0.mk (Kd.R_lower (Kd.R_new' ho0 (Kd.R_lt y18_)) (below_size y1_)); have n2_ := Aside0.mk (below_step y1_ hb); clear HO405; clear HB; have HO405 := n0_; have HO409 := n1_; have HB := n2_; clear n0_ n1_ n2_; (try clear hb); (try clear hb2); (try clear hk); (try clear hi); (try clear ho0)) | ((with_reducible refine gate_callee (f := 35) rfl ?_); refine goesL_ (some 25) rfl rfl Tryd.func35 (by kernel_rfl) rfl #[.slice A0 l0.length c0] rfl y2_ ?_; (with_reducible refine (manometerref05_Make.calls kj1 _ _ l0 t410 t411 _ ?side1 ?side2 A14.out).mono ?_); (case side1 => repeat (first | exact (Kd.C_below HR0.out HB.out) | (with_reducible refine Kd.C_alloc ?_ _) | (with_reducible refine Kd.C_drewN ?_ _) | (with_reducible refine Kd.C_drew ?_))); (case side2 => exact HC0.out); rintro e w39 ⟨v412, rfl, ho0, hb⟩; refine ⟨_, rfl, ?_⟩; have n0_ := Aside0.mk (Kd.R_elder' y18_ (Kd.R_base ho0) hb); have n1_ := Aside0.mk (Kd.R_elder' y35_ (Kd.R_base ho0) hb); have n2_ := Aside0.mk (Kd.R_lower (Kd.R_new' (Kd.R_new' ho0 (Kd.R_lt y18_)) (Kd.R_lt y35_)) (below_size y1_)); have n3_ := Aside0.mk (below_step y1_ hb); clear HO405; clear HO409; clear HB; have HO405 := n0_; have HO409 := n1_; have HO413 := n2_; have HB := n3_; clear n0_ n1_ n2_ n3_; (try clear hb); (try clear hb2); (try clear hk); (try clear hi); (try clear ho0)) | ((with_reducible refine gate_callee (f := 29) rfl ?_); refine goesL_ (some 30) rfl rfl Tryd.func29 (by kernel_rfl) rfl #[.slice Ao37 t403.length co37, .slice A0 l0.length c0] rfl y2_ ?_; (with_reducible refine (manometerref05_Same.calls kj1 _ _ t403 _ _ l0 true _ ?side1 ?side2 ?side3 ?side4 A15.out).mono ?_); (case side1 => repeat (first | exact (Kd.R_reads' HO405.out).2.2 | (with_reducible refine Kd.C_alloc ?_ _) | (with_reducible refine Kd.C_drewN ?_ _) | (with_reducible refine Kd.C_drew ?_))); (case side2 => exact (Kd.R_reads' HO405.out).2.1); (case side3 => repeat (first | exact (Kd.C_below HR0.out HB.out) | (with_reducible refine Kd.C_alloc ?_ _) | (with_reducible refine Kd.C_drewN ?_ _) | (with_reducible refine Kd.C_drew ?_))); (case side4 => exact HC0.out); rintro e w' ⟨rfl, ⟨nd, rfl⟩⟩; refine ⟨_, rfl, ?_⟩; obtain ⟨Ao40, co40, eo40⟩ := Kd.R_slice HO409.out; subst eo40; obtain ⟨Ao41, co41, eo41⟩ := Kd.R_slice HO413.out; subst eo41) | (go_at_call 29; (with_reducible refine (manometerref05_Same.calls kj1 _ _ t406 _ _ t410 false _ ?side1 ?side2 ?side3 ?side4 A17.out).mono ?_); (case side1 => repeat (first | exact (Kd.R_reads' HO409.out).2.2 | (with_reducible refine Kd.C_alloc ?_ _) | (with_reducible refine Kd.C_drewN ?_ _) | (with_reducible refine Kd.C_drew ?_))); (case side2 => exact (Kd.R_reads' HO409.out).2.1); (case side3 => repeat (first | exact (Kd.R_reads' HO413.out).2.2 | (with_reducible refine Kd.C_alloc ?_ _) | (with_reducible refine Kd.C_drewN ?_ _) | (with_reducible refine Kd.C_drew ?_))); (case side4 => exact (Kd.R_reads' HO413.out).2.1); rintro e w' ⟨rfl, ⟨nd, rfl⟩⟩))
      go_ret
      exact ⟨y9_, y1_⟩
    ·replace c16 := Bool.eq_false_iff.mpr c16
     subst c16
     have H1 : (some false) = some r := by rw [if_neg (show ¬ (false = true) by decide)] at H; exact H
     clear H
     have H := H1
     clear H1
     obtain rfl := Option.some.inj H
     go_wp2_with (first | ((with_reducible refine gate_callee (f := 33) rfl ?_); refine goesL_ (some 17) rfl rfl Tryd.func33 (by kernel_rfl) rfl #[.slice A0 l0.length c0] rfl y2_ ?_; (with_reducible refine (manometerlaw05_copied.calls _ _ l0 t403 _ ?side1 ?side2 A12.out).mono ?_); (case side1 => repeat (first | exact (Kd.C_below HR0.out HB.out) | (with_reducible refine Kd.C_alloc ?_ _) | (with_reducible refine Kd.C_drewN ?_ _) | (with_reducible refine Kd.C_drew ?_))); (case side2 => exact HC0.out); rintro e w42 ⟨v404, rfl, ho0, hb⟩; refine ⟨_, rfl, ?_⟩; have n0_ := Aside0.mk (Kd.R_lower ho0 (below_size y1_)); have n1_ := Aside0.mk (below_step y1_ hb); clear HB; have HO405 := n0_; have HB := n1_; clear n0_ n1_; (try clear hb); (try clear hb2); (try clear hk); (try clear hi); (try clear ho0); obtain ⟨Ao43, co43, eo43⟩ := Kd.R_slice HO405.out; subst eo43) | ((with_reducible refine gate_callee (f := 34) rfl ?_); refine goesL_ (some 20) rfl rfl Tryd.func34 (by kernel_rfl) rfl #[.slice Ao43 t403.length co43] rfl y2_ ?_; (with_reducible refine (labels_Make.calls kj1 _ _ t403 t406 t407 _ ?side1 ?side2 ?side3 A13.out).mono ?_); (case side1 => exact ⟨Tab_below hT.out y1_⟩); (case side2 => repeat (first | exact (Kd.R_reads' HO405.out).2.2 | (with_reducible refine Kd.C_alloc ?_ _) | (with_reducible refine Kd.C_drewN ?_ _) | (with_reducible refine Kd.C_drew ?_))); (case side3 => exact (Kd.R_reads' HO405.out).2.1); rintro e w44 ⟨v408, rfl, ho0, hb⟩; refine ⟨_, rfl, ?_⟩; have n0_ := Aside0.mk (Kd.R_elder' y18_ (Kd.R_base ho0) hb); have n1_ := Aside0.mk (Kd.R_lower (Kd.R_new' ho0 (Kd.R_lt y18_)) (below_size y1_)); have n2_ := Aside0.mk (below_step y1_ hb); clear HO405; clear HB; have HO405 := n0_; have HO409 := n1_; have HB := n2_; clear n0_ n1_ n2_; (try clear hb); (try clear hb2); (try clear hk); (try clear hi); (try clear ho0)) | ((with_reducible refine gate_callee (f := 35) rfl ?_); refine goesL_ (some 25) rfl rfl Tryd.func35 (by kernel_rfl) rfl #[.slice A0 l0.length c0] rfl y2_ ?_; (with_reducible refine (manometerref05_Make.calls kj1 _ _ l0 t410 t411 _ ?side1 ?side2 A14.out).mono ?_); (case side1 => repeat (first | exact (Kd.C_below HR0.out HB.out) | (with_reducible refine Kd.C_alloc ?_ _) | (with_reducible refine Kd.C_drewN ?_ _) | (with_reducible refine Kd.C_drew ?_))); (case side2 => exact HC0.out); rintro e w45 ⟨v412, rfl, ho0, hb⟩; refine ⟨_, rfl, ?_⟩; have n0_ := Aside0.mk (Kd.R_elder' y18_ (Kd.R_base ho0) hb); have n1_ := Aside0.mk (Kd.R_elder' y35_ (Kd.R_base ho0) hb); have n2_ := Aside0.mk (Kd.R_lower (Kd.R_new' (Kd.R_new' ho0 (Kd.R_lt y18_)) (Kd.R_lt y35_)) (below_size y1_)); have n3_ := Aside0.mk (below_step y1_ hb); clear HO405; clear HO409; clear HB; have HO405 := n0_; have HO409 := n1_; have HO413 := n2_; have HB := n3_; clear n0_ n1_ n2_ n3_; (try clear hb); (try clear hb2); (try clear hk); (try clear hi); (try clear ho0)) | ((with_reducible refine gate_callee (f := 29) rfl ?_); refine goesL_ (some 30) rfl rfl Tryd.func29 (by kernel_rfl) rfl #[.slice Ao43 t403.length co43, .slice A0 l0.length c0] rfl y2_ ?_; (with_reducible refine (manometerref05_Same.calls kj1 _ _ t403 _ _ l0 false _ ?side1 ?side2 ?side3 ?side4 A15.out).mono ?_); (case side1 => repeat (first | exact (Kd.R_reads' HO405.out).2.2 | (with_reducible refine Kd.C_alloc ?_ _) | (with_reducible refine Kd.C_drewN ?_ _) | (with_reducible refine Kd.C_drew ?_))); (case side2 => exact (Kd.R_reads' HO405.out).2.1); (case side3 => repeat (first | exact (Kd.C_below HR0.out HB.out) | (with_reducible refine Kd.C_alloc ?_ _) | (with_reducible refine Kd.C_drewN ?_ _) | (with_reducible refine Kd.C_drew ?_))); (case side4 => exact HC0.out); rintro e w' ⟨rfl, ⟨nd, rfl⟩⟩; refine ⟨_, rfl, ?_⟩))
     go_ret
     exact ⟨y9_, y1_⟩
end Go.Proofs.YtdhmabofncbohaaDoor.PLB
