import Derived.Test.YtdhmabofncbohaaDoorCLabelsHashesH17
import Derived.Test.YtdhmabofncbohaaDoorCLabelsHashesPLCx3
import Derived.Test.YtdhmabofncbohaaDoorCLabelsHashesPLCx5
import Derived.Test.YtdhmabofncbohaaDoorCLabelsHashesPLCx6
import Derived.Test.YtdhmabofncbohaaDoorCLabelsHashesPLCx7
import Derived.Test.YtdhmabofncbohaaDoorCLabelsHashesPLCx8
import Derived.Test.YtdhmabofncbohaaDoorCLabelsHashesPLCx13
import Derived.Test.YtdhmabofncbohaaDoorCLabelsHashesPLCx14
import Derived.Test.YtdhmabofncbohaaDoorCLabelsHashesH19
import Derived.Test.YtdhmabofncbohaaDoorCLabelsHashesPLCx1
namespace Go.Proofs.YtdhmabofncbohaaDoor.PLC
open Go.RowKit Go.Proofs.YtdhmabofncbohaaDoorW.PrintWords Go.Proofs.YtdhmabofncbohaaDoorW.PrintLast Go.Proofs.YtdhmabofncbohaaDoorW.PrintMore
attribute [local go_sem] max2_int min2_int max_two min_two max_three min_three max_four min_four
set_option linter.unusedVariables false
set_option linter.unusedSimpArgs false
mutual
def manometerref05_Right.l0 : Nat → List (S44) → List (S44) → Int → Int → Option (Int)
 | 0, _, _, _, _ => none
 | k + 1, x0, x8, x9, x10 => if x10 < x9 then (if 0 ≤ x10 then (if x10 < (x8.length : Int) then ((manometerref05_Named.f k ((rd_T44 x8 x10).f0)).bind fun t397 => (if t397 = true then ((manometerref05_Valued.f k ((rd_T44 x8 x10).f1)).bind fun t398 => (if t398 = true then (manometerref05_Right.j1 k x0 x10 x8 x9 x10 (((rd_T44 x8 x10).f1).toList == ([] : List UInt8)) ((rd_T44 x8 x10).f0) ((rd_T44 x8 x10).f1)) else (manometerref05_Right.j1 k x0 x10 x8 x9 x10 true ((rd_T44 x8 x10).f0) ((rd_T44 x8 x10).f1)))) else (some 50))) else (none)) else (none)) else (some 0)
def manometerref05_Right.j1 : Nat → List (S44) → Int → List (S44) → Int → Int → Bool → ByteArray → ByteArray → Option (Int)
 | 0, _, _, _, _, _, _, _, _ => none
 | k + 1, x0, x3, x8, x9, x10, x20, x397000, x397001 => if x20 = true then (some 51) else (if x3 > 0 then (if 0 ≤ (wrap64 (x3 - 1)) then (if (wrap64 (x3 - 1)) < (x0.length : Int) then (if (Op.bytesLess x397000.toList (((rd_T44 x0 (wrap64 (x3 - 1))).f0).toList)) = true then (some 53) else (if x397000.toList = ((rd_T44 x0 (wrap64 (x3 - 1))).f0).toList then (some 53) else (manometerref05_Right.l0 k x0 x8 x9 (wrap64 (x10 + 1))))) else (none)) else (none)) else (manometerref05_Right.l0 k x0 x8 x9 (wrap64 (x10 + 1))))
end
def manometerref05_Right.f (k : Nat) (l0 : List (S44)) : Option (Int) := if (l0.length : Int) > 16 then (some 3) else (manometerref05_Right.l0 k l0 l0 (l0.length : Int) 0)
set_option maxHeartbeats 8000000 in
set_option maxRecDepth 100000 in
theorem manometerref05_Right.calls (k : Nat) (A0 : Option Addr) (c0 : Nat) (l0 : List (S44)) (r : Int) (w : World) (hr0 : Kd.C k44 w A0 l0.length l0) (hc0 : l0.length ≤ c0) (h : manometerref05_Right.f k l0 = some r) :
  Calls Tryd.prog 37 #[.slice A0 l0.length c0] w fun e w' => e = .returned (.int .i64 r) ∧ Below w.heap.size w w' := by
 have hu44 := Tryd.underlying44
 have HR0 := Aside0.mk hr0
 have HC0 := Aside0.mk hc0
 clear hr0 hc0
 have HB := Aside0.mk (Below.refl w.heap.size w)
 have H : (if (l0.length : Int) > 16 then (some 3) else (manometerref05_Right.l0 k l0 l0 (l0.length : Int) 0)) = some r := h
 clear h
 by_cases c2 : (l0.length : Int) > 16
 ·rw [if_pos c2] at H
  have c2b0 : decide (16 < (l0.length : Int)) = true := decide_eq_true c2
  have c2b1 : decide (16 < l0.length) = true := decide_eq_true (by omega)
  clear c2
  obtain rfl := Option.some.inj H
  go_enter Tryd.func37, Tryd.ntmps37
  go_wp2
  repeat (go_quiet (fail); try go_wp2)
  go_ret
  exact ⟨y8_, y1_⟩
 ·rw [if_neg c2] at H
  have c2b0 : decide (16 < (l0.length : Int)) = false := decide_eq_false c2
  have c2b1 : decide (16 < l0.length) = false := decide_eq_false (by omega)
  clear c2
  have H' := Aside0.mk H
  clear H
  go_enter Tryd.func37, Tryd.ntmps37
  go_wp2
  repeat (go_quiet (fail); try go_wp2)
  go_loopg [10] k (fun kq v10 w' => ∃ (x10_1 : Int), v10 = .int .i64 x10_1 ∧ Aside0 (manometerref05_Right.l0 kq l0 l0 (l0.length : Int) x10_1 = some r) ∧ Aside0 (kq ≤ k) ∧ Aside0 (Below w.heap.size w w'))
  case atStart => exact ⟨(0), y5_, H', ⟨Nat.le_refl _⟩, ⟨y1_⟩⟩
  case round =>
   clear H'
   try clear c2
   try clear c2b0
   try clear c2b1
   try clear p2
   obtain ⟨x10_1, rfl, HA, HK1, HB⟩ := hrel
   cases gk with
   | zero => exact absurd HA.out (by simp [manometerref05_Right.l0])
   | succ k1 =>
    have H := HA.out
    clear HA
    simp only [manometerref05_Right.l0] at H
    by_cases c3 : x10_1 < (l0.length : Int)
    ·rw [if_pos c3] at H
     have c3b0 : decide (x10_1 < (l0.length : Int)) = true := decide_eq_true c3
     clear c3
     by_cases c4 : 0 ≤ x10_1
     ·rw [if_pos c4] at H
      have c4b0 : decide (0 ≤ x10_1) = true := decide_eq_true c4
      clear c4
      by_cases c5 : x10_1 < (l0.length : Int)
      ·rw [if_pos c5] at H
       have c5b0 : decide (x10_1 < (l0.length : Int)) = true := decide_eq_true c5
       clear c5
       replace H := Option.bind_eq_some_iff.mp H
       obtain ⟨t397, A60, H⟩ := H
       replace H : (if t397 = true then ((manometerref05_Valued.f k1 ((rd_T44 l0 x10_1).f1)).bind fun t398 => (if t398 = true then (manometerref05_Right.j1 k1 l0 x10_1 l0 (l0.length : Int) x10_1 (((rd_T44 l0 x10_1).f1).toList == ([] : List UInt8)) ((rd_T44 l0 x10_1).f0) ((rd_T44 l0 x10_1).f1)) else (manometerref05_Right.j1 k1 l0 x10_1 l0 (l0.length : Int) x10_1 true ((rd_T44 l0 x10_1).f0) ((rd_T44 l0 x10_1).f1)))) else (some 50)) = some r := H
       have A6 := Aside0.mk A60
       clear A60
       by_cases c7 : t397 = true
       ·subst c7
        have H1 : ((manometerref05_Valued.f k1 ((rd_T44 l0 x10_1).f1)).bind fun t398 => (if t398 = true then (manometerref05_Right.j1 k1 l0 x10_1 l0 (l0.length : Int) x10_1 (((rd_T44 l0 x10_1).f1).toList == ([] : List UInt8)) ((rd_T44 l0 x10_1).f0) ((rd_T44 l0 x10_1).f1)) else (manometerref05_Right.j1 k1 l0 x10_1 l0 (l0.length : Int) x10_1 true ((rd_T44 l0 x10_1).f0) ((rd_T44 l0 x10_1).f1)))) = some r := by rw [if_pos rfl] at H; exact H
        clear H
        have H := H1
        clear H1
        have HC8 := Aside0.mk H
        clear H
        have p395 : 0 ≤ (x10_1 : Int) := of_decide_eq_true y3_
        have q395 : x10_1 < (l0.length : Int) := of_decide_eq_true y3_
        obtain ⟨ad395, e395, hx395_0, hx395_1⟩ := at_T44 HR0.out x10_1 p395 q395
        cases e395
        replace hx395_0 := (HB.out.cell (World.block_lt_of_cell? w _ hx395_0)).trans hx395_0
        replace hx395_1 := (HB.out.cell (World.block_lt_of_cell? w _ hx395_1)).trans hx395_1
        replace p395 := eq_true p395
        replace q395 := eq_true q395
        go_upto_region 8 with (first | ((with_reducible refine gate_dst (N := 4) rfl ?_); refine box_event ?hg (N := 4) ?hd (cs := #[.string (⟨#[]⟩ : ByteArray), .string (⟨#[]⟩ : ByteArray)]) (t := 44) ?hr ?_; (case hd => rfl); (case hg => rfl); (case hr => first | (go_simp; done) | (go_simp; rfl)); intro gb396 hg w9 hbox hb; have n0_ := Aside0.mk (below_step y1_ hb); have n1_ := Aside0.mk (hbox); have n2_ := Aside0.mk ((y12_ : w.heap.size ≤ gb396)); have n3_ := Aside0.mk ((y12_ : w.heap.size ≤ gb396)); clear HB; have HB := n0_; have BK396 := n1_; have GW396 := n2_; have GE396 := n3_; clear n0_ n1_ n2_ n3_; clear hb hbox hg; have hcz10_0 : w9.cell? ⟨gb396, 0, none⟩ = some (.string (⟨#[]⟩ : ByteArray)) := (blk_cell BK396.out 0).trans rfl; have hcz10_1 : w9.cell? ⟨gb396, 1, none⟩ = some (.string (⟨#[]⟩ : ByteArray)) := (blk_cell BK396.out 1).trans rfl; have hfz10_0 := blk_frozen BK396.out 0; have hfz10_1 := blk_frozen BK396.out 1) | (go_at_call 17; (with_reducible refine (manometerref05_Named.calls k1 ((rd_T44 l0 x10_1).f0) true _ A6.out).mono ?_); rintro e w' ⟨rfl, ⟨nd, rfl⟩⟩; (try first | exact ⟨rfl, _, World.drewN_drewN _ _ _⟩ | exact ⟨rfl, _, Eq.trans (World.drewN_drewN _ _ _) (congrArg (World.drewN _) (Nat.add_assoc _ _ _))⟩)))
        repeat (go_quiet (first | ((with_reducible refine gate_dst (N := 4) rfl ?_); refine box_event ?hg (N := 4) ?hd (cs := #[.string (⟨#[]⟩ : ByteArray), .string (⟨#[]⟩ : ByteArray)]) (t := 44) ?hr ?_; (case hd => rfl); (case hg => rfl); (case hr => first | (go_simp; done) | (go_simp; rfl)); intro gb396 hg w9 hbox hb; have n0_ := Aside0.mk (below_step y1_ hb); have n1_ := Aside0.mk (hbox); have n2_ := Aside0.mk ((y12_ : w.heap.size ≤ gb396)); have n3_ := Aside0.mk ((y12_ : w.heap.size ≤ gb396)); clear HB; have HB := n0_; have BK396 := n1_; have GW396 := n2_; have GE396 := n3_; clear n0_ n1_ n2_ n3_; clear hb hbox hg; have hcz10_0 : w9.cell? ⟨gb396, 0, none⟩ = some (.string (⟨#[]⟩ : ByteArray)) := (blk_cell BK396.out 0).trans rfl; have hcz10_1 : w9.cell? ⟨gb396, 1, none⟩ = some (.string (⟨#[]⟩ : ByteArray)) := (blk_cell BK396.out 1).trans rfl; have hfz10_0 := blk_frozen BK396.out 0; have hfz10_1 := blk_frozen BK396.out 1) | (go_at_call 17; (with_reducible refine (manometerref05_Named.calls k1 ((rd_T44 l0 x10_1).f0) true _ A6.out).mono ?_); rintro e w' ⟨rfl, ⟨nd, rfl⟩⟩; (try first | exact ⟨rfl, _, World.drewN_drewN _ _ _⟩ | exact ⟨rfl, _, Eq.trans (World.drewN_drewN _ _ _) (congrArg (World.drewN _) (Nat.add_assoc _ _ _))⟩))); go_upto_region 8 with (first | ((with_reducible refine gate_dst (N := 4) rfl ?_); refine box_event ?hg (N := 4) ?hd (cs := #[.string (⟨#[]⟩ : ByteArray), .string (⟨#[]⟩ : ByteArray)]) (t := 44) ?hr ?_; (case hd => rfl); (case hg => rfl); (case hr => first | (go_simp; done) | (go_simp; rfl)); intro gb396 hg w9 hbox hb; have n0_ := Aside0.mk (below_step y1_ hb); have n1_ := Aside0.mk (hbox); have n2_ := Aside0.mk ((y12_ : w.heap.size ≤ gb396)); have n3_ := Aside0.mk ((y12_ : w.heap.size ≤ gb396)); clear HB; have HB := n0_; have BK396 := n1_; have GW396 := n2_; have GE396 := n3_; clear n0_ n1_ n2_ n3_; clear hb hbox hg; have hcz10_0 : w9.cell? ⟨gb396, 0, none⟩ = some (.string (⟨#[]⟩ : ByteArray)) := (blk_cell BK396.out 0).trans rfl; have hcz10_1 : w9.cell? ⟨gb396, 1, none⟩ = some (.string (⟨#[]⟩ : ByteArray)) := (blk_cell BK396.out 1).trans rfl; have hfz10_0 := blk_frozen BK396.out 0; have hfz10_1 := blk_frozen BK396.out 1) | (go_at_call 17; (with_reducible refine (manometerref05_Named.calls k1 ((rd_T44 l0 x10_1).f0) true _ A6.out).mono ?_); rintro e w' ⟨rfl, ⟨nd, rfl⟩⟩; (try first | exact ⟨rfl, _, World.drewN_drewN _ _ _⟩ | exact ⟨rfl, _, Eq.trans (World.drewN_drewN _ _ _) (congrArg (World.drewN _) (Nat.add_assoc _ _ _))⟩))))
        (try simp only [Act.put, List.setIfInBounds_toArray, List.set_cons_zero, List.set_cons_succ])
        go_cut [20] (fun v20 wc => ∃ (kq : Nat) (x20_7 : Bool), v20 = .bool x20_7 ∧ Aside0 (manometerref05_Right.j1 kq l0 x10_1 l0 (l0.length : Int) x10_1 x20_7 ((rd_T44 l0 x10_1).f0) ((rd_T44 l0 x10_1).f1) = some r) ∧ Aside0 (kq ≤ k1) ∧ Aside0 (wc.heap[gb396]? = some (.cells #[.string ((rd_T44 l0 x10_1).f0), .string ((rd_T44 l0 x10_1).f1)] 44 (0, 0))) ∧ Aside0 (Below w.heap.size w wc))
        case first =>
         have H := HC8.out
         clear HC8
         replace H := Option.bind_eq_some_iff.mp H
         obtain ⟨t398, A110, H⟩ := H
         replace H : (if t398 = true then (manometerref05_Right.j1 k1 l0 x10_1 l0 (l0.length : Int) x10_1 (((rd_T44 l0 x10_1).f1).toList == ([] : List UInt8)) ((rd_T44 l0 x10_1).f0) ((rd_T44 l0 x10_1).f1)) else (manometerref05_Right.j1 k1 l0 x10_1 l0 (l0.length : Int) x10_1 true ((rd_T44 l0 x10_1).f0) ((rd_T44 l0 x10_1).f1))) = some r := H
         have A11 := Aside0.mk A110
         clear A110
         by_cases c12 : t398 = true
         ·subst c12
          have H1 : (manometerref05_Right.j1 k1 l0 x10_1 l0 (l0.length : Int) x10_1 (((rd_T44 l0 x10_1).f1).toList == ([] : List UInt8)) ((rd_T44 l0 x10_1).f0) ((rd_T44 l0 x10_1).f1)) = some r := by rw [if_pos rfl] at H; exact H
          clear H
          have H := H1
          clear H1
          have H' := Aside0.mk H
          clear H
          have hcz13_0 : w9.cell? ⟨gb396, 0, none⟩ = some (.string (⟨#[]⟩ : ByteArray)) := (blk_cell BK396.out 0).trans rfl
          have hcz13_1 : w9.cell? ⟨gb396, 1, none⟩ = some (.string (⟨#[]⟩ : ByteArray)) := (blk_cell BK396.out 1).trans rfl
          have hfz13_0 := blk_frozen BK396.out 0
          have hfz13_1 := blk_frozen BK396.out 1
          go_wp2_with (first | (go_at_call 19; (with_reducible refine (manometerref05_Valued.calls k1 ((rd_T44 l0 x10_1).f1) true _ A11.out).mono ?_); rintro e w' ⟨rfl, ⟨nd, rfl⟩⟩; (try first | exact ⟨rfl, _, World.drewN_drewN _ _ _⟩ | exact ⟨rfl, _, Eq.trans (World.drewN_drewN _ _ _) (congrArg (World.drewN _) (Nat.add_assoc _ _ _))⟩)))
          repeat (go_quiet (first | (go_at_call 19; (with_reducible refine (manometerref05_Valued.calls k1 ((rd_T44 l0 x10_1).f1) true _ A11.out).mono ?_); rintro e w' ⟨rfl, ⟨nd, rfl⟩⟩; (try first | exact ⟨rfl, _, World.drewN_drewN _ _ _⟩ | exact ⟨rfl, _, Eq.trans (World.drewN_drewN _ _ _) (congrArg (World.drewN _) (Nat.add_assoc _ _ _))⟩))); try go_wp2_with (first | (go_at_call 19; (with_reducible refine (manometerref05_Valued.calls k1 ((rd_T44 l0 x10_1).f1) true _ A11.out).mono ?_); rintro e w' ⟨rfl, ⟨nd, rfl⟩⟩; (try first | exact ⟨rfl, _, World.drewN_drewN _ _ _⟩ | exact ⟨rfl, _, Eq.trans (World.drewN_drewN _ _ _) (congrArg (World.drewN _) (Nat.add_assoc _ _ _))⟩))))
          go_meet
          case rel => exact ⟨_, ((((rd_T44 l0 x10_1).f1).toList == ([] : List UInt8))), y5_, H', ⟨y50_⟩, ⟨y42_⟩, ⟨y27_⟩⟩
         ·replace c12 := Bool.eq_false_iff.mpr c12
          subst c12
          have H1 : (manometerref05_Right.j1 k1 l0 x10_1 l0 (l0.length : Int) x10_1 true ((rd_T44 l0 x10_1).f0) ((rd_T44 l0 x10_1).f1)) = some r := by rw [if_neg (show ¬ (false = true) by decide)] at H; exact H
          clear H
          have H := H1
          clear H1
          have H' := Aside0.mk H
          clear H
          have hcz14_0 : w9.cell? ⟨gb396, 0, none⟩ = some (.string (⟨#[]⟩ : ByteArray)) := (blk_cell BK396.out 0).trans rfl
          have hcz14_1 : w9.cell? ⟨gb396, 1, none⟩ = some (.string (⟨#[]⟩ : ByteArray)) := (blk_cell BK396.out 1).trans rfl
          have hfz14_0 := blk_frozen BK396.out 0
          have hfz14_1 := blk_frozen BK396.out 1
          go_wp2_with (first | (go_at_call 19; (with_reducible refine (manometerref05_Valued.calls k1 ((rd_T44 l0 x10_1).f1) false _ A11.out).mono ?_); rintro e w' ⟨rfl, ⟨nd, rfl⟩⟩; (try first | exact ⟨rfl, _, World.drewN_drewN _ _ _⟩ | exact ⟨rfl, _, Eq.trans (World.drewN_drewN _ _ _) (congrArg (World.drewN _) (Nat.add_assoc _ _ _))⟩)))
          repeat (go_quiet (first | (go_at_call 19; (with_reducible refine (manometerref05_Valued.calls k1 ((rd_T44 l0 x10_1).f1) false _ A11.out).mono ?_); rintro e w' ⟨rfl, ⟨nd, rfl⟩⟩; (try first | exact ⟨rfl, _, World.drewN_drewN _ _ _⟩ | exact ⟨rfl, _, Eq.trans (World.drewN_drewN _ _ _) (congrArg (World.drewN _) (Nat.add_assoc _ _ _))⟩))); try go_wp2_with (first | (go_at_call 19; (with_reducible refine (manometerref05_Valued.calls k1 ((rd_T44 l0 x10_1).f1) false _ A11.out).mono ?_); rintro e w' ⟨rfl, ⟨nd, rfl⟩⟩; (try first | exact ⟨rfl, _, World.drewN_drewN _ _ _⟩ | exact ⟨rfl, _, Eq.trans (World.drewN_drewN _ _ _) (congrArg (World.drewN _) (Nat.add_assoc _ _ _))⟩))))
          go_meet
          case rel => exact ⟨_, (true), y5_, H', ⟨y50_⟩, ⟨y42_⟩, ⟨y27_⟩⟩
        case rest =>
         clear HC8
         try clear c1
         try clear c2
         try clear c2b0
         try clear c2b1
         try clear p2
         try clear c3
         try clear c3b0
         try clear p3
         try clear q3
         try clear hx3
         try clear c4
         try clear c4b0
         try clear c5
         try clear c5b0
         try clear c7
         try clear c12
         try clear hcz10_0
         try clear hcz10_1
         try clear hcz13_0
         try clear hcz13_1
         try clear hcz14_0
         try clear hcz14_1
         try clear hfz10_0
         try clear hfz10_1
         try clear hfz13_0
         try clear hfz13_1
         try clear hfz14_0
         try clear hfz14_1
         try clear hx395_0
         try clear hx395_1
         try clear p2
         try clear p395
         try clear q395
         obtain ⟨kq, x20_7, rfl, HA, HJ7, BK396, HB⟩ := hcut
         cases kq with
         | zero => exact absurd HA.out (by simp [manometerref05_Right.j1])
         | succ kj7 =>
          have H := HA.out
          clear HA
          simp only [manometerref05_Right.j1] at H
          by_cases c15 : x20_7 = true
          ·subst c15
           have H1 : (some 51) = some r := by rw [if_pos rfl] at H; exact H
           clear H
           have H := H1
           clear H1
           obtain rfl := Option.some.inj H
           go_wp2
           repeat (go_quiet (fail); try go_wp2)
           go_ret
           exact ⟨y8_, y27_⟩
          ·replace c15 := Bool.eq_false_iff.mpr c15
           subst c15
           have H1 : (if x10_1 > 0 then (if 0 ≤ (wrap64 (x10_1 - 1)) then (if (wrap64 (x10_1 - 1)) < (l0.length : Int) then (if (Op.bytesLess ((rd_T44 l0 x10_1).f0).toList (((rd_T44 l0 (wrap64 (x10_1 - 1))).f0).toList)) = true then (some 53) else (if ((rd_T44 l0 x10_1).f0).toList = ((rd_T44 l0 (wrap64 (x10_1 - 1))).f0).toList then (some 53) else (manometerref05_Right.l0 kj7 l0 l0 (l0.length : Int) (wrap64 (x10_1 + 1))))) else (none)) else (none)) else (manometerref05_Right.l0 kj7 l0 l0 (l0.length : Int) (wrap64 (x10_1 + 1)))) = some r := by rw [if_neg (show ¬ (false = true) by decide)] at H; exact H
           clear H
           have H := H1
           clear H1
           by_cases c16 : x10_1 > 0
           ·rw [if_pos c16] at H
            have c16b0 : decide (0 < x10_1) = true := decide_eq_true c16
            clear c16
            obtain ⟨ji17, hji17⟩ : ∃ j_ : Int, (wrap64 (x10_1 - 1)) = j_ := ⟨_, rfl⟩
            replace H : (if 0 ≤ (ji17) then (if (ji17) < (l0.length : Int) then (if (Op.bytesLess ((rd_T44 l0 x10_1).f0).toList (((rd_T44 l0 (ji17)).f0).toList)) = true then (some 53) else (if ((rd_T44 l0 x10_1).f0).toList = ((rd_T44 l0 (ji17)).f0).toList then (some 53) else (manometerref05_Right.l0 kj7 l0 l0 (l0.length : Int) (wrap64 (x10_1 + 1))))) else (none)) else (none)) = some r := by first | (rw [hji17] at H; exact H) | (simp only [hji17] at H ⊢; exact H)
            have hji17w : (IntKind.i64.wrap (x10_1 - 1)) = ji17 := (i64_w _).trans hji17
            by_cases c18 : 0 ≤ (ji17)
            ·rw [if_pos c18] at H
             have c18b0 : decide (0 ≤ (ji17)) = true := decide_eq_true c18
             clear c18
             by_cases c19 : (ji17) < (l0.length : Int)
             ·rw [if_pos c19] at H
              have c19b0 : decide ((ji17) < (l0.length : Int)) = true := decide_eq_true c19
              clear c19
              by_cases c20 : (Op.bytesLess ((rd_T44 l0 x10_1).f0).toList (((rd_T44 l0 (ji17)).f0).toList)) = true
              ·rw [if_pos c20] at H
               have c20b0 : (Op.bytesLess ((rd_T44 l0 x10_1).f0).toList (((rd_T44 l0 (ji17)).f0).toList)) = true := c20
               clear c20
               obtain rfl := Option.some.inj H
               have hcz21_0 : wc.cell? ⟨gb396, 0, none⟩ = some (.string ((rd_T44 l0 x10_1).f0)) := (blk_cell BK396.out 0).trans rfl
               have hcz21_1 : wc.cell? ⟨gb396, 1, none⟩ = some (.string ((rd_T44 l0 x10_1).f1)) := (blk_cell BK396.out 1).trans rfl
               have hfz21_0 := blk_frozen BK396.out 0
               have hfz21_1 := blk_frozen BK396.out 1
               have p399 : 0 ≤ ((ji17) : Int) := of_decide_eq_true y3_
               have q399 : (ji17) < (l0.length : Int) := of_decide_eq_true y3_
               obtain ⟨ad399, e399, hx399_0, hx399_1⟩ := at_T44 HR0.out (ji17) p399 q399
               obtain rfl : ad395 = ad399 := (by injection e399)
               replace hx399_0 := (HB.out.cell (World.block_lt_of_cell? w _ hx399_0)).trans hx399_0
               replace hx399_1 := (HB.out.cell (World.block_lt_of_cell? w _ hx399_1)).trans hx399_1
               replace p399 := eq_true p399
               replace q399 := eq_true q399
               go_wp2
               repeat (go_quiet (fail); try go_wp2)
               go_ret
               exact ⟨by first | rfl | (simp [errW_none, errW_some] <;> rfl) | (simp only [← hji17]; first | rfl | (simp [errW_none, errW_some] <;> rfl)) | (simp [*, errW_none, errW_some] <;> rfl), y27_⟩
              ·rw [if_neg c20] at H
               have c20b0 : (Op.bytesLess ((rd_T44 l0 x10_1).f0).toList (((rd_T44 l0 (ji17)).f0).toList)) = false := by simpa using c20
               clear c20
               by_cases c22 : ((rd_T44 l0 x10_1).f0).toList = ((rd_T44 l0 (ji17)).f0).toList
               ·rw [if_pos c22] at H
                have c22b0 : (((rd_T44 l0 x10_1).f0).toList == ((rd_T44 l0 (ji17)).f0).toList) = true := beq_iff_eq.mpr c22
                have c22b1 : (((rd_T44 l0 x10_1).f0).toList != ((rd_T44 l0 (ji17)).f0).toList) = false := bne_eq_false_iff_eq.mpr c22
                clear c22
                obtain rfl := Option.some.inj H
                have hcz23_0 : wc.cell? ⟨gb396, 0, none⟩ = some (.string ((rd_T44 l0 x10_1).f0)) := (blk_cell BK396.out 0).trans rfl
                have hcz23_1 : wc.cell? ⟨gb396, 1, none⟩ = some (.string ((rd_T44 l0 x10_1).f1)) := (blk_cell BK396.out 1).trans rfl
                have hfz23_0 := blk_frozen BK396.out 0
                have hfz23_1 := blk_frozen BK396.out 1
                have p399 : 0 ≤ ((ji17) : Int) := of_decide_eq_true y3_
                have q399 : (ji17) < (l0.length : Int) := of_decide_eq_true y3_
                obtain ⟨ad399, e399, hx399_0, hx399_1⟩ := at_T44 HR0.out (ji17) p399 q399
                obtain rfl : ad395 = ad399 := (by injection e399)
                replace hx399_0 := (HB.out.cell (World.block_lt_of_cell? w _ hx399_0)).trans hx399_0
                replace hx399_1 := (HB.out.cell (World.block_lt_of_cell? w _ hx399_1)).trans hx399_1
                replace p399 := eq_true p399
                replace q399 := eq_true q399
                go_wp2
                repeat (go_quiet (fail); try go_wp2)
                go_ret
                exact ⟨by first | rfl | (simp [errW_none, errW_some] <;> rfl) | (simp only [← hji17]; first | rfl | (simp [errW_none, errW_some] <;> rfl)) | (simp [*, errW_none, errW_some] <;> rfl), y27_⟩
               ·rw [if_neg c22] at H
                have c22b0 : (((rd_T44 l0 x10_1).f0).toList == ((rd_T44 l0 (ji17)).f0).toList) = false := beq_eq_false_iff_ne.mpr c22
                have c22b1 : (((rd_T44 l0 x10_1).f0).toList != ((rd_T44 l0 (ji17)).f0).toList) = true := bne_iff_ne.mpr c22
                have H' := Aside0.mk H
                clear H
                have hcz24_0 : wc.cell? ⟨gb396, 0, none⟩ = some (.string ((rd_T44 l0 x10_1).f0)) := (blk_cell BK396.out 0).trans rfl
                have hcz24_1 : wc.cell? ⟨gb396, 1, none⟩ = some (.string ((rd_T44 l0 x10_1).f1)) := (blk_cell BK396.out 1).trans rfl
                have hfz24_0 := blk_frozen BK396.out 0
                have hfz24_1 := blk_frozen BK396.out 1
                have p399 : 0 ≤ ((ji17) : Int) := of_decide_eq_true y3_
                have q399 : (ji17) < (l0.length : Int) := of_decide_eq_true y3_
                obtain ⟨ad399, e399, hx399_0, hx399_1⟩ := at_T44 HR0.out (ji17) p399 q399
                obtain rfl : ad395 = ad399 := (by injection e399)
                replace hx399_0 := (HB.out.cell (World.block_lt_of_cell? w _ hx399_0)).trans hx399_0
                replace hx399_1 := (HB.out.cell (World.block_lt_of_cell? w _ hx399_1)).trans hx399_1
                replace p399 := eq_true p399
                replace q399 := eq_true q399
                go_wp2
                repeat (go_quiet (fail); try go_wp2)
                go_roundg kj7
                case measure => have := HK1.out; have := HJ7.out; omega
                case rel => exact ⟨(wrap64 (x10_1 + 1)), y5_, H', ⟨by have := HK1.out; have := HJ7.out; omega⟩, ⟨y27_⟩⟩
             ·rw [if_neg c19] at H
              exact absurd H (by simp)
            ·rw [if_neg c18] at H
             exact absurd H (by simp)
           ·rw [if_neg c16] at H
            have c16b0 : decide (0 < x10_1) = false := decide_eq_false c16
            clear c16
            have H' := Aside0.mk H
            clear H
            go_wp2
            repeat (go_quiet (fail); try go_wp2)
            go_roundg kj7
            case measure => have := HK1.out; have := HJ7.out; omega
            case rel => exact ⟨(wrap64 (x10_1 + 1)), y5_, H', ⟨by have := HK1.out; have := HJ7.out; omega⟩, ⟨y27_⟩⟩
       ·replace c7 := Bool.eq_false_iff.mpr c7
        subst c7
        have H1 : (some 50) = some r := by rw [if_neg (show ¬ (false = true) by decide)] at H; exact H
        clear H
        have H := H1
        clear H1
        obtain rfl := Option.some.inj H
        have p395 : 0 ≤ (x10_1 : Int) := of_decide_eq_true y3_
        have q395 : x10_1 < (l0.length : Int) := of_decide_eq_true y3_
        obtain ⟨ad395, e395, hx395_0, hx395_1⟩ := at_T44 HR0.out x10_1 p395 q395
        cases e395
        replace hx395_0 := (HB.out.cell (World.block_lt_of_cell? w _ hx395_0)).trans hx395_0
        replace hx395_1 := (HB.out.cell (World.block_lt_of_cell? w _ hx395_1)).trans hx395_1
        replace p395 := eq_true p395
        replace q395 := eq_true q395
        go_wp2_with (first | ((with_reducible refine gate_dst (N := 4) rfl ?_); refine box_event ?hg (N := 4) ?hd (cs := #[.string (⟨#[]⟩ : ByteArray), .string (⟨#[]⟩ : ByteArray)]) (t := 44) ?hr ?_; (case hd => rfl); (case hg => rfl); (case hr => first | (go_simp; done) | (go_simp; rfl)); intro gb396 hg w25 hbox hb; have n0_ := Aside0.mk (below_step y1_ hb); have n1_ := Aside0.mk (hbox); have n2_ := Aside0.mk ((y12_ : w.heap.size ≤ gb396)); have n3_ := Aside0.mk ((y12_ : w.heap.size ≤ gb396)); clear HB; have HB := n0_; have BK396 := n1_; have GW396 := n2_; have GE396 := n3_; clear n0_ n1_ n2_ n3_; clear hb hbox hg; have hcz26_0 : w25.cell? ⟨gb396, 0, none⟩ = some (.string (⟨#[]⟩ : ByteArray)) := (blk_cell BK396.out 0).trans rfl; have hcz26_1 : w25.cell? ⟨gb396, 1, none⟩ = some (.string (⟨#[]⟩ : ByteArray)) := (blk_cell BK396.out 1).trans rfl; have hfz26_0 := blk_frozen BK396.out 0; have hfz26_1 := blk_frozen BK396.out 1) | (go_at_call 17; (with_reducible refine (manometerref05_Named.calls k1 ((rd_T44 l0 x10_1).f0) false _ A6.out).mono ?_); rintro e w' ⟨rfl, ⟨nd, rfl⟩⟩; (try first | exact ⟨rfl, _, World.drewN_drewN _ _ _⟩ | exact ⟨rfl, _, Eq.trans (World.drewN_drewN _ _ _) (congrArg (World.drewN _) (Nat.add_assoc _ _ _))⟩)))
        repeat (go_quiet (first | ((with_reducible refine gate_dst (N := 4) rfl ?_); refine box_event ?hg (N := 4) ?hd (cs := #[.string (⟨#[]⟩ : ByteArray), .string (⟨#[]⟩ : ByteArray)]) (t := 44) ?hr ?_; (case hd => rfl); (case hg => rfl); (case hr => first | (go_simp; done) | (go_simp; rfl)); intro gb396 hg w25 hbox hb; have n0_ := Aside0.mk (below_step y1_ hb); have n1_ := Aside0.mk (hbox); have n2_ := Aside0.mk ((y12_ : w.heap.size ≤ gb396)); have n3_ := Aside0.mk ((y12_ : w.heap.size ≤ gb396)); clear HB; have HB := n0_; have BK396 := n1_; have GW396 := n2_; have GE396 := n3_; clear n0_ n1_ n2_ n3_; clear hb hbox hg; have hcz26_0 : w25.cell? ⟨gb396, 0, none⟩ = some (.string (⟨#[]⟩ : ByteArray)) := (blk_cell BK396.out 0).trans rfl; have hcz26_1 : w25.cell? ⟨gb396, 1, none⟩ = some (.string (⟨#[]⟩ : ByteArray)) := (blk_cell BK396.out 1).trans rfl; have hfz26_0 := blk_frozen BK396.out 0; have hfz26_1 := blk_frozen BK396.out 1) | (go_at_call 17; (with_reducible refine (manometerref05_Named.calls k1 ((rd_T44 l0 x10_1).f0) false _ A6.out).mono ?_); rintro e w' ⟨rfl, ⟨nd, rfl⟩⟩; (try first | exact ⟨rfl, _, World.drewN_drewN _ _ _⟩ | exact ⟨rfl, _, Eq.trans (World.drewN_drewN _ _ _) (congrArg (World.drewN _) (Nat.add_assoc _ _ _))⟩))); try go_wp2_with (first | ((with_reducible refine gate_dst (N := 4) rfl ?_); refine box_event ?hg (N := 4) ?hd (cs := #[.string (⟨#[]⟩ : ByteArray), .string (⟨#[]⟩ : ByteArray)]) (t := 44) ?hr ?_; (case hd => rfl); (case hg => rfl); (case hr => first | (go_simp; done) | (go_simp; rfl)); intro gb396 hg w25 hbox hb; have n0_ := Aside0.mk (below_step y1_ hb); have n1_ := Aside0.mk (hbox); have n2_ := Aside0.mk ((y12_ : w.heap.size ≤ gb396)); have n3_ := Aside0.mk ((y12_ : w.heap.size ≤ gb396)); clear HB; have HB := n0_; have BK396 := n1_; have GW396 := n2_; have GE396 := n3_; clear n0_ n1_ n2_ n3_; clear hb hbox hg; have hcz26_0 : w25.cell? ⟨gb396, 0, none⟩ = some (.string (⟨#[]⟩ : ByteArray)) := (blk_cell BK396.out 0).trans rfl; have hcz26_1 : w25.cell? ⟨gb396, 1, none⟩ = some (.string (⟨#[]⟩ : ByteArray)) := (blk_cell BK396.out 1).trans rfl; have hfz26_0 := blk_frozen BK396.out 0; have hfz26_1 := blk_frozen BK396.out 1) | (go_at_call 17; (with_reducible refine (manometerref05_Named.calls k1 ((rd_T44 l0 x10_1).f0) false _ A6.out).mono ?_); rintro e w' ⟨rfl, ⟨nd, rfl⟩⟩; (try first | exact ⟨rfl, _, World.drewN_drewN _ _ _⟩ | exact ⟨rfl, _, Eq.trans (World.drewN_drewN _ _ _) (congrArg (World.drewN _) (Nat.add_assoc _ _ _))⟩))))
        go_ret
        exact ⟨y8_, y27_⟩
      ·rw [if_neg c5] at H
       exact absurd H (by simp)
     ·rw [if_neg c4] at H
      exact absurd H (by simp)
    ·rw [if_neg c3] at H
     have c3b0 : decide (x10_1 < (l0.length : Int)) = false := decide_eq_false c3
     clear c3
     obtain rfl := Option.some.inj H
     go_wp2
     repeat (go_quiet (fail); try go_wp2)
     go_ret
     exact ⟨y8_, y1_⟩
end Go.Proofs.YtdhmabofncbohaaDoor.PLC
