import Derived.Test.YtdhmabofncbohaaDoorCLabelsBackH19
import Derived.Test.YtdhmabofncbohaaDoorCLabelsBackPLCx2
import Derived.Test.YtdhmabofncbohaaDoorCLabelsBackPLCx5
import Derived.Test.YtdhmabofncbohaaDoorCLabelsBackPLCx6
import Derived.Test.YtdhmabofncbohaaDoorCLabelsBackPLCx13
import Derived.Test.YtdhmabofncbohaaDoorCLabelsBackPLCx8
namespace Go.Proofs.YtdhmabofncbohaaDoor.PLC
open Go.RowKit Go.Proofs.YtdhmabofncbohaaDoorW.PrintWords Go.Proofs.YtdhmabofncbohaaDoorW.PrintLast Go.Proofs.YtdhmabofncbohaaDoorW.PrintMore
attribute [local go_sem] max2_int min2_int max_two min_two max_three min_three max_four min_four
set_option linter.unusedVariables false
set_option linter.unusedSimpArgs false
def labels_Right.l0 : Nat → List (S44) → List (S44) → Int → Int → Option (Int)
 | 0, _, _, _, _ => none
 | k + 1, x0, x9, x10, x11 => if x11 < x10 then (if 0 ≤ x11 then (if x11 < (x9.length : Int) then ((labels_wrong.f ((rd_T44 x9 x11).f0) ((rd_T44 x9 x11).f1) false).bind fun t393 => (if t393 = 0 then (if x11 > 0 then (if 0 ≤ (wrap64 (x11 - 1)) then (if (wrap64 (x11 - 1)) < (x0.length : Int) then (if (Op.bytesLess (((rd_T44 x9 x11).f0).toList) (((rd_T44 x0 (wrap64 (x11 - 1))).f0).toList)) = true then (some 53) else (if ((rd_T44 x9 x11).f0).toList = ((rd_T44 x0 (wrap64 (x11 - 1))).f0).toList then (some 53) else (labels_Right.l0 k x0 x9 x10 (wrap64 (x11 + 1))))) else (none)) else (none)) else (labels_Right.l0 k x0 x9 x10 (wrap64 (x11 + 1)))) else (some t393))) else (none)) else (none)) else (some 0)
def labels_Right.f (k : Nat) (l0 : List (S44)) : Option (Int) := if (l0.length : Int) > 16 then (some 3) else (labels_Right.l0 k l0 l0 (l0.length : Int) 0)
set_option maxHeartbeats 8000000 in
set_option maxRecDepth 100000 in
theorem labels_Right.calls (k : Nat) (A0 : Option Addr) (c0 : Nat) (l0 : List (S44)) (r : Int) (w : World) (hT : Aside0 (Tab w)) (hr0 : Kd.C k44 w A0 l0.length l0) (hc0 : l0.length ≤ c0) (h : labels_Right.f k l0 = some r) :
  Calls Tryd.prog 36 #[.slice A0 l0.length c0] w fun e w' => e = .returned (.int .i64 r) ∧ Below w.heap.size w w' := by
 have hu44 := Tryd.underlying44
 have HR0 := Aside0.mk hr0
 have HC0 := Aside0.mk hc0
 clear hr0 hc0
 have HB := Aside0.mk (Below.refl w.heap.size w)
 have H : (if (l0.length : Int) > 16 then (some 3) else (labels_Right.l0 k l0 l0 (l0.length : Int) 0)) = some r := h
 clear h
 by_cases c2 : (l0.length : Int) > 16
 ·rw [if_pos c2] at H
  have c2b0 : decide (16 < (l0.length : Int)) = true := decide_eq_true c2
  have c2b1 : decide (16 < l0.length) = true := decide_eq_true (by omega)
  clear c2
  obtain rfl := Option.some.inj H
  go_enter Tryd.func36, Tryd.ntmps36
  go_wp2
  repeat (go_quiet (fail); try go_wp2)
  go_ret
  exact ⟨y7_, y1_⟩
 ·rw [if_neg c2] at H
  have c2b0 : decide (16 < (l0.length : Int)) = false := decide_eq_false c2
  have c2b1 : decide (16 < l0.length) = false := decide_eq_false (by omega)
  clear c2
  have H' := Aside0.mk H
  clear H
  go_enter Tryd.func36, Tryd.ntmps36
  go_wp2
  repeat (go_quiet (fail); try go_wp2)
  go_loopg [11] k (fun kq v11 w' => ∃ (x11_1 : Int), v11 = .int .i64 x11_1 ∧ Aside0 (labels_Right.l0 kq l0 l0 (l0.length : Int) x11_1 = some r) ∧ Aside0 (kq ≤ k) ∧ Aside0 (Below w.heap.size w w'))
  case atStart => exact ⟨(0), y6_, H', ⟨Nat.le_refl _⟩, ⟨y1_⟩⟩
  case round =>
   clear H'
   try clear c2
   try clear c2b0
   try clear c2b1
   try clear p2
   obtain ⟨x11_1, rfl, HA, HK1, HB⟩ := hrel
   cases gk with
   | zero => exact absurd HA.out (by simp [labels_Right.l0])
   | succ k1 =>
    have H := HA.out
    clear HA
    simp only [labels_Right.l0] at H
    by_cases c3 : x11_1 < (l0.length : Int)
    ·rw [if_pos c3] at H
     have c3b0 : decide (x11_1 < (l0.length : Int)) = true := decide_eq_true c3
     clear c3
     by_cases c4 : 0 ≤ x11_1
     ·rw [if_pos c4] at H
      have c4b0 : decide (0 ≤ x11_1) = true := decide_eq_true c4
      clear c4
      by_cases c5 : x11_1 < (l0.length : Int)
      ·rw [if_pos c5] at H
       have c5b0 : decide (x11_1 < (l0.length : Int)) = true := decide_eq_true c5
       clear c5
       replace H := Option.bind_eq_some_iff.mp H
       obtain ⟨t393, A60, H⟩ := H
       replace H : (if t393 = 0 then (if x11_1 > 0 then (if 0 ≤ (wrap64 (x11_1 - 1)) then (if (wrap64 (x11_1 - 1)) < (l0.length : Int) then (if (Op.bytesLess (((rd_T44 l0 x11_1).f0).toList) (((rd_T44 l0 (wrap64 (x11_1 - 1))).f0).toList)) = true then (some 53) else (if ((rd_T44 l0 x11_1).f0).toList = ((rd_T44 l0 (wrap64 (x11_1 - 1))).f0).toList then (some 53) else (labels_Right.l0 k1 l0 l0 (l0.length : Int) (wrap64 (x11_1 + 1))))) else (none)) else (none)) else (labels_Right.l0 k1 l0 l0 (l0.length : Int) (wrap64 (x11_1 + 1)))) else (some t393)) = some r := H
       have A6 := Aside0.mk A60
       clear A60
       by_cases c7 : t393 = 0
       ·rw [if_pos c7] at H
        have c7b0 : (t393 == 0) = true := beq_iff_eq.mpr c7
        have c7b1 : (t393 != 0) = false := bne_eq_false_iff_eq.mpr c7
        clear c7
        by_cases c8 : x11_1 > 0
        ·rw [if_pos c8] at H
         have c8b0 : decide (0 < x11_1) = true := decide_eq_true c8
         clear c8
         obtain ⟨ji9, hji9⟩ : ∃ j_ : Int, (wrap64 (x11_1 - 1)) = j_ := ⟨_, rfl⟩
         replace H : (if 0 ≤ (ji9) then (if (ji9) < (l0.length : Int) then (if (Op.bytesLess (((rd_T44 l0 x11_1).f0).toList) (((rd_T44 l0 (ji9)).f0).toList)) = true then (some 53) else (if ((rd_T44 l0 x11_1).f0).toList = ((rd_T44 l0 (ji9)).f0).toList then (some 53) else (labels_Right.l0 k1 l0 l0 (l0.length : Int) (wrap64 (x11_1 + 1))))) else (none)) else (none)) = some r := by first | (rw [hji9] at H; exact H) | (simp only [hji9] at H ⊢; exact H)
         (try rw [hji9] at A6)
         have hji9w : (IntKind.i64.wrap (x11_1 - 1)) = ji9 := (i64_w _).trans hji9
         by_cases c10 : 0 ≤ (ji9)
         ·rw [if_pos c10] at H
          have c10b0 : decide (0 ≤ (ji9)) = true := decide_eq_true c10
          clear c10
          by_cases c11 : (ji9) < (l0.length : Int)
          ·rw [if_pos c11] at H
           have c11b0 : decide ((ji9) < (l0.length : Int)) = true := decide_eq_true c11
           clear c11
           by_cases c12 : (Op.bytesLess (((rd_T44 l0 x11_1).f0).toList) (((rd_T44 l0 (ji9)).f0).toList)) = true
           ·rw [if_pos c12] at H
            have c12b0 : (Op.bytesLess (((rd_T44 l0 x11_1).f0).toList) (((rd_T44 l0 (ji9)).f0).toList)) = true := c12
            clear c12
            obtain rfl := Option.some.inj H
            have p391 : 0 ≤ (x11_1 : Int) := of_decide_eq_true y3_
            have q391 : x11_1 < (l0.length : Int) := of_decide_eq_true y3_
            obtain ⟨ad391, e391, hx391_0, hx391_1⟩ := at_T44 HR0.out x11_1 p391 q391
            cases e391
            replace hx391_0 := (HB.out.cell (World.block_lt_of_cell? w _ hx391_0)).trans hx391_0
            replace hx391_1 := (HB.out.cell (World.block_lt_of_cell? w _ hx391_1)).trans hx391_1
            replace p391 := eq_true p391
            replace q391 := eq_true q391
            go_wp2_with (first | ((with_reducible refine gate_dst (N := 4) rfl ?_); refine box_event ?hg (N := 4) ?hd (cs := #[.string (⟨#[]⟩ : ByteArray), .string (⟨#[]⟩ : ByteArray)]) (t := 44) ?hr ?_; (case hd => rfl); (case hg => rfl); (case hr => first | (go_simp; done) | (go_simp; rfl)); intro gb392 hg w13 hbox hb; have n0_ := Aside0.mk (below_step y1_ hb); have n1_ := Aside0.mk (hbox); have n2_ := Aside0.mk ((y15_ : w.heap.size ≤ gb392)); have n3_ := Aside0.mk ((y15_ : w.heap.size ≤ gb392)); clear HB; have HB := n0_; have BK392 := n1_; have GW392 := n2_; have GE392 := n3_; clear n0_ n1_ n2_ n3_; clear hb hbox hg; have hcz14_0 : w13.cell? ⟨gb392, 0, none⟩ = some (.string (⟨#[]⟩ : ByteArray)) := (blk_cell BK392.out 0).trans rfl; have hcz14_1 : w13.cell? ⟨gb392, 1, none⟩ = some (.string (⟨#[]⟩ : ByteArray)) := (blk_cell BK392.out 1).trans rfl; have hfz14_0 := blk_frozen BK392.out 0; have hfz14_1 := blk_frozen BK392.out 1) | (go_at_call 65; (with_reducible refine (labels_wrong.calls ((rd_T44 l0 x11_1).f0) ((rd_T44 l0 x11_1).f1) false t393 _ ?side1 A6.out).mono ?_); (case side1 => exact ⟨Tab_below hT.out y5_⟩); rintro e w15 ⟨rfl, hb⟩; have n0_ := Aside0.mk (blk_below (g := gb392) (o := .cells #[.string ((rd_T44 l0 x11_1).f0), .string ((rd_T44 l0 x11_1).f1)] 44 (0, 0)) y4_ hb); have n1_ := Aside0.mk (below_step y5_ hb); clear BK392; clear HB; have BK392 := n0_; have HB := n1_; clear n0_ n1_; (try clear hb); (try clear hb2); (try clear hk); (try clear hi); have hcz16_0 : w15.cell? ⟨gb392, 0, none⟩ = some (.string ((rd_T44 l0 x11_1).f0)) := (blk_cell BK392.out 0).trans rfl; have hcz16_1 : w15.cell? ⟨gb392, 1, none⟩ = some (.string ((rd_T44 l0 x11_1).f1)) := (blk_cell BK392.out 1).trans rfl; have hfz16_0 := blk_frozen BK392.out 0; have hfz16_1 := blk_frozen BK392.out 1; have p394 : 0 ≤ ((ji9) : Int) := of_decide_eq_true y3_; have q394 : (ji9) < (l0.length : Int) := of_decide_eq_true y3_; obtain ⟨ad394, e394, hx394_0, hx394_1⟩ := at_T44 HR0.out (ji9) p394 q394; obtain rfl : ad391 = ad394 := (by injection e394); replace hx394_0 := (HB.out.cell (World.block_lt_of_cell? w _ hx394_0)).trans hx394_0; replace hx394_1 := (HB.out.cell (World.block_lt_of_cell? w _ hx394_1)).trans hx394_1; replace p394 := eq_true p394; replace q394 := eq_true q394))
            repeat (go_quiet (first | ((with_reducible refine gate_dst (N := 4) rfl ?_); refine box_event ?hg (N := 4) ?hd (cs := #[.string (⟨#[]⟩ : ByteArray), .string (⟨#[]⟩ : ByteArray)]) (t := 44) ?hr ?_; (case hd => rfl); (case hg => rfl); (case hr => first | (go_simp; done) | (go_simp; rfl)); intro gb392 hg w13 hbox hb; have n0_ := Aside0.mk (below_step y1_ hb); have n1_ := Aside0.mk (hbox); have n2_ := Aside0.mk ((y15_ : w.heap.size ≤ gb392)); have n3_ := Aside0.mk ((y15_ : w.heap.size ≤ gb392)); clear HB; have HB := n0_; have BK392 := n1_; have GW392 := n2_; have GE392 := n3_; clear n0_ n1_ n2_ n3_; clear hb hbox hg; have hcz14_0 : w13.cell? ⟨gb392, 0, none⟩ = some (.string (⟨#[]⟩ : ByteArray)) := (blk_cell BK392.out 0).trans rfl; have hcz14_1 : w13.cell? ⟨gb392, 1, none⟩ = some (.string (⟨#[]⟩ : ByteArray)) := (blk_cell BK392.out 1).trans rfl; have hfz14_0 := blk_frozen BK392.out 0; have hfz14_1 := blk_frozen BK392.out 1) | (go_at_call 65; (with_reducible refine (labels_wrong.calls ((rd_T44 l0 x11_1).f0) ((rd_T44 l0 x11_1).f1) false t393 _ ?side1 A6.out).mono ?_); (case side1 => exact ⟨Tab_below hT.out y5_⟩); rintro e w15 ⟨rfl, hb⟩; have n0_ := Aside0.mk (blk_below (g := gb392) (o := .cells #[.string ((rd_T44 l0 x11_1).f0), .string ((rd_T44 l0 x11_1).f1)] 44 (0, 0)) y4_ hb); have n1_ := Aside0.mk (below_step y5_ hb); clear BK392; clear HB; have BK392 := n0_; have HB := n1_; clear n0_ n1_; (try clear hb); (try clear hb2); (try clear hk); (try clear hi); have hcz16_0 : w15.cell? ⟨gb392, 0, none⟩ = some (.string ((rd_T44 l0 x11_1).f0)) := (blk_cell BK392.out 0).trans rfl; have hcz16_1 : w15.cell? ⟨gb392, 1, none⟩ = some (.string ((rd_T44 l0 x11_1).f1)) := (blk_cell BK392.out 1).trans rfl; have hfz16_0 := blk_frozen BK392.out 0; have hfz16_1 := blk_frozen BK392.out 1; have p394 : 0 ≤ ((ji9) : Int) := of_decide_eq_true y3_; have q394 : (ji9) < (l0.length : Int) := of_decide_eq_true y3_; obtain ⟨ad394, e394, hx394_0, hx394_1⟩ := at_T44 HR0.out (ji9) p394 q394; obtain rfl : ad391 = ad394 := (by injection e394); replace hx394_0 := (HB.out.cell (World.block_lt_of_cell? w _ hx394_0)).trans hx394_0; replace hx394_1 := (HB.out.cell (World.block_lt_of_cell? w _ hx394_1)).trans hx394_1; replace p394 := eq_true p394; replace q394 := eq_true q394)); try go_wp2_with (first | ((with_reducible refine gate_dst (N := 4) rfl ?_); refine box_event ?hg (N := 4) ?hd (cs := #[.string (⟨#[]⟩ : ByteArray), .string (⟨#[]⟩ : ByteArray)]) (t := 44) ?hr ?_; (case hd => rfl); (case hg => rfl); (case hr => first | (go_simp; done) | (go_simp; rfl)); intro gb392 hg w13 hbox hb; have n0_ := Aside0.mk (below_step y1_ hb); have n1_ := Aside0.mk (hbox); have n2_ := Aside0.mk ((y15_ : w.heap.size ≤ gb392)); have n3_ := Aside0.mk ((y15_ : w.heap.size ≤ gb392)); clear HB; have HB := n0_; have BK392 := n1_; have GW392 := n2_; have GE392 := n3_; clear n0_ n1_ n2_ n3_; clear hb hbox hg; have hcz14_0 : w13.cell? ⟨gb392, 0, none⟩ = some (.string (⟨#[]⟩ : ByteArray)) := (blk_cell BK392.out 0).trans rfl; have hcz14_1 : w13.cell? ⟨gb392, 1, none⟩ = some (.string (⟨#[]⟩ : ByteArray)) := (blk_cell BK392.out 1).trans rfl; have hfz14_0 := blk_frozen BK392.out 0; have hfz14_1 := blk_frozen BK392.out 1) | (go_at_call 65; (with_reducible refine (labels_wrong.calls ((rd_T44 l0 x11_1).f0) ((rd_T44 l0 x11_1).f1) false t393 _ ?side1 A6.out).mono ?_); (case side1 => exact ⟨Tab_below hT.out y5_⟩); rintro e w15 ⟨rfl, hb⟩; have n0_ := Aside0.mk (blk_below (g := gb392) (o := .cells #[.string ((rd_T44 l0 x11_1).f0), .string ((rd_T44 l0 x11_1).f1)] 44 (0, 0)) y4_ hb); have n1_ := Aside0.mk (below_step y5_ hb); clear BK392; clear HB; have BK392 := n0_; have HB := n1_; clear n0_ n1_; (try clear hb); (try clear hb2); (try clear hk); (try clear hi); have hcz16_0 : w15.cell? ⟨gb392, 0, none⟩ = some (.string ((rd_T44 l0 x11_1).f0)) := (blk_cell BK392.out 0).trans rfl; have hcz16_1 : w15.cell? ⟨gb392, 1, none⟩ = some (.string ((rd_T44 l0 x11_1).f1)) := (blk_cell BK392.out 1).trans rfl; have hfz16_0 := blk_frozen BK392.out 0; have hfz16_1 := blk_frozen BK392.out 1; have p394 : 0 ≤ ((ji9) : Int) := of_decide_eq_true y3_; have q394 : (ji9) < (l0.length : Int) := of_decide_eq_true y3_; obtain ⟨ad394, e394, hx394_0, hx394_1⟩ := at_T44 HR0.out (ji9) p394 q394; obtain rfl : ad391 = ad394 := (by injection e394); replace hx394_0 := (HB.out.cell (World.block_lt_of_cell? w _ hx394_0)).trans hx394_0; replace hx394_1 := (HB.out.cell (World.block_lt_of_cell? w _ hx394_1)).trans hx394_1; replace p394 := eq_true p394; replace q394 := eq_true q394)))
            go_ret
            exact ⟨by first | rfl | (simp [errW_none, errW_some] <;> rfl) | (simp only [← hji9]; first | rfl | (simp [errW_none, errW_some] <;> rfl)) | (simp [*, errW_none, errW_some] <;> rfl), y5_⟩
           ·rw [if_neg c12] at H
            have c12b0 : (Op.bytesLess (((rd_T44 l0 x11_1).f0).toList) (((rd_T44 l0 (ji9)).f0).toList)) = false := by simpa using c12
            clear c12
            by_cases c17 : ((rd_T44 l0 x11_1).f0).toList = ((rd_T44 l0 (ji9)).f0).toList
            ·rw [if_pos c17] at H
             have c17b0 : (((rd_T44 l0 x11_1).f0).toList == ((rd_T44 l0 (ji9)).f0).toList) = true := beq_iff_eq.mpr c17
             have c17b1 : (((rd_T44 l0 x11_1).f0).toList != ((rd_T44 l0 (ji9)).f0).toList) = false := bne_eq_false_iff_eq.mpr c17
             clear c17
             obtain rfl := Option.some.inj H
             have p391 : 0 ≤ (x11_1 : Int) := of_decide_eq_true y3_
             have q391 : x11_1 < (l0.length : Int) := of_decide_eq_true y3_
             obtain ⟨ad391, e391, hx391_0, hx391_1⟩ := at_T44 HR0.out x11_1 p391 q391
             cases e391
             replace hx391_0 := (HB.out.cell (World.block_lt_of_cell? w _ hx391_0)).trans hx391_0
             replace hx391_1 := (HB.out.cell (World.block_lt_of_cell? w _ hx391_1)).trans hx391_1
             replace p391 := eq_true p391
             replace q391 := eq_true q391
             go_wp2_with (first | ((with_reducible refine gate_dst (N := 4) rfl ?_); refine box_event ?hg (N := 4) ?hd (cs := #[.string (⟨#[]⟩ : ByteArray), .string (⟨#[]⟩ : ByteArray)]) (t := 44) ?hr ?_; (case hd => rfl); (case hg => rfl); (case hr => first | (go_simp; done) | (go_simp; rfl)); intro gb392 hg w18 hbox hb; have n0_ := Aside0.mk (below_step y1_ hb); have n1_ := Aside0.mk (hbox); have n2_ := Aside0.mk ((y15_ : w.heap.size ≤ gb392)); have n3_ := Aside0.mk ((y15_ : w.heap.size ≤ gb392)); clear HB; have HB := n0_; have BK392 := n1_; have GW392 := n2_; have GE392 := n3_; clear n0_ n1_ n2_ n3_; clear hb hbox hg; have hcz19_0 : w18.cell? ⟨gb392, 0, none⟩ = some (.string (⟨#[]⟩ : ByteArray)) := (blk_cell BK392.out 0).trans rfl; have hcz19_1 : w18.cell? ⟨gb392, 1, none⟩ = some (.string (⟨#[]⟩ : ByteArray)) := (blk_cell BK392.out 1).trans rfl; have hfz19_0 := blk_frozen BK392.out 0; have hfz19_1 := blk_frozen BK392.out 1) | (go_at_call 65; (with_reducible refine (labels_wrong.calls ((rd_T44 l0 x11_1).f0) ((rd_T44 l0 x11_1).f1) false t393 _ ?side1 A6.out).mono ?_); (case side1 => exact ⟨Tab_below hT.out y5_⟩); rintro e w20 ⟨rfl, hb⟩; have n0_ := Aside0.mk (blk_below (g := gb392) (o := .cells #[.string ((rd_T44 l0 x11_1).f0), .string ((rd_T44 l0 x11_1).f1)] 44 (0, 0)) y4_ hb); have n1_ := Aside0.mk (below_step y5_ hb); clear BK392; clear HB; have BK392 := n0_; have HB := n1_; clear n0_ n1_; (try clear hb); (try clear hb2); (try clear hk); (try clear hi); have hcz21_0 : w20.cell? ⟨gb392, 0, none⟩ = some (.string ((rd_T44 l0 x11_1).f0)) := (blk_cell BK392.out 0).trans rfl; have hcz21_1 : w20.cell? ⟨gb392, 1, none⟩ = some (.string ((rd_T44 l0 x11_1).f1)) := (blk_cell BK392.out 1).trans rfl; have hfz21_0 := blk_frozen BK392.out 0; have hfz21_1 := blk_frozen BK392.out 1; have p394 : 0 ≤ ((ji9) : Int) := of_decide_eq_true y3_; have q394 : (ji9) < (l0.length : Int) := of_decide_eq_true y3_; obtain ⟨ad394, e394, hx394_0, hx394_1⟩ := at_T44 HR0.out (ji9) p394 q394; obtain rfl : ad391 = ad394 := (by injection e394); replace hx394_0 := (HB.out.cell (World.block_lt_of_cell? w _ hx394_0)).trans hx394_0; replace hx394_1 := (HB.out.cell (World.block_lt_of_cell? w _ hx394_1)).trans hx394_1; replace p394 := eq_true p394; replace q394 := eq_true q394))
             repeat (go_quiet (first | ((with_reducible refine gate_dst (N := 4) rfl ?_); refine box_event ?hg (N := 4) ?hd (cs := #[.string (⟨#[]⟩ : ByteArray), .string (⟨#[]⟩ : ByteArray)]) (t := 44) ?hr ?_; (case hd => rfl); (case hg => rfl); (case hr => first | (go_simp; done) | (go_simp; rfl)); intro gb392 hg w18 hbox hb; have n0_ := Aside0.mk (below_step y1_ hb); have n1_ := Aside0.mk (hbox); have n2_ := Aside0.mk ((y15_ : w.heap.size ≤ gb392)); have n3_ := Aside0.mk ((y15_ : w.heap.size ≤ gb392)); clear HB; have HB := n0_; have BK392 := n1_; have GW392 := n2_; have GE392 := n3_; clear n0_ n1_ n2_ n3_; clear hb hbox hg; have hcz19_0 : w18.cell? ⟨gb392, 0, none⟩ = some (.string (⟨#[]⟩ : ByteArray)) := (blk_cell BK392.out 0).trans rfl; have hcz19_1 : w18.cell? ⟨gb392, 1, none⟩ = some (.string (⟨#[]⟩ : ByteArray)) := (blk_cell BK392.out 1).trans rfl; have hfz19_0 := blk_frozen BK392.out 0; have hfz19_1 := blk_frozen BK392.out 1) | (go_at_call 65; (with_reducible refine (labels_wrong.calls ((rd_T44 l0 x11_1).f0) ((rd_T44 l0 x11_1).f1) false t393 _ ?side1 A6.out).mono ?_); (case side1 => exact ⟨Tab_below hT.out y5_⟩); rintro e w20 ⟨rfl, hb⟩; have n0_ := Aside0.mk (blk_below (g := gb392) (o := .cells #[.string ((rd_T44 l0 x11_1).f0), .string ((rd_T44 l0 x11_1).f1)] 44 (0, 0)) y4_ hb); have n1_ := Aside0.mk (below_step y5_ hb); clear BK392; clear HB; have BK392 := n0_; have HB := n1_; clear n0_ n1_; (try clear hb); (try clear hb2); (try clear hk); (try clear hi); have hcz21_0 : w20.cell? ⟨gb392, 0, none⟩ = some (.string ((rd_T44 l0 x11_1).f0)) := (blk_cell BK392.out 0).trans rfl; have hcz21_1 : w20.cell? ⟨gb392, 1, none⟩ = some (.string ((rd_T44 l0 x11_1).f1)) := (blk_cell BK392.out 1).trans rfl; have hfz21_0 := blk_frozen BK392.out 0; have hfz21_1 := blk_frozen BK392.out 1; have p394 : 0 ≤ ((ji9) : Int) := of_decide_eq_true y3_; have q394 : (ji9) < (l0.length : Int) := of_decide_eq_true y3_; obtain ⟨ad394, e394, hx394_0, hx394_1⟩ := at_T44 HR0.out (ji9) p394 q394; obtain rfl : ad391 = ad394 := (by injection e394); replace hx394_0 := (HB.out.cell (World.block_lt_of_cell? w _ hx394_0)).trans hx394_0; replace hx394_1 := (HB.out.cell (World.block_lt_of_cell? w _ hx394_1)).trans hx394_1; replace p394 := eq_true p394; replace q394 := eq_true q394)); try go_wp2_with (first | ((with_reducible refine gate_dst (N := 4) rfl ?_); refine box_event ?hg (N := 4) ?hd (cs := #[.string (⟨#[]⟩ : ByteArray), .string (⟨#[]⟩ : ByteArray)]) (t := 44) ?hr ?_; (case hd => rfl); (case hg => rfl); (case hr => first | (go_simp; done) | (go_simp; rfl)); intro gb392 hg w18 hbox hb; have n0_ := Aside0.mk (below_step y1_ hb); have n1_ := Aside0.mk (hbox); have n2_ := Aside0.mk ((y15_ : w.heap.size ≤ gb392)); have n3_ := Aside0.mk ((y15_ : w.heap.size ≤ gb392)); clear HB; have HB := n0_; have BK392 := n1_; have GW392 := n2_; have GE392 := n3_; clear n0_ n1_ n2_ n3_; clear hb hbox hg; have hcz19_0 : w18.cell? ⟨gb392, 0, none⟩ = some (.string (⟨#[]⟩ : ByteArray)) := (blk_cell BK392.out 0).trans rfl; have hcz19_1 : w18.cell? ⟨gb392, 1, none⟩ = some (.string (⟨#[]⟩ : ByteArray)) := (blk_cell BK392.out 1).trans rfl; have hfz19_0 := blk_frozen BK392.out 0; have hfz19_1 := blk_frozen BK392.out 1) | (go_at_call 65; (with_reducible refine (labels_wrong.calls ((rd_T44 l0 x11_1).f0) ((rd_T44 l0 x11_1).f1) false t393 _ ?side1 A6.out).mono ?_); (case side1 => exact ⟨Tab_below hT.out y5_⟩); rintro e w20 ⟨rfl, hb⟩; have n0_ := Aside0.mk (blk_below (g := gb392) (o := .cells #[.string ((rd_T44 l0 x11_1).f0), .string ((rd_T44 l0 x11_1).f1)] 44 (0, 0)) y4_ hb); have n1_ := Aside0.mk (below_step y5_ hb); clear BK392; clear HB; have BK392 := n0_; have HB := n1_; clear n0_ n1_; (try clear hb); (try clear hb2); (try clear hk); (try clear hi); have hcz21_0 : w20.cell? ⟨gb392, 0, none⟩ = some (.string ((rd_T44 l0 x11_1).f0)) := (blk_cell BK392.out 0).trans rfl; have hcz21_1 : w20.cell? ⟨gb392, 1, none⟩ = some (.string ((rd_T44 l0 x11_1).f1)) := (blk_cell BK392.out 1).trans rfl; have hfz21_0 := blk_frozen BK392.out 0; have hfz21_1 := blk_frozen BK392.out 1; have p394 : 0 ≤ ((ji9) : Int) := of_decide_eq_true y3_; have q394 : (ji9) < (l0.length : Int) := of_decide_eq_true y3_; obtain ⟨ad394, e394, hx394_0, hx394_1⟩ := at_T44 HR0.out (ji9) p394 q394; obtain rfl : ad391 = ad394 := (by injection e394); replace hx394_0 := (HB.out.cell (World.block_lt_of_cell? w _ hx394_0)).trans hx394_0; replace hx394_1 := (HB.out.cell (World.block_lt_of_cell? w _ hx394_1)).trans hx394_1; replace p394 := eq_true p394; replace q394 := eq_true q394)))
             go_ret
             exact ⟨by first | rfl | (simp [errW_none, errW_some] <;> rfl) | (simp only [← hji9]; first | rfl | (simp [errW_none, errW_some] <;> rfl)) | (simp [*, errW_none, errW_some] <;> rfl), y5_⟩
            ·rw [if_neg c17] at H
             have c17b0 : (((rd_T44 l0 x11_1).f0).toList == ((rd_T44 l0 (ji9)).f0).toList) = false := beq_eq_false_iff_ne.mpr c17
             have c17b1 : (((rd_T44 l0 x11_1).f0).toList != ((rd_T44 l0 (ji9)).f0).toList) = true := bne_iff_ne.mpr c17
             have H' := Aside0.mk H
             clear H
             have p391 : 0 ≤ (x11_1 : Int) := of_decide_eq_true y3_
             have q391 : x11_1 < (l0.length : Int) := of_decide_eq_true y3_
             obtain ⟨ad391, e391, hx391_0, hx391_1⟩ := at_T44 HR0.out x11_1 p391 q391
             cases e391
             replace hx391_0 := (HB.out.cell (World.block_lt_of_cell? w _ hx391_0)).trans hx391_0
             replace hx391_1 := (HB.out.cell (World.block_lt_of_cell? w _ hx391_1)).trans hx391_1
             replace p391 := eq_true p391
             replace q391 := eq_true q391
             go_wp2_with (first | ((with_reducible refine gate_dst (N := 4) rfl ?_); refine box_event ?hg (N := 4) ?hd (cs := #[.string (⟨#[]⟩ : ByteArray), .string (⟨#[]⟩ : ByteArray)]) (t := 44) ?hr ?_; (case hd => rfl); (case hg => rfl); (case hr => first | (go_simp; done) | (go_simp; rfl)); intro gb392 hg w22 hbox hb; have n0_ := Aside0.mk (below_step y1_ hb); have n1_ := Aside0.mk (hbox); have n2_ := Aside0.mk ((y15_ : w.heap.size ≤ gb392)); have n3_ := Aside0.mk ((y15_ : w.heap.size ≤ gb392)); clear HB; have HB := n0_; have BK392 := n1_; have GW392 := n2_; have GE392 := n3_; clear n0_ n1_ n2_ n3_; clear hb hbox hg; have hcz23_0 : w22.cell? ⟨gb392, 0, none⟩ = some (.string (⟨#[]⟩ : ByteArray)) := (blk_cell BK392.out 0).trans rfl; have hcz23_1 : w22.cell? ⟨gb392, 1, none⟩ = some (.string (⟨#[]⟩ : ByteArray)) := (blk_cell BK392.out 1).trans rfl; have hfz23_0 := blk_frozen BK392.out 0; have hfz23_1 := blk_frozen BK392.out 1) | (go_at_call 65; (with_reducible refine (labels_wrong.calls ((rd_T44 l0 x11_1).f0) ((rd_T44 l0 x11_1).f1) false t393 _ ?side1 A6.out).mono ?_); (case side1 => exact ⟨Tab_below hT.out y5_⟩); rintro e w24 ⟨rfl, hb⟩; have n0_ := Aside0.mk (blk_below (g := gb392) (o := .cells #[.string ((rd_T44 l0 x11_1).f0), .string ((rd_T44 l0 x11_1).f1)] 44 (0, 0)) y4_ hb); have n1_ := Aside0.mk (below_step y5_ hb); clear BK392; clear HB; have BK392 := n0_; have HB := n1_; clear n0_ n1_; (try clear hb); (try clear hb2); (try clear hk); (try clear hi); have hcz25_0 : w24.cell? ⟨gb392, 0, none⟩ = some (.string ((rd_T44 l0 x11_1).f0)) := (blk_cell BK392.out 0).trans rfl; have hcz25_1 : w24.cell? ⟨gb392, 1, none⟩ = some (.string ((rd_T44 l0 x11_1).f1)) := (blk_cell BK392.out 1).trans rfl; have hfz25_0 := blk_frozen BK392.out 0; have hfz25_1 := blk_frozen BK392.out 1; have p394 : 0 ≤ ((ji9) : Int) := of_decide_eq_true y3_; have q394 : (ji9) < (l0.length : Int) := of_decide_eq_true y3_; obtain ⟨ad394, e394, hx394_0, hx394_1⟩ := at_T44 HR0.out (ji9) p394 q394; obtain rfl : ad391 = ad394 := (by injection e394); replace hx394_0 := (HB.out.cell (World.block_lt_of_cell? w _ hx394_0)).trans hx394_0; replace hx394_1 := (HB.out.cell (World.block_lt_of_cell? w _ hx394_1)).trans hx394_1; replace p394 := eq_true p394; replace q394 := eq_true q394))
             repeat (go_quiet (first | ((with_reducible refine gate_dst (N := 4) rfl ?_); refine box_event ?hg (N := 4) ?hd (cs := #[.string (⟨#[]⟩ : ByteArray), .string (⟨#[]⟩ : ByteArray)]) (t := 44) ?hr ?_; (case hd => rfl); (case hg => rfl); (case hr => first | (go_simp; done) | (go_simp; rfl)); intro gb392 hg w22 hbox hb; have n0_ := Aside0.mk (below_step y1_ hb); have n1_ := Aside0.mk (hbox); have n2_ := Aside0.mk ((y15_ : w.heap.size ≤ gb392)); have n3_ := Aside0.mk ((y15_ : w.heap.size ≤ gb392)); clear HB; have HB := n0_; have BK392 := n1_; have GW392 := n2_; have GE392 := n3_; clear n0_ n1_ n2_ n3_; clear hb hbox hg; have hcz23_0 : w22.cell? ⟨gb392, 0, none⟩ = some (.string (⟨#[]⟩ : ByteArray)) := (blk_cell BK392.out 0).trans rfl; have hcz23_1 : w22.cell? ⟨gb392, 1, none⟩ = some (.string (⟨#[]⟩ : ByteArray)) := (blk_cell BK392.out 1).trans rfl; have hfz23_0 := blk_frozen BK392.out 0; have hfz23_1 := blk_frozen BK392.out 1) | (go_at_call 65; (with_reducible refine (labels_wrong.calls ((rd_T44 l0 x11_1).f0) ((rd_T44 l0 x11_1).f1) false t393 _ ?side1 A6.out).mono ?_); (case side1 => exact ⟨Tab_below hT.out y5_⟩); rintro e w24 ⟨rfl, hb⟩; have n0_ := Aside0.mk (blk_below (g := gb392) (o := .cells #[.string ((rd_T44 l0 x11_1).f0), .string ((rd_T44 l0 x11_1).f1)] 44 (0, 0)) y4_ hb); have n1_ := Aside0.mk (below_step y5_ hb); clear BK392; clear HB; have BK392 := n0_; have HB := n1_; clear n0_ n1_; (try clear hb); (try clear hb2); (try clear hk); (try clear hi); have hcz25_0 : w24.cell? ⟨gb392, 0, none⟩ = some (.string ((rd_T44 l0 x11_1).f0)) := (blk_cell BK392.out 0).trans rfl; have hcz25_1 : w24.cell? ⟨gb392, 1, none⟩ = some (.string ((rd_T44 l0 x11_1).f1)) := (blk_cell BK392.out 1).trans rfl; have hfz25_0 := blk_frozen BK392.out 0; have hfz25_1 := blk_frozen BK392.out 1; have p394 : 0 ≤ ((ji9) : Int) := of_decide_eq_true y3_; have q394 : (ji9) < (l0.length : Int) := of_decide_eq_true y3_; obtain ⟨ad394, e394, hx394_0, hx394_1⟩ := at_T44 HR0.out (ji9) p394 q394; obtain rfl : ad391 = ad394 := (by injection e394); replace hx394_0 := (HB.out.cell (World.block_lt_of_cell? w _ hx394_0)).trans hx394_0; replace hx394_1 := (HB.out.cell (World.block_lt_of_cell? w _ hx394_1)).trans hx394_1; replace p394 := eq_true p394; replace q394 := eq_true q394)); try go_wp2_with (first | ((with_reducible refine gate_dst (N := 4) rfl ?_); refine box_event ?hg (N := 4) ?hd (cs := #[.string (⟨#[]⟩ : ByteArray), .string (⟨#[]⟩ : ByteArray)]) (t := 44) ?hr ?_; (case hd => rfl); (case hg => rfl); (case hr => first | (go_simp; done) | (go_simp; rfl)); intro gb392 hg w22 hbox hb; have n0_ := Aside0.mk (below_step y1_ hb); have n1_ := Aside0.mk (hbox); have n2_ := Aside0.mk ((y15_ : w.heap.size ≤ gb392)); have n3_ := Aside0.mk ((y15_ : w.heap.size ≤ gb392)); clear HB; have HB := n0_; have BK392 := n1_; have GW392 := n2_; have GE392 := n3_; clear n0_ n1_ n2_ n3_; clear hb hbox hg; have hcz23_0 : w22.cell? ⟨gb392, 0, none⟩ = some (.string (⟨#[]⟩ : ByteArray)) := (blk_cell BK392.out 0).trans rfl; have hcz23_1 : w22.cell? ⟨gb392, 1, none⟩ = some (.string (⟨#[]⟩ : ByteArray)) := (blk_cell BK392.out 1).trans rfl; have hfz23_0 := blk_frozen BK392.out 0; have hfz23_1 := blk_frozen BK392.out 1) | (go_at_call 65; (with_reducible refine (labels_wrong.calls ((rd_T44 l0 x11_1).f0) ((rd_T44 l0 x11_1).f1) false t393 _ ?side1 A6.out).mono ?_); (case side1 => exact ⟨Tab_below hT.out y5_⟩); rintro e w24 ⟨rfl, hb⟩; have n0_ := Aside0.mk (blk_below (g := gb392) (o := .cells #[.string ((rd_T44 l0 x11_1).f0), .string ((rd_T44 l0 x11_1).f1)] 44 (0, 0)) y4_ hb); have n1_ := Aside0.mk (below_step y5_ hb); clear BK392; clear HB; have BK392 := n0_; have HB := n1_; clear n0_ n1_; (try clear hb); (try clear hb2); (try clear hk); (try clear hi); have hcz25_0 : w24.cell? ⟨gb392, 0, none⟩ = some (.string ((rd_T44 l0 x11_1).f0)) := (blk_cell BK392.out 0).trans rfl; have hcz25_1 : w24.cell? ⟨gb392, 1, none⟩ = some (.string ((rd_T44 l0 x11_1).f1)) := (blk_cell BK392.out 1).trans rfl; have hfz25_0 := blk_frozen BK392.out 0; have hfz25_1 := blk_frozen BK392.out 1; have p394 : 0 ≤ ((ji9) : Int) := of_decide_eq_true y3_; have q394 : (ji9) < (l0.length : Int) := of_decide_eq_true y3_; obtain ⟨ad394, e394, hx394_0, hx394_1⟩ := at_T44 HR0.out (ji9) p394 q394; obtain rfl : ad391 = ad394 := (by injection e394); replace hx394_0 := (HB.out.cell (World.block_lt_of_cell? w _ hx394_0)).trans hx394_0; replace hx394_1 := (HB.out.cell (World.block_lt_of_cell? w _ hx394_1)).trans hx394_1; replace p394 := eq_true p394; replace q394 := eq_true q394)))
             go_roundg k1
             case measure => have := HK1.out; omega
             case rel => exact ⟨(wrap64 (x11_1 + 1)), y6_, H', ⟨y53_⟩, ⟨y5_⟩⟩
          ·rw [if_neg c11] at H
           exact absurd H (by simp)
         ·rw [if_neg c10] at H
          exact absurd H (by simp)
        ·rw [if_neg c8] at H
         have c8b0 : decide (0 < x11_1) = false := decide_eq_false c8
         clear c8
         have H' := Aside0.mk H
         clear H
         have p391 : 0 ≤ (x11_1 : Int) := of_decide_eq_true y3_
         have q391 : x11_1 < (l0.length : Int) := of_decide_eq_true y3_
         obtain ⟨ad391, e391, hx391_0, hx391_1⟩ := at_T44 HR0.out x11_1 p391 q391
         cases e391
         replace hx391_0 := (HB.out.cell (World.block_lt_of_cell? w _ hx391_0)).trans hx391_0
         replace hx391_1 := (HB.out.cell (World.block_lt_of_cell? w _ hx391_1)).trans hx391_1
         replace p391 := eq_true p391
         replace q391 := eq_true q391
         go_wp2_with (first | ((with_reducible refine gate_dst (N := 4) rfl ?_); refine box_event ?hg (N := 4) ?hd (cs := #[.string (⟨#[]⟩ : ByteArray), .string (⟨#[]⟩ : ByteArray)]) (t := 44) ?hr ?_; (case hd => rfl); (case hg => rfl); (case hr => first | (go_simp; done) | (go_simp; rfl)); intro gb392 hg w26 hbox hb; have n0_ := Aside0.mk (below_step y1_ hb); have n1_ := Aside0.mk (hbox); have n2_ := Aside0.mk ((y15_ : w.heap.size ≤ gb392)); have n3_ := Aside0.mk ((y15_ : w.heap.size ≤ gb392)); clear HB; have HB := n0_; have BK392 := n1_; have GW392 := n2_; have GE392 := n3_; clear n0_ n1_ n2_ n3_; clear hb hbox hg; have hcz27_0 : w26.cell? ⟨gb392, 0, none⟩ = some (.string (⟨#[]⟩ : ByteArray)) := (blk_cell BK392.out 0).trans rfl; have hcz27_1 : w26.cell? ⟨gb392, 1, none⟩ = some (.string (⟨#[]⟩ : ByteArray)) := (blk_cell BK392.out 1).trans rfl; have hfz27_0 := blk_frozen BK392.out 0; have hfz27_1 := blk_frozen BK392.out 1) | (go_at_call 65; (with_reducible refine (labels_wrong.calls ((rd_T44 l0 x11_1).f0) ((rd_T44 l0 x11_1).f1) false t393 _ ?side1 A6.out).mono ?_); (case side1 => exact ⟨Tab_below hT.out y5_⟩); rintro e w28 ⟨rfl, hb⟩; have n0_ := Aside0.mk (blk_below (g := gb392) (o := .cells #[.string ((rd_T44 l0 x11_1).f0), .string ((rd_T44 l0 x11_1).f1)] 44 (0, 0)) y4_ hb); have n1_ := Aside0.mk (below_step y5_ hb); clear BK392; clear HB; have BK392 := n0_; have HB := n1_; clear n0_ n1_; (try clear hb); (try clear hb2); (try clear hk); (try clear hi)))
         repeat (go_quiet (first | ((with_reducible refine gate_dst (N := 4) rfl ?_); refine box_event ?hg (N := 4) ?hd (cs := #[.string (⟨#[]⟩ : ByteArray), .string (⟨#[]⟩ : ByteArray)]) (t := 44) ?hr ?_; (case hd => rfl); (case hg => rfl); (case hr => first | (go_simp; done) | (go_simp; rfl)); intro gb392 hg w26 hbox hb; have n0_ := Aside0.mk (below_step y1_ hb); have n1_ := Aside0.mk (hbox); have n2_ := Aside0.mk ((y15_ : w.heap.size ≤ gb392)); have n3_ := Aside0.mk ((y15_ : w.heap.size ≤ gb392)); clear HB; have HB := n0_; have BK392 := n1_; have GW392 := n2_; have GE392 := n3_; clear n0_ n1_ n2_ n3_; clear hb hbox hg; have hcz27_0 : w26.cell? ⟨gb392, 0, none⟩ = some (.string (⟨#[]⟩ : ByteArray)) := (blk_cell BK392.out 0).trans rfl; have hcz27_1 : w26.cell? ⟨gb392, 1, none⟩ = some (.string (⟨#[]⟩ : ByteArray)) := (blk_cell BK392.out 1).trans rfl; have hfz27_0 := blk_frozen BK392.out 0; have hfz27_1 := blk_frozen BK392.out 1) | (go_at_call 65; (with_reducible refine (labels_wrong.calls ((rd_T44 l0 x11_1).f0) ((rd_T44 l0 x11_1).f1) false t393 _ ?side1 A6.out).mono ?_); (case side1 => exact ⟨Tab_below hT.out y5_⟩); rintro e w28 ⟨rfl, hb⟩; have n0_ := Aside0.mk (blk_below (g := gb392) (o := .cells #[.string ((rd_T44 l0 x11_1).f0), .string ((rd_T44 l0 x11_1).f1)] 44 (0, 0)) y4_ hb); have n1_ := Aside0.mk (below_step y5_ hb); clear BK392; clear HB; have BK392 := n0_; have HB := n1_; clear n0_ n1_; (try clear hb); (try clear hb2); (try clear hk); (try clear hi))); try go_wp2_with (first | ((with_reducible refine gate_dst (N := 4) rfl ?_); refine box_event ?hg (N := 4) ?hd (cs := #[.string (⟨#[]⟩ : ByteArray), .string (⟨#[]⟩ : ByteArray)]) (t := 44) ?hr ?_; (case hd => rfl); (case hg => rfl); (case hr => first | (go_simp; done) | (go_simp; rfl)); intro gb392 hg w26 hbox hb; have n0_ := Aside0.mk (below_step y1_ hb); have n1_ := Aside0.mk (hbox); have n2_ := Aside0.mk ((y15_ : w.heap.size ≤ gb392)); have n3_ := Aside0.mk ((y15_ : w.heap.size ≤ gb392)); clear HB; have HB := n0_; have BK392 := n1_; have GW392 := n2_; have GE392 := n3_; clear n0_ n1_ n2_ n3_; clear hb hbox hg; have hcz27_0 : w26.cell? ⟨gb392, 0, none⟩ = some (.string (⟨#[]⟩ : ByteArray)) := (blk_cell BK392.out 0).trans rfl; have hcz27_1 : w26.cell? ⟨gb392, 1, none⟩ = some (.string (⟨#[]⟩ : ByteArray)) := (blk_cell BK392.out 1).trans rfl; have hfz27_0 := blk_frozen BK392.out 0; have hfz27_1 := blk_frozen BK392.out 1) | (go_at_call 65; (with_reducible refine (labels_wrong.calls ((rd_T44 l0 x11_1).f0) ((rd_T44 l0 x11_1).f1) false t393 _ ?side1 A6.out).mono ?_); (case side1 => exact ⟨Tab_below hT.out y5_⟩); rintro e w28 ⟨rfl, hb⟩; have n0_ := Aside0.mk (blk_below (g := gb392) (o := .cells #[.string ((rd_T44 l0 x11_1).f0), .string ((rd_T44 l0 x11_1).f1)] 44 (0, 0)) y4_ hb); have n1_ := Aside0.mk (below_step y5_ hb); clear BK392; clear HB; have BK392 := n0_; have HB := n1_; clear n0_ n1_; (try clear hb); (try clear hb2); (try clear hk); (try clear hi))))
         go_roundg k1
         case measure => have := HK1.out; omega
         case rel => exact ⟨(wrap64 (x11_1 + 1)), y6_, H', ⟨y53_⟩, ⟨y5_⟩⟩
       ·rw [if_neg c7] at H
        have c7b0 : (t393 == 0) = false := beq_eq_false_iff_ne.mpr c7
        have c7b1 : (t393 != 0) = true := bne_iff_ne.mpr c7
        obtain rfl := Option.some.inj H
        have p391 : 0 ≤ (x11_1 : Int) := of_decide_eq_true y3_
        have q391 : x11_1 < (l0.length : Int) := of_decide_eq_true y3_
        obtain ⟨ad391, e391, hx391_0, hx391_1⟩ := at_T44 HR0.out x11_1 p391 q391
        cases e391
        replace hx391_0 := (HB.out.cell (World.block_lt_of_cell? w _ hx391_0)).trans hx391_0
        replace hx391_1 := (HB.out.cell (World.block_lt_of_cell? w _ hx391_1)).trans hx391_1
        replace p391 := eq_true p391
        replace q391 := eq_true q391
        go_wp2_with (first | ((with_reducible refine gate_dst (N := 4) rfl ?_); refine box_event ?hg (N := 4) ?hd (cs := #[.string (⟨#[]⟩ : ByteArray), .string (⟨#[]⟩ : ByteArray)]) (t := 44) ?hr ?_; (case hd => rfl); (case hg => rfl); (case hr => first | (go_simp; done) | (go_simp; rfl)); intro gb392 hg w29 hbox hb; have n0_ := Aside0.mk (below_step y1_ hb); have n1_ := Aside0.mk (hbox); have n2_ := Aside0.mk ((y15_ : w.heap.size ≤ gb392)); have n3_ := Aside0.mk ((y15_ : w.heap.size ≤ gb392)); clear HB; have HB := n0_; have BK392 := n1_; have GW392 := n2_; have GE392 := n3_; clear n0_ n1_ n2_ n3_; clear hb hbox hg; have hcz30_0 : w29.cell? ⟨gb392, 0, none⟩ = some (.string (⟨#[]⟩ : ByteArray)) := (blk_cell BK392.out 0).trans rfl; have hcz30_1 : w29.cell? ⟨gb392, 1, none⟩ = some (.string (⟨#[]⟩ : ByteArray)) := (blk_cell BK392.out 1).trans rfl; have hfz30_0 := blk_frozen BK392.out 0; have hfz30_1 := blk_frozen BK392.out 1) | (go_at_call 65; (with_reducible refine (labels_wrong.calls ((rd_T44 l0 x11_1).f0) ((rd_T44 l0 x11_1).f1) false t393 _ ?side1 A6.out).mono ?_); (case side1 => exact ⟨Tab_below hT.out y5_⟩); rintro e w31 ⟨rfl, hb⟩; have n0_ := Aside0.mk (blk_below (g := gb392) (o := .cells #[.string ((rd_T44 l0 x11_1).f0), .string ((rd_T44 l0 x11_1).f1)] 44 (0, 0)) y4_ hb); have n1_ := Aside0.mk (below_step y5_ hb); clear BK392; clear HB; have BK392 := n0_; have HB := n1_; clear n0_ n1_; (try clear hb); (try clear hb2); (try clear hk); (try clear hi)))
        repeat (go_quiet (first | ((with_reducible refine gate_dst (N := 4) rfl ?_); refine box_event ?hg (N := 4) ?hd (cs := #[.string (⟨#[]⟩ : ByteArray), .string (⟨#[]⟩ : ByteArray)]) (t := 44) ?hr ?_; (case hd => rfl); (case hg => rfl); (case hr => first | (go_simp; done) | (go_simp; rfl)); intro gb392 hg w29 hbox hb; have n0_ := Aside0.mk (below_step y1_ hb); have n1_ := Aside0.mk (hbox); have n2_ := Aside0.mk ((y15_ : w.heap.size ≤ gb392)); have n3_ := Aside0.mk ((y15_ : w.heap.size ≤ gb392)); clear HB; have HB := n0_; have BK392 := n1_; have GW392 := n2_; have GE392 := n3_; clear n0_ n1_ n2_ n3_; clear hb hbox hg; have hcz30_0 : w29.cell? ⟨gb392, 0, none⟩ = some (.string (⟨#[]⟩ : ByteArray)) := (blk_cell BK392.out 0).trans rfl; have hcz30_1 : w29.cell? ⟨gb392, 1, none⟩ = some (.string (⟨#[]⟩ : ByteArray)) := (blk_cell BK392.out 1).trans rfl; have hfz30_0 := blk_frozen BK392.out 0; have hfz30_1 := blk_frozen BK392.out 1) | (go_at_call 65; (with_reducible refine (labels_wrong.calls ((rd_T44 l0 x11_1).f0) ((rd_T44 l0 x11_1).f1) false t393 _ ?side1 A6.out).mono ?_); (case side1 => exact ⟨Tab_below hT.out y5_⟩); rintro e w31 ⟨rfl, hb⟩; have n0_ := Aside0.mk (blk_below (g := gb392) (o := .cells #[.string ((rd_T44 l0 x11_1).f0), .string ((rd_T44 l0 x11_1).f1)] 44 (0, 0)) y4_ hb); have n1_ := Aside0.mk (below_step y5_ hb); clear BK392; clear HB; have BK392 := n0_; have HB := n1_; clear n0_ n1_; (try clear hb); (try clear hb2); (try clear hk); (try clear hi))); try go_wp2_with (first | ((with_reducible refine gate_dst (N := 4) rfl ?_); refine box_event ?hg (N := 4) ?hd (cs := #[.string (⟨#[]⟩ : ByteArray), .string (⟨#[]⟩ : ByteArray)]) (t := 44) ?hr ?_; (case hd => rfl); (case hg => rfl); (case hr => first | (go_simp; done) | (go_simp; rfl)); intro gb392 hg w29 hbox hb; have n0_ := Aside0.mk (below_step y1_ hb); have n1_ := Aside0.mk (hbox); have n2_ := Aside0.mk ((y15_ : w.heap.size ≤ gb392)); have n3_ := Aside0.mk ((y15_ : w.heap.size ≤ gb392)); clear HB; have HB := n0_; have BK392 := n1_; have GW392 := n2_; have GE392 := n3_; clear n0_ n1_ n2_ n3_; clear hb hbox hg; have hcz30_0 : w29.cell? ⟨gb392, 0, none⟩ = some (.string (⟨#[]⟩ : ByteArray)) := (blk_cell BK392.out 0).trans rfl; have hcz30_1 : w29.cell? ⟨gb392, 1, none⟩ = some (.string (⟨#[]⟩ : ByteArray)) := (blk_cell BK392.out 1).trans rfl; have hfz30_0 := blk_frozen BK392.out 0; have hfz30_1 := blk_frozen BK392.out 1) | (go_at_call 65; (with_reducible refine (labels_wrong.calls ((rd_T44 l0 x11_1).f0) ((rd_T44 l0 x11_1).f1) false t393 _ ?side1 A6.out).mono ?_); (case side1 => exact ⟨Tab_below hT.out y5_⟩); rintro e w31 ⟨rfl, hb⟩; have n0_ := Aside0.mk (blk_below (g := gb392) (o := .cells #[.string ((rd_T44 l0 x11_1).f0), .string ((rd_T44 l0 x11_1).f1)] 44 (0, 0)) y4_ hb); have n1_ := Aside0.mk (below_step y5_ hb); clear BK392; clear HB; have BK392 := n0_; have HB := n1_; clear n0_ n1_; (try clear hb); (try clear hb2); (try clear hk); (try clear hi))))
        go_ret
        exact ⟨y7_, y5_⟩
      ·rw [if_neg c5] at H
       exact absurd H (by simp)
     ·rw [if_neg c4] at H
      exact absurd H (by simp)
    ·rw [if_neg c3] at H
     have c3b0 : decide (x11_1 < (l0.length : Int)) = false := decide_eq_false c3
     clear c3
     obtain rfl := Option.some.inj H
     go_wp2
     repeat (go_quiet (fail); try go_wp2)
     go_ret
     exact ⟨y7_, y1_⟩
end Go.Proofs.YtdhmabofncbohaaDoor.PLC
