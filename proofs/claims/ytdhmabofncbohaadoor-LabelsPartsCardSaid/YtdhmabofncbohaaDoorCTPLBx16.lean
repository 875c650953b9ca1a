import Derived.Test.YtdhmabofncbohaaDoorCTPLBx0
import Derived.Test.YtdhmabofncbohaaDoorCTPLBx2
import Derived.Test.YtdhmabofncbohaaDoorCTPLBx3
import Derived.Test.YtdhmabofncbohaaDoorCTPLBx4
import Derived.Test.YtdhmabofncbohaaDoorCTPLBx5
import Derived.Test.YtdhmabofncbohaaDoorCTPLBx6
import Derived.Test.YtdhmabofncbohaaDoorCTPLBx10
import Derived.Test.YtdhmabofncbohaaDoorCTPLBx13
import Derived.Test.YtdhmabofncbohaaDoorCTPLBx14
import Derived.Test.YtdhmabofncbohaaDoorCTL1
import Derived.Test.YtdhmabofncbohaaDoorCTY
namespace Go.Proofs.YtdhmabofncbohaaDoor.PLB
open Go.RowKit Go.Proofs.YtdhmabofncbohaaDoorW.PrintWords Go.Proofs.YtdhmabofncbohaaDoorW.PrintLast Go.Proofs.YtdhmabofncbohaaDoorW.PrintMore
attribute [local go_sem] max2_int min2_int max_two min_two max_three min_three max_four min_four
set_option linter.unusedVariables false
set_option linter.unusedSimpArgs false
def manometerlaw05_names.l0 : Nat → List ByteArray → Int → Int → Option (Bool)
 | 0, _, _, _ => none
 | k + 1, x8, x9, x10 => if x10 < x9 then (if 0 ≤ x10 then (if x10 < (x8.length : Int) then (if ((rdOf ByteArray.empty x8 x10).size : Int) > 400 then (some false) else (manometerlaw05_names.l0 k x8 x9 (wrap64 (x10 + 1)))) else (none)) else (none)) else (some true)
def manometerlaw05_names.f (k : Nat) (l0 : List ByteArray) : Option (Bool) := if (l0.length : Int) > 60 then (some false) else (manometerlaw05_names.l0 k l0 (l0.length : Int) 0)
set_option maxHeartbeats 8000000 in
set_option maxRecDepth 100000 in
theorem manometerlaw05_names.calls (k : Nat) (A0 : Option Addr) (c0 : Nat) (l0 : List ByteArray) (r : Bool) (w : World) (hr0 : Kd.C Kd.string w A0 l0.length l0) (hc0 : l0.length ≤ c0) (h : manometerlaw05_names.f k l0 = some r) :
  Calls Tryd.prog 38 #[.slice A0 l0.length c0] w fun e w' => e = .returned (.bool r) ∧ Drawn0 w w' := by
 have HR0 := Aside0.mk hr0
 have HC0 := Aside0.mk hc0
 clear hr0 hc0
 have H : (if (l0.length : Int) > 60 then (some false) else (manometerlaw05_names.l0 k l0 (l0.length : Int) 0)) = some r := h
 clear h
 by_cases c2 : (l0.length : Int) > 60
 ·rw [if_pos c2] at H
  have c2b0 : decide (60 < (l0.length : Int)) = true := decide_eq_true c2
  have c2b1 : decide (60 < l0.length) = true := decide_eq_true (by omega)
  clear c2
  obtain rfl := Option.some.inj H
  go_enter Tryd.func38, Tryd.ntmps38
  go_wp2
  go_ret
  exact ⟨y16_, y10_⟩
 ·rw [if_neg c2] at H
  have c2b0 : decide (60 < (l0.length : Int)) = false := decide_eq_false c2
  have c2b1 : decide (60 < l0.length) = false := decide_eq_false (by omega)
  clear c2
  have H' := Aside0.mk H
  clear H
  go_enter Tryd.func38, Tryd.ntmps38
  go_wp2
  go_loopg [10] k (fun kq v10 w' => ∃ (x10_1 : Int), v10 = .int .i64 x10_1 ∧ Aside0 (manometerlaw05_names.l0 kq l0 (l0.length : Int) x10_1 = some r) ∧ Aside0 (kq ≤ k) ∧ Drawn0 w w')
  case atStart => exact ⟨(0), y6_, H', ⟨Nat.le_refl _⟩, y10_⟩
  case round =>
   clear H'
   try clear c2
   try clear c2b0
   try clear c2b1
   try clear p2
   obtain ⟨x10_1, rfl, HA, HK1, ⟨m1, rfl⟩⟩ := hrel
   cases gk with
   | zero => exact absurd HA.out (by simp [manometerlaw05_names.l0])
   | succ k1 =>
    have H := HA.out
    clear HA
    simp only [manometerlaw05_names.l0] at H
    by_cases c3 : x10_1 < (l0.length : Int)
    ·rw [if_pos c3] at H
     have c3b0 : decide (x10_1 < (l0.length : Int)) = true := decide_eq_true c3
     clear c3
     by_cases c4 : 0 ≤ x10_1
     ·rw [if_pos c4] at H
      have c4b0 : decide (0 ≤ x10_1) = true := decide_eq_true c4
      clear c4
      by_cases c5 : x10_1 < (l0.length : Int)
      ·rw [if_pos c5] at H
       have c5b0 : decide (x10_1 < (l0.length : Int)) = true := decide_eq_true c5
       clear c5
       by_cases c6 : ((rdOf ByteArray.empty l0 x10_1).size : Int) > 400
       ·rw [if_pos c6] at H
        have c6b0 : decide (400 < ((rdOf ByteArray.empty l0 x10_1).size : Int)) = true := decide_eq_true c6
        have c6b1 : decide (400 < (rdOf ByteArray.empty l0 x10_1).size) = true := decide_eq_true (by omega)
        clear c6
        obtain rfl := Option.some.inj H
        have p437 : 0 ≤ (x10_1 : Int) := of_decide_eq_true y4_
        have q437 : x10_1 < (l0.length : Int) := of_decide_eq_true y4_
        obtain ⟨ad437, e437, hx437_0⟩ := Kd.at_string HR0.out x10_1 p437 q437
        cases e437
        replace p437 := eq_true p437
        replace q437 := eq_true q437
        go_wp2
        go_ret
        exact ⟨y16_, y10_⟩
       ·rw [if_neg c6] at H
        have c6b0 : decide (400 < ((rdOf ByteArray.empty l0 x10_1).size : Int)) = false := decide_eq_false c6
        have c6b1 : decide (400 < (rdOf ByteArray.empty l0 x10_1).size) = false := decide_eq_false (by omega)
        clear c6
        have H' := Aside0.mk H
        clear H
        have p437 : 0 ≤ (x10_1 : Int) := of_decide_eq_true y4_
        have q437 : x10_1 < (l0.length : Int) := of_decide_eq_true y4_
        obtain ⟨ad437, e437, hx437_0⟩ := Kd.at_string HR0.out x10_1 p437 q437
        cases e437
        replace p437 := eq_true p437
        replace q437 := eq_true q437
        go_wp2
        go_roundg k1
        case measure => have := HK1.out; omega
        case rel => exact ⟨(wrap64 (x10_1 + 1)), y6_, H', ⟨y50_⟩, y10_⟩
      ·rw [if_neg c5] at H
       exact absurd H (by simp)
     ·rw [if_neg c4] at H
      exact absurd H (by simp)
    ·rw [if_neg c3] at H
     have c3b0 : decide (x10_1 < (l0.length : Int)) = false := decide_eq_false c3
     clear c3
     obtain rfl := Option.some.inj H
     go_wp2
     go_ret
     exact ⟨y16_, y10_⟩
def labels_With.l0 : Nat → ByteArray → ByteArray → List (S44) → List (S44) → Int → Int → Option ((List (S44)) × Int)
 | 0, _, _, _, _, _, _ => none
 | k + 1, x1, x2, x9, x21, x22, x23 => if x23 < x22 then (if 0 ≤ x23 then (if x23 < (x21.length : Int) then (if ((rd_T44 x21 x23).f0).toList = x1.toList then (labels_With.l0 k x1 x2 x9 x21 x22 (wrap64 (x23 + 1))) else (if x9.length < 4398046511104 then (labels_With.l0 k x1 x2 (x9 ++ [(⟨(rd_T44 x21 x23).f0, (rd_T44 x21 x23).f1⟩ : S44)]) x21 x22 (wrap64 (x23 + 1))) else (none))) else (none)) else (none)) else (if x9.length < 4398046511104 then ((labels_Make.f k (x9 ++ [(⟨x1, x2⟩ : S44)])).bind fun bt450 => (some (bt450.1, bt450.2))) else (none))
def labels_With.f (k : Nat) (l0 : List (S44)) (a1 : ByteArray) (a2 : ByteArray) : Option ((List (S44)) × Int) := (labels_Right.f k l0).bind fun t438 => (if t438 = 0 then (if 0 ≤ (wrap64 ((l0.length : Int) + 1)) then (if (wrap64 ((l0.length : Int) + 1) : Int).toNat ≤ 8796093022208 then (labels_With.l0 k a1 a2 (List.replicate 0 z44) l0 (l0.length : Int) 0) else (none)) else (none)) else (some (([] : List (S44)), t438)))
set_option maxHeartbeats 8000000 in
set_option maxRecDepth 100000 in
theorem labels_With.calls (k : Nat) (A0 : Option Addr) (c0 : Nat) (l0 : List (S44)) (a1 : ByteArray) (a2 : ByteArray) (r1 : List (S44)) (r2 : Int) (w : World) (hT : Aside0 (Tab w)) (hr0 : Kd.C k44 w A0 l0.length l0) (hc0 : l0.length ≤ c0) (h : labels_With.f k l0 a1 a2 = some (r1, r2)) :
  Calls Tryd.prog 39 #[.slice A0 l0.length c0, .string a1, .string a2] w fun e w' => ∃ v0_ : Value, e = .returned (.tuple #[v0_, .int .i64 r2]) ∧ Kd.R k44 44 w' w.heap.size (fun _ => True) v0_ r1 ∧ Below w.heap.size w w' := by
 have hu44 := Tryd.underlying44
 have HR0 := Aside0.mk hr0
 have HC0 := Aside0.mk hc0
 clear hr0 hc0
 have HB := Aside0.mk (Below.refl w.heap.size w)
 have H : ((labels_Right.f k l0).bind fun t438 => (if t438 = 0 then (if 0 ≤ (wrap64 ((l0.length : Int) + 1)) then (if (wrap64 ((l0.length : Int) + 1) : Int).toNat ≤ 8796093022208 then (labels_With.l0 k a1 a2 (List.replicate 0 z44) l0 (l0.length : Int) 0) else (none)) else (none)) else (some (([] : List (S44)), t438)))) = some (r1, r2) := h
 clear h
 replace H := Option.bind_eq_some_iff.mp H
 obtain ⟨t438, A40, H⟩ := H
 replace H : (if t438 = 0 then (if 0 ≤ (wrap64 ((l0.length : Int) + 1)) then (if (wrap64 ((l0.length : Int) + 1) : Int).toNat ≤ 8796093022208 then (labels_With.l0 k a1 a2 (List.replicate 0 z44) l0 (l0.length : Int) 0) else (none)) else (none)) else (some (([] : List (S44)), t438))) = some (r1, r2) := H
 have A4 := Aside0.mk A40
 clear A40
 by_cases c5 : t438 = 0
 ·rw [if_pos c5] at H
  have c5b0 : (t438 == 0) = true := beq_iff_eq.mpr c5
  have c5b1 : (t438 != 0) = false := bne_eq_false_iff_eq.mpr c5
  clear c5
  obtain ⟨ji6, hji6⟩ : ∃ j_ : Int, (wrap64 ((l0.length : Int) + 1)) = j_ := ⟨_, rfl⟩
  replace H : (if 0 ≤ (ji6) then (if (ji6 : Int).toNat ≤ 8796093022208 then (labels_With.l0 k a1 a2 (List.replicate 0 z44) l0 (l0.length : Int) 0) else (none)) else (none)) = some (r1, r2) := by first | (rw [hji6] at H; exact H) | (simp only [hji6] at H ⊢; exact H)
  (try rw [hji6] at A4)
  have hji6w : (IntKind.i64.wrap ((l0.length : Int) + 1)) = ji6 := (i64_w _).trans hji6
  by_cases c7 : 0 ≤ (ji6)
  ·rw [if_pos c7] at H
   have c7b0 := eq_true c7
   have c7b1 : decide (0 ≤ (ji6)) = true := decide_eq_true c7
   clear c7
   by_cases c8 : (ji6 : Int).toNat ≤ 8796093022208
   ·rw [if_pos c8] at H
    have c8b0 := eq_true c8
    have c8b1 : decide ((ji6 : Int).toNat ≤ 8796093022208) = true := decide_eq_true c8
    clear c8
    obtain ⟨y439, hy439⟩ : ∃ y_ : List (S44), y_ = (List.replicate 0 z44) := ⟨_, rfl⟩
    replace H : (labels_With.l0 k a1 a2 y439 l0 (l0.length : Int) 0) = some (r1, r2) := by first | (rw [hy439]; with_reducible exact H) | (have H2_ := (Option.bind_some _ _).symm.trans H; rw [hy439]; with_reducible exact H2_) | (have H2_ := (Option.bind_some _ _).symm.trans H; with_reducible exact H2_) | with_reducible exact H | (rw [hy439]; exact H) | exact H
    have Ny439 := Aside0.mk hy439
    clear hy439
    have H' := Aside0.mk H
    clear H
    go_enter Tryd.func39, Tryd.ntmps39
    go_wp2_with (first | ((with_reducible refine gate_callee (f := 36) rfl ?_); refine goesL_ (some 13) rfl rfl Tryd.func36 (by kernel_rfl) rfl #[.slice A0 l0.length c0] rfl y2_ ?_; (with_reducible refine (labels_Right.calls k _ _ l0 t438 _ ?side1 ?side2 ?side3 A4.out).mono ?_); (case side1 => exact ⟨Tab_below hT.out y1_⟩); (case side2 => repeat (first | exact HR0.out | (with_reducible refine Kd.C_alloc ?_ _) | (with_reducible refine Kd.C_drewN ?_ _) | (with_reducible refine Kd.C_drew ?_))); (case side3 => exact HC0.out); rintro e w9 ⟨rfl, hb⟩; refine ⟨_, rfl, ?_⟩; have n0_ := Aside0.mk (below_step y1_ hb); clear HB; have HB := n0_; clear n0_; (try clear hb); (try clear hb2); (try clear hk); (try clear hi)) | ((with_reducible refine gate_dst (N := 20) rfl ?_); refine Kd.R_make0 k44 _ 44 rfl (N := 20) rfl 29 _ _ rfl ji6 rfl rfl Tryd.underlying29 (.agg #[(.string ⟨#[]⟩), (.string ⟨#[]⟩)]) 32 info44 rfl (by decide) (by omega) z44 (ok := fun _ => True) (okp := fun _ => True) (k44_mkM _ _ _ z44 ) (fun _ hk => hk) trivial (of_decide_eq_true y4_) (Nat.le_trans (Nat.mul_le_mul_right _ (of_decide_eq_true y4_ : ji6.toNat ≤ 8796093022208)) (by omega)) (Below.refl _ _) (Nat.le_refl _) ?_; intro v440 w10 ho11 hb hg_ hnew_; clear hg_ hnew_; (first | rw [← Ny439.out] at ho11 | (simp only [Int.reduceToNat] at ho11; rw [← Ny439.out] at ho11)); have n0_ := Aside0.mk (Kd.R_lower ho11 (below_size y1_)); have n1_ := Aside0.mk (below_step y1_ hb); clear HB; have HO441 := n0_; have HB := n1_; clear n0_ n1_; clear hb ho11))
    go_loopg [9, 23] k (fun kq v9 v23 w' => ∃ (x9_1 : List (S44)) (x23_1 : Int), v23 = .int .i64 x23_1 ∧ Aside0 (labels_With.l0 kq a1 a2 x9_1 l0 (l0.length : Int) x23_1 = some (r1, r2)) ∧ Aside0 (kq ≤ k) ∧ Aside0 (Kd.R k44 44 w' w.heap.size (fun _ => True) v9 x9_1) ∧ Aside0 (Below w.heap.size w w'))
    case atStart => exact ⟨(y439), (0), y6_, H', ⟨Nat.le_refl _⟩, ⟨by (with_reducible repeat (first | apply Kd.R_alloc | apply Kd.R_drewN | apply Kd.R_drew)); exact HO441.out⟩, ⟨y1_⟩⟩
    case round =>
     clear H'
     try clear p2
     try clear c3
     try clear c5
     try clear c5b0
     try clear c5b1
     try clear p6
     try clear c7
     try clear c7b0
     try clear c7b1
     try clear c8
     try clear c8b0
     try clear c8b1
     obtain ⟨x9_1, x23_1, rfl, HA, HK1, HO_9, HB⟩ := hrel
     cases gk with
     | zero => exact absurd HA.out (by simp [labels_With.l0])
     | succ k1 =>
      have H := HA.out
      clear HA
      simp only [labels_With.l0] at H
      by_cases c12 : x23_1 < (l0.length : Int)
      ·rw [if_pos c12] at H
       have c12b0 : decide (x23_1 < (l0.length : Int)) = true := decide_eq_true c12
       clear c12
       by_cases c13 : 0 ≤ x23_1
       ·rw [if_pos c13] at H
        have c13b0 : decide (0 ≤ x23_1) = true := decide_eq_true c13
        clear c13
        by_cases c14 : x23_1 < (l0.length : Int)
        ·rw [if_pos c14] at H
         have c14b0 : decide (x23_1 < (l0.length : Int)) = true := decide_eq_true c14
         clear c14
         by_cases c15 : ((rd_T44 l0 x23_1).f0).toList = a1.toList
         ·rw [if_pos c15] at H
          have c15b0 : (((rd_T44 l0 x23_1).f0).toList == a1.toList) = true := beq_iff_eq.mpr c15
          have c15b1 : (((rd_T44 l0 x23_1).f0).toList != a1.toList) = false := bne_eq_false_iff_eq.mpr c15
          clear c15
          have H' := Aside0.mk H
          clear H
          have p442 : 0 ≤ (x23_1 : Int) := of_decide_eq_true y4_
          have q442 : x23_1 < (l0.length : Int) := of_decide_eq_true y4_
          obtain ⟨ad442, e442, hx442_0, hx442_1⟩ := at_T44 HR0.out x23_1 p442 q442
          cases e442
          replace hx442_0 := (HB.out.cell (World.block_lt_of_cell? w _ hx442_0)).trans hx442_0
          replace hx442_1 := (HB.out.cell (World.block_lt_of_cell? w _ hx442_1)).trans hx442_1
          replace p442 := eq_true p442
          replace q442 := eq_true q442
          go_wp2_with (first | ((with_reducible refine gate_dst (N := 11) rfl ?_); refine box_event ?hg (N := 11) ?hd (cs := #[.string (⟨#[]⟩ : ByteArray), .string (⟨#[]⟩ : ByteArray)]) (t := 44) ?hr ?_; (case hd => rfl); (case hg => rfl); (case hr => first | (go_simp; done) | (go_simp; rfl)); intro gb443 hg w16 hbox hb; have n0_ := Aside0.mk (Kd.R_below (Kd.R_elderB y66_ gb443 (Nat.le_of_eq hg.symm)) hb); have n1_ := Aside0.mk (below_step y1_ hb); have n2_ := Aside0.mk (hbox); have n3_ := Aside0.mk ((y14_ : w.heap.size ≤ gb443)); have n4_ := Aside0.mk ((y14_ : w.heap.size ≤ gb443)); clear HO_9; clear HB; have HO_9 := n0_; have HB := n1_; have BK443 := n2_; have GW443 := n3_; have GE443 := n4_; clear n0_ n1_ n2_ n3_ n4_; clear hb hbox hg; have hcz17_0 : w16.cell? ⟨gb443, 0, none⟩ = some (.string (⟨#[]⟩ : ByteArray)) := (blk_cell BK443.out 0).trans rfl; have hcz17_1 : w16.cell? ⟨gb443, 1, none⟩ = some (.string (⟨#[]⟩ : ByteArray)) := (blk_cell BK443.out 1).trans rfl; have hfz17_0 := blk_frozen BK443.out 0; have hfz17_1 := blk_frozen BK443.out 1))
          go_roundg k1
          case measure => have := HK1.out; omega
          case rel => exact ⟨(x9_1), (wrap64 (x23_1 + 1)), y6_, H', ⟨y50_⟩, ⟨by (with_reducible repeat (first | apply Kd.R_alloc | apply Kd.R_drewN | apply Kd.R_drew)); exact Kd.R_mono (Kd.R_far (p := ⟨gb443, 1, none⟩) (Kd.R_far (p := ⟨gb443, 0, none⟩) (Kd.R_mono HO_9.out (fun k_ hk => (⟨hk, hk.2⟩ : _ ∧ k_ ≠ gb443))) (fun _ hk => hk.2) (.string ((rd_T44 l0 x23_1).f0))) (fun _ hk => hk.2) (.string ((rd_T44 l0 x23_1).f1))) (fun _ hk => trivial)⟩, ⟨y70_⟩⟩
         ·rw [if_neg c15] at H
          have c15b0 : (((rd_T44 l0 x23_1).f0).toList == a1.toList) = false := beq_eq_false_iff_ne.mpr c15
          have c15b1 : (((rd_T44 l0 x23_1).f0).toList != a1.toList) = true := bne_iff_ne.mpr c15
          by_cases c18 : x9_1.length < 4398046511104
          ·rw [if_pos c18] at H
           have LMc18 := Aside0.mk c18
           clear c18
           obtain ⟨y444, hy444⟩ : ∃ y_ : List (S44), y_ = (x9_1 ++ [(⟨(rd_T44 l0 x23_1).f0, (rd_T44 l0 x23_1).f1⟩ : S44)]) := ⟨_, rfl⟩
           replace H : (labels_With.l0 k1 a1 a2 y444 l0 (l0.length : Int) (wrap64 (x23_1 + 1))) = some (r1, r2) := by first | (rw [hy444]; with_reducible exact H) | (have H2_ := (Option.bind_some _ _).symm.trans H; rw [hy444]; with_reducible exact H2_) | (have H2_ := (Option.bind_some _ _).symm.trans H; with_reducible exact H2_) | with_reducible exact H | (rw [hy444]; exact H) | exact H
           have Ny444 := Aside0.mk hy444
           clear hy444
           have H' := Aside0.mk H
           clear H
           have p442 : 0 ≤ (x23_1 : Int) := of_decide_eq_true y4_
           have q442 : x23_1 < (l0.length : Int) := of_decide_eq_true y4_
           obtain ⟨ad442, e442, hx442_0, hx442_1⟩ := at_T44 HR0.out x23_1 p442 q442
           cases e442
           replace hx442_0 := (HB.out.cell (World.block_lt_of_cell? w _ hx442_0)).trans hx442_0
           replace hx442_1 := (HB.out.cell (World.block_lt_of_cell? w _ hx442_1)).trans hx442_1
           replace p442 := eq_true p442
           replace q442 := eq_true q442
           go_wp2_with (first | ((with_reducible refine gate_dst (N := 11) rfl ?_); refine box_event ?hg (N := 11) ?hd (cs := #[.string (⟨#[]⟩ : ByteArray), .string (⟨#[]⟩ : ByteArray)]) (t := 44) ?hr ?_; (case hd => rfl); (case hg => rfl); (case hr => first | (go_simp; done) | (go_simp; rfl)); intro gb443 hg w19 hbox hb; have n0_ := Aside0.mk (Kd.R_below (Kd.R_elderB y66_ gb443 (Nat.le_of_eq hg.symm)) hb); have n1_ := Aside0.mk (below_step y1_ hb); have n2_ := Aside0.mk (hbox); have n3_ := Aside0.mk ((y14_ : w.heap.size ≤ gb443)); have n4_ := Aside0.mk ((y14_ : w.heap.size ≤ gb443)); clear HO_9; clear HB; have HO_9 := n0_; have HB := n1_; have BK443 := n2_; have GW443 := n3_; have GE443 := n4_; clear n0_ n1_ n2_ n3_ n4_; clear hb hbox hg; have hcz20_0 : w19.cell? ⟨gb443, 0, none⟩ = some (.string (⟨#[]⟩ : ByteArray)) := (blk_cell BK443.out 0).trans rfl; have hcz20_1 : w19.cell? ⟨gb443, 1, none⟩ = some (.string (⟨#[]⟩ : ByteArray)) := (blk_cell BK443.out 1).trans rfl; have hfz20_0 := blk_frozen BK443.out 0; have hfz20_1 := blk_frozen BK443.out 1) | ((with_reducible refine gate_builtin (b := .append) (xs := #[.tmp 31, .tmp 33]) rfl ?_); at_builtin; refine Kd.R_append k44 (w0 := w) w.heap.size rfl (.tmp 31) (.tmp 33) 29 44 (.agg #[(.string ⟨#[]⟩), (.string ⟨#[]⟩)]) 32 rfl Tryd.underlying29 info44 rfl (by decide) (by omega) u9 x9_1 (⟨(rd_T44 l0 x23_1).f0, (rd_T44 l0 x23_1).f1⟩ : S44) [.string ((rd_T44 l0 x23_1).f0), .string ((rd_T44 l0 x23_1).f1)] (fun k_ => k_ ≠ gb443) (fun _ => False) rfl y93_ ?aP (fun _ hk => hk.elim) ?aF ?aO ?aB ?aS ?aL ?_; (case aP => exact k44_mkM _ _ _ (⟨(rd_T44 l0 x23_1).f0, (rd_T44 l0 x23_1).f1⟩ : S44)); (case aB => exact y70_); (case aF => exact (fun k_ hk => Kd.freshB (g := gb443) (o := .cells #[.string ((rd_T44 l0 x23_1).f0), .string ((rd_T44 l0 x23_1).f1)] 44 (0, 0)) y54_ k_ hk)); (case aO => exact (by (with_reducible repeat (first | apply Kd.R_alloc | apply Kd.R_drewN | apply Kd.R_drew)); exact Kd.R_mono (Kd.R_far (p := ⟨gb443, 1, none⟩) (Kd.R_far (p := ⟨gb443, 0, none⟩) (Kd.R_mono HO_9.out (fun k_ hk => (⟨hk, hk.2⟩ : _ ∧ k_ ≠ gb443))) (fun _ hk => hk.2) (.string ((rd_T44 l0 x23_1).f0))) (fun _ hk => hk.2) (.string ((rd_T44 l0 x23_1).f1))) (fun _ hk => hk.1.2))); (case aS => exact (below_size y70_)); (case aL => have := LMc18.out; omega); intro v445 w21 ho hb hg hat; rw [← Ny444.out] at ho; have n0_ := Aside0.mk (blk_grown (g := gb443) (o := .cells #[.string ((rd_T44 l0 x23_1).f0), .string ((rd_T44 l0 x23_1).f1)] 44 (0, 0)) y54_ hg (Kd.R_away HO_9.out (fun _ hk => hk.2))); have n1_ := Aside0.mk (hb); have n2_ := Aside0.mk (ho); clear BK443; clear HB; clear HO_9; have BK443 := n0_; have HB := n1_; have HO446 := n2_; clear n0_ n1_ n2_; clear ho hb hg hat))
           go_roundg k1
           case measure => have := HK1.out; omega
           case rel => exact ⟨(y444), (wrap64 (x23_1 + 1)), y6_, H', ⟨y50_⟩, ⟨by (with_reducible repeat (first | apply Kd.R_alloc | apply Kd.R_drewN | apply Kd.R_drew)); exact Kd.R_mono HO446.out (fun _ hk => trivial)⟩, ⟨y70_⟩⟩
          ·rw [if_neg c18] at H
           exact absurd H (by simp)
        ·rw [if_neg c14] at H
         exact absurd H (by simp)
       ·rw [if_neg c13] at H
        exact absurd H (by simp)
      ·rw [if_neg c12] at H
       have c12b0 : decide (x23_1 < (l0.length : Int)) = false := decide_eq_false c12
       clear c12
       by_cases c22 : x9_1.length < 4398046511104
       ·rw [if_pos c22] at H
        have LMc22 := Aside0.mk c22
        clear c22
        obtain ⟨y447, hy447⟩ : ∃ y_ : List (S44), y_ = (x9_1 ++ [(⟨a1, a2⟩ : S44)]) := ⟨_, rfl⟩
        replace H : ((labels_Make.f k1 y447).bind fun bt450 => (some (bt450.1, bt450.2))) = some (r1, r2) := by first | (rw [hy447]; with_reducible exact H) | (have H2_ := (Option.bind_some _ _).symm.trans H; rw [hy447]; with_reducible exact H2_) | (have H2_ := (Option.bind_some _ _).symm.trans H; with_reducible exact H2_) | with_reducible exact H | (rw [hy447]; exact H) | exact H
        have Ny447 := Aside0.mk hy447
        clear hy447
        replace H := Option.bind_eq_some_iff.mp H
        obtain ⟨⟨t450, t451⟩, A230, H⟩ := H
        replace H : (some (t450, t451)) = some (r1, r2) := H
        have A23 := Aside0.mk A230
        clear A230
        simp only [Option.some.injEq, Prod.mk.injEq] at H
        obtain ⟨rfl, rfl⟩ := H
        go_wp2_with (first | ((with_reducible refine gate_builtin (b := .append) (xs := #[.tmp 36, .tmp 40]) rfl ?_); at_builtin; refine Kd.R_append k44 (w0 := w) w.heap.size rfl (.tmp 36) (.tmp 40) 29 44 (.agg #[(.string ⟨#[]⟩), (.string ⟨#[]⟩)]) 32 rfl Tryd.underlying29 info44 rfl (by decide) (by omega) u9 x9_1 (⟨a1, a2⟩ : S44) [.string a1, .string a2] (fun _ => True) (fun _ => False) rfl rfl ?aP (fun _ hk => hk.elim) ?aF ?aO ?aB ?aS ?aL ?_; (case aP => exact k44_mkM _ _ _ (⟨a1, a2⟩ : S44)); (case aB => exact y1_); (case aF => exact (fun _ _ => trivial)); (case aO => exact y66_); (case aS => exact (below_size y1_)); (case aL => have := LMc22.out; omega); intro v448 w24 ho hb hg hat; rw [← Ny447.out] at ho; have n0_ := Aside0.mk (hb); have n1_ := Aside0.mk (ho); clear HB; clear HO_9; have HB := n0_; have HO449 := n1_; clear n0_ n1_; clear ho hb hg hat; obtain ⟨Ao25, co25, eo25⟩ := Kd.R_slice HO449.out; subst eo25) | ((with_reducible refine gate_callee (f := 34) rfl ?_); refine goesL_ (some 42) rfl rfl Tryd.func34 (by kernel_rfl) rfl #[.slice Ao25 y447.length co25] rfl y2_ ?_; (with_reducible refine (labels_Make.calls k1 _ _ y447 t450 t451 _ ?side1 ?side2 ?side3 A23.out).mono ?_); (case side1 => exact ⟨Tab_below hT.out y1_⟩); (case side2 => repeat (first | exact (Kd.R_reads' HO449.out).2.2 | (with_reducible refine Kd.C_alloc ?_ _) | (with_reducible refine Kd.C_drewN ?_ _) | (with_reducible refine Kd.C_drew ?_))); (case side3 => exact (Kd.R_reads' HO449.out).2.1); rintro e w26 ⟨v452, rfl, ho0, hb⟩; refine ⟨_, rfl, ?_⟩; have n0_ := Aside0.mk (Kd.R_elder' (by (with_reducible repeat (first | apply Kd.R_alloc | apply Kd.R_drewN | apply Kd.R_drew)); exact HO449.out) (Kd.R_base ho0) hb); have n1_ := Aside0.mk (Kd.R_lower (Kd.R_new' ho0 (Kd.R_lt (by (with_reducible repeat (first | apply Kd.R_alloc | apply Kd.R_drewN | apply Kd.R_drew)); exact HO449.out))) (below_size y1_)); have n2_ := Aside0.mk (below_step y1_ hb); clear HO449; clear HB; have HO449 := n0_; have HO453 := n1_; have HB := n2_; clear n0_ n1_ n2_; (try clear hb); (try clear hb2); (try clear hk); (try clear hi); (try clear ho0)))
        go_ret2
        exact ⟨_, by first | rfl | (simp [errW_none, errW_some] <;> rfl) | (simp only [← hji6]; first | rfl | (simp [errW_none, errW_some] <;> rfl)) | (simp [*, errW_none, errW_some] <;> rfl), by (with_reducible repeat (first | apply Kd.R_alloc | apply Kd.R_drewN | apply Kd.R_drew)); exact Kd.R_mono HO453.out (fun _ hk => trivial), y1_⟩
       ·rw [if_neg c22] at H
        exact absurd H (by simp)
   ·rw [if_neg c8] at H
    exact absurd H (by simp)
  ·rw [if_neg c7] at H
   exact absurd H (by simp)
 ·rw [if_neg c5] at H
  have c5b0 : (t438 == 0) = false := beq_eq_false_iff_ne.mpr c5
  have c5b1 : (t438 != 0) = true := bne_iff_ne.mpr c5
  simp only [Option.some.injEq, Prod.mk.injEq] at H
  obtain ⟨rfl, rfl⟩ := H
  go_enter Tryd.func39, Tryd.ntmps39
  go_wp2_with (first | ((with_reducible refine gate_callee (f := 36) rfl ?_); refine goesL_ (some 13) rfl rfl Tryd.func36 (by kernel_rfl) rfl #[.slice A0 l0.length c0] rfl y2_ ?_; (with_reducible refine (labels_Right.calls k _ _ l0 t438 _ ?side1 ?side2 ?side3 A4.out).mono ?_); (case side1 => exact ⟨Tab_below hT.out y1_⟩); (case side2 => repeat (first | exact HR0.out | (with_reducible refine Kd.C_alloc ?_ _) | (with_reducible refine Kd.C_drewN ?_ _) | (with_reducible refine Kd.C_drew ?_))); (case side3 => exact HC0.out); rintro e w27 ⟨rfl, hb⟩; refine ⟨_, rfl, ?_⟩; have n0_ := Aside0.mk (below_step y1_ hb); clear HB; have HB := n0_; clear n0_; (try clear hb); (try clear hb2); (try clear hk); (try clear hi)))
  go_ret2
  exact ⟨_, y9_, y18_, y1_⟩
end Go.Proofs.YtdhmabofncbohaaDoor.PLB
