import Derived.Test.YtdhmabofncbohaaDoorCLabelsBytesH17
import Derived.Test.YtdhmabofncbohaaDoorCLabelsBytesPLCx5
import Derived.Test.YtdhmabofncbohaaDoorCLabelsBytesPLCx6
import Derived.Test.YtdhmabofncbohaaDoorCLabelsBytesPLCx13
import Derived.Test.YtdhmabofncbohaaDoorCLabelsBytesPLCx22
import Derived.Test.YtdhmabofncbohaaDoorCLabelsBytesPLCx23
import Derived.Test.YtdhmabofncbohaaDoorCLabelsBytesPLCx24
import Derived.Test.YtdhmabofncbohaaDoorCLabelsBytesH19
import Derived.Test.YtdhmabofncbohaaDoorCLabelsBytesPLCx1
namespace Go.Proofs.YtdhmabofncbohaaDoor.PLC
open Go.RowKit Go.Proofs.YtdhmabofncbohaaDoorW.PrintWords Go.Proofs.YtdhmabofncbohaaDoorW.PrintLast Go.Proofs.YtdhmabofncbohaaDoorW.PrintMore
attribute [local go_sem] max2_int min2_int max_two min_two max_three min_three max_four min_four
set_option linter.unusedVariables false
set_option linter.unusedSimpArgs false
def manometerref01_Equal.l0 : Nat → List Int → List Int → Int → Int → Option (Bool)
 | 0, _, _, _, _ => none
 | k + 1, x0, x1, x12, x13 => if x13 < x12 then (if 0 ≤ x13 then (if x13 < (x0.length : Int) then (if x13 < (x1.length : Int) then (if (rd x0 x13) = (rd x1 x13) then (manometerref01_Equal.l0 k x0 x1 x12 (wrap64 (x13 + 1))) else (some false)) else (none)) else (none)) else (none)) else (some true)
def manometerref01_Equal.f (k : Nat) (l0 : List Int) (l1 : List Int) : Option (Bool) := if (l0.length : Int) = (l1.length : Int) then (manometerref01_Equal.l0 k l0 l1 (l0.length : Int) 0) else (some false)
set_option maxHeartbeats 8000000 in
set_option maxRecDepth 100000 in
theorem manometerref01_Equal.calls (k : Nat) (A0 : Option Addr) (c0 : Nat) (l0 : List Int) (A1 : Option Addr) (c1 : Nat) (l1 : List Int) (r : Bool) (w : World) (hr0 : Kd.C (Kd.int .u8) w A0 l0.length l0) (hc0 : l0.length ≤ c0) (hr1 : Kd.C (Kd.int .u8) w A1 l1.length l1) (hc1 : l1.length ≤ c1) (h : manometerref01_Equal.f k l0 l1 = some r) :
  Calls Tryd.prog 53 #[.slice A0 l0.length c0, .slice A1 l1.length c1] w fun e w' => e = .returned (.bool r) ∧ Drawn0 w w' := by
 have HR0 := Aside0.mk hr0
 have HC0 := Aside0.mk hc0
 clear hr0 hc0
 have HR1 := Aside0.mk hr1
 have HC1 := Aside0.mk hc1
 clear hr1 hc1
 have H : (if (l0.length : Int) = (l1.length : Int) then (manometerref01_Equal.l0 k l0 l1 (l0.length : Int) 0) else (some false)) = some r := h
 clear h
 by_cases c3 : (l0.length : Int) = (l1.length : Int)
 ·rw [if_pos c3] at H
  have c3b0 : ((l0.length : Int) == (l1.length : Int)) = true := beq_iff_eq.mpr c3
  have c3b1 : ((l0.length : Int) != (l1.length : Int)) = false := bne_eq_false_iff_eq.mpr c3
  have c3b2 : (l0.length == l1.length) = true := by first | simpa using c3 | (simp at c3 ⊢; omega)
  clear c3
  have H' := Aside0.mk H
  clear H
  go_enter Tryd.func53, Tryd.ntmps53
  go_wp2
  repeat (go_quiet (fail); try go_wp2)
  go_loopg [13] k (fun kq v13 w' => ∃ (x13_1 : Int), v13 = .int .i64 x13_1 ∧ Aside0 (manometerref01_Equal.l0 kq l0 l1 (l0.length : Int) x13_1 = some r) ∧ Aside0 (kq ≤ k) ∧ Drawn0 w w')
  case atStart => exact ⟨(0), y4_, H', ⟨Nat.le_refl _⟩, y6_⟩
  case round =>
   clear H'
   try clear c1
   try clear p2
   try clear c3
   try clear c3b0
   try clear c3b1
   try clear c3b2
   obtain ⟨x13_1, rfl, HA, HK1, ⟨m1, rfl⟩⟩ := hrel
   cases gk with
   | zero => exact absurd HA.out (by simp [manometerref01_Equal.l0])
   | succ k1 =>
    have H := HA.out
    clear HA
    simp only [manometerref01_Equal.l0] at H
    by_cases c4 : x13_1 < (l0.length : Int)
    ·rw [if_pos c4] at H
     have c4b0 : decide (x13_1 < (l0.length : Int)) = true := decide_eq_true c4
     clear c4
     by_cases c5 : 0 ≤ x13_1
     ·rw [if_pos c5] at H
      have c5b0 : decide (0 ≤ x13_1) = true := decide_eq_true c5
      clear c5
      by_cases c6 : x13_1 < (l0.length : Int)
      ·rw [if_pos c6] at H
       have c6b0 : decide (x13_1 < (l0.length : Int)) = true := decide_eq_true c6
       clear c6
       by_cases c7 : x13_1 < (l1.length : Int)
       ·rw [if_pos c7] at H
        have c7b0 : decide (x13_1 < (l1.length : Int)) = true := decide_eq_true c7
        clear c7
        by_cases c8 : (rd l0 x13_1) = (rd l1 x13_1)
        ·rw [if_pos c8] at H
         have c8b0 : ((rd l0 x13_1) == (rd l1 x13_1)) = true := beq_iff_eq.mpr c8
         have c8b1 : ((rd l0 x13_1) != (rd l1 x13_1)) = false := bne_eq_false_iff_eq.mpr c8
         clear c8
         have H' := Aside0.mk H
         clear H
         have p761 : 0 ≤ (x13_1 : Int) := of_decide_eq_true y3_
         have q761 : x13_1 < (l0.length : Int) := of_decide_eq_true y3_
         obtain ⟨ad761, e761, hx761_0⟩ := Kd.at_int HR0.out x13_1 p761 q761
         cases e761
         replace p761 := eq_true p761
         replace q761 := eq_true q761
         have p762 : 0 ≤ (x13_1 : Int) := of_decide_eq_true y3_
         have q762 : x13_1 < (l1.length : Int) := of_decide_eq_true y3_
         obtain ⟨ad762, e762, hx762_0⟩ := Kd.at_int HR1.out x13_1 p762 q762
         cases e762
         replace p762 := eq_true p762
         replace q762 := eq_true q762
         go_wp2
         repeat (go_quiet (fail); try go_wp2)
         go_roundg k1
         case measure => have := HK1.out; omega
         case rel => exact ⟨(wrap64 (x13_1 + 1)), y4_, H', ⟨y58_⟩, y6_⟩
        ·rw [if_neg c8] at H
         have c8b0 : ((rd l0 x13_1) == (rd l1 x13_1)) = false := beq_eq_false_iff_ne.mpr c8
         have c8b1 : ((rd l0 x13_1) != (rd l1 x13_1)) = true := bne_iff_ne.mpr c8
         obtain rfl := Option.some.inj H
         have p761 : 0 ≤ (x13_1 : Int) := of_decide_eq_true y3_
         have q761 : x13_1 < (l0.length : Int) := of_decide_eq_true y3_
         obtain ⟨ad761, e761, hx761_0⟩ := Kd.at_int HR0.out x13_1 p761 q761
         cases e761
         replace p761 := eq_true p761
         replace q761 := eq_true q761
         have p762 : 0 ≤ (x13_1 : Int) := of_decide_eq_true y3_
         have q762 : x13_1 < (l1.length : Int) := of_decide_eq_true y3_
         obtain ⟨ad762, e762, hx762_0⟩ := Kd.at_int HR1.out x13_1 p762 q762
         cases e762
         replace p762 := eq_true p762
         replace q762 := eq_true q762
         go_wp2
         repeat (go_quiet (fail); try go_wp2)
         go_ret
         exact ⟨y11_, y6_⟩
       ·rw [if_neg c7] at H
        exact absurd H (by simp)
      ·rw [if_neg c6] at H
       exact absurd H (by simp)
     ·rw [if_neg c5] at H
      exact absurd H (by simp)
    ·rw [if_neg c4] at H
     have c4b0 : decide (x13_1 < (l0.length : Int)) = false := decide_eq_false c4
     clear c4
     obtain rfl := Option.some.inj H
     go_wp2
     repeat (go_quiet (fail); try go_wp2)
     go_ret
     exact ⟨y11_, y6_⟩
 ·rw [if_neg c3] at H
  have c3b0 : ((l0.length : Int) == (l1.length : Int)) = false := beq_eq_false_iff_ne.mpr c3
  have c3b1 : ((l0.length : Int) != (l1.length : Int)) = true := bne_iff_ne.mpr c3
  have c3b2 : (l0.length == l1.length) = false := by first | simpa using c3 | (simp at c3 ⊢; omega)
  obtain rfl := Option.some.inj H
  go_enter Tryd.func53, Tryd.ntmps53
  go_wp2
  repeat (go_quiet (fail); try go_wp2)
  go_ret
  exact ⟨y11_, y6_⟩
def manometerlaw05_LabelsBytes.j0 : Nat → List (S44) → List Int → Bool → Option (Bool)
 | 0, _, _, _ => none
 | k + 1, x0, x1, x26 => if x26 = true then ((manometerlaw05_live.f k).bind fun t765 => (some t765)) else ((labels_Put.f k x0).bind fun bt766 => ((manometerref05_Put.f k x0).bind fun bt770 => ((labels_Take.f k x1).bind fun bt774 => ((manometerref05_Take.f k x1).bind fun bt779 => ((manometerref01_Equal.f k bt766.1 bt770.1).bind fun t784 => (if t784 = true then (if bt766.2 = bt770.2 then ((manometerref05_Same.f k bt774.1 bt779.1).bind fun t785 => (if t785 = true then (if bt774.2.1 = bt779.2.1 then (some (bt774.2.2 == bt779.2.2)) else (some false)) else (some false))) else (some false)) else (some false)))))))
def manometerlaw05_LabelsBytes.f (k : Nat) (l0 : List (S44)) (l1 : List Int) : Option (Bool) := (manometerlaw05_live.f k).bind fun t763 => (if t763 = true then ((manometerlaw05_few.f k l0).bind fun t764 => (if t764 = true then (manometerlaw05_LabelsBytes.j0 k l0 l1 (decide ((l1.length : Int) > 6000))) else (manometerlaw05_LabelsBytes.j0 k l0 l1 true))) else (manometerlaw05_LabelsBytes.j0 k l0 l1 true))
set_option maxHeartbeats 8000000 in
set_option maxRecDepth 100000 in
theorem manometerlaw05_LabelsBytes.calls (k : Nat) (A0 : Option Addr) (c0 : Nat) (l0 : List (S44)) (A1 : Option Addr) (c1 : Nat) (l1 : List Int) (r : Bool) (w : World) (hT : Aside0 (Tab w)) (hr0 : Kd.C k44 w A0 l0.length l0) (hc0 : l0.length ≤ c0) (hr1 : Kd.C (Kd.int .u8) w A1 l1.length l1) (hc1 : l1.length ≤ c1) (h : manometerlaw05_LabelsBytes.f k l0 l1 = some r) :
  Calls Tryd.prog 13 #[.slice A0 l0.length c0, .slice A1 l1.length c1] w fun e w' => e = .returned (.bool r) ∧ Below w.heap.size w w' := by
 have HR0 := Aside0.mk hr0
 have HC0 := Aside0.mk hc0
 clear hr0 hc0
 have HR1 := Aside0.mk hr1
 have HC1 := Aside0.mk hc1
 clear hr1 hc1
 have HB := Aside0.mk (Below.refl w.heap.size w)
 have H : ((manometerlaw05_live.f k).bind fun t763 => (if t763 = true then ((manometerlaw05_few.f k l0).bind fun t764 => (if t764 = true then (manometerlaw05_LabelsBytes.j0 k l0 l1 (decide ((l1.length : Int) > 6000))) else (manometerlaw05_LabelsBytes.j0 k l0 l1 true))) else (manometerlaw05_LabelsBytes.j0 k l0 l1 true))) = some r := h
 clear h
 have HC3 := Aside0.mk H
 clear H
 go_enter Tryd.func13, Tryd.ntmps13
 go_upto_region 1 with (fail)
 go_cut [26] (fun v26 wc => ∃ (kq : Nat) (x26_2 : Bool), v26 = .bool x26_2 ∧ Aside0 (manometerlaw05_LabelsBytes.j0 kq l0 l1 x26_2 = some r) ∧ Aside0 (kq ≤ k) ∧ Aside0 (Below w.heap.size w wc))
 case first =>
  have H := HC3.out
  clear HC3
  replace H := Option.bind_eq_some_iff.mp H
  obtain ⟨t763, A40, H⟩ := H
  replace H : (if t763 = true then ((manometerlaw05_few.f k l0).bind fun t764 => (if t764 = true then (manometerlaw05_LabelsBytes.j0 k l0 l1 (decide ((l1.length : Int) > 6000))) else (manometerlaw05_LabelsBytes.j0 k l0 l1 true))) else (manometerlaw05_LabelsBytes.j0 k l0 l1 true)) = some r := H
  have A4 := Aside0.mk A40
  clear A40
  by_cases c5 : t763 = true
  ·subst c5
   have H1 : ((manometerlaw05_few.f k l0).bind fun t764 => (if t764 = true then (manometerlaw05_LabelsBytes.j0 k l0 l1 (decide ((l1.length : Int) > 6000))) else (manometerlaw05_LabelsBytes.j0 k l0 l1 true))) = some r := by rw [if_pos rfl] at H; exact H
   clear H
   have H := H1
   clear H1
   replace H := Option.bind_eq_some_iff.mp H
   obtain ⟨t764, A60, H⟩ := H
   replace H : (if t764 = true then (manometerlaw05_LabelsBytes.j0 k l0 l1 (decide ((l1.length : Int) > 6000))) else (manometerlaw05_LabelsBytes.j0 k l0 l1 true)) = some r := H
   have A6 := Aside0.mk A60
   clear A60
   by_cases c7 : t764 = true
   ·subst c7
    have H1 : (manometerlaw05_LabelsBytes.j0 k l0 l1 (decide ((l1.length : Int) > 6000))) = some r := by rw [if_pos rfl] at H; exact H
    clear H
    have H := H1
    clear H1
    have H' := Aside0.mk H
    clear H
    go_wp2_with (first | ((with_reducible refine gate_callee (f := 15) rfl ?_); refine goesL_ (some 15) rfl rfl Tryd.func15 (by kernel_rfl) rfl #[] rfl y2_ ?_; (with_reducible refine (manometerlaw05_live.calls k  true _ ?side1 A4.out).mono ?_); (case side1 => exact ⟨Tab_below hT.out y1_⟩); rintro e w8 ⟨rfl, hb⟩; refine ⟨_, rfl, ?_⟩; have n0_ := Aside0.mk (below_step y1_ hb); clear HB; have HB := n0_; clear n0_; (try clear hb); (try clear hb2); (try clear hk); (try clear hi)) | (go_at_call 24; (with_reducible refine (manometerlaw05_few.calls k _ _ l0 true _ ?side1 ?side2 A6.out).mono ?_); (case side1 => repeat (first | exact (Kd.C_below HR0.out HB.out) | (with_reducible refine Kd.C_alloc ?_ _) | (with_reducible refine Kd.C_drewN ?_ _) | (with_reducible refine Kd.C_drew ?_))); (case side2 => exact HC0.out); rintro e w9 ⟨rfl, hb⟩; have n0_ := Aside0.mk (below_step y1_ hb); clear HB; have HB := n0_; clear n0_; (try clear hb); (try clear hb2); (try clear hk); (try clear hi)))
    go_meet
    case rel => exact ⟨_, (decide ((l1.length : Int) > 6000)), y4_, H', ⟨by first | omega | exact Nat.le_refl _⟩, ⟨y1_⟩⟩
   ·replace c7 := Bool.eq_false_iff.mpr c7
    subst c7
    have H1 : (manometerlaw05_LabelsBytes.j0 k l0 l1 true) = some r := by rw [if_neg (show ¬ (false = true) by decide)] at H; exact H
    clear H
    have H := H1
    clear H1
    have H' := Aside0.mk H
    clear H
    go_wp2_with (first | ((with_reducible refine gate_callee (f := 15) rfl ?_); refine goesL_ (some 15) rfl rfl Tryd.func15 (by kernel_rfl) rfl #[] rfl y2_ ?_; (with_reducible refine (manometerlaw05_live.calls k  true _ ?side1 A4.out).mono ?_); (case side1 => exact ⟨Tab_below hT.out y1_⟩); rintro e w10 ⟨rfl, hb⟩; refine ⟨_, rfl, ?_⟩; have n0_ := Aside0.mk (below_step y1_ hb); clear HB; have HB := n0_; clear n0_; (try clear hb); (try clear hb2); (try clear hk); (try clear hi)) | (go_at_call 24; (with_reducible refine (manometerlaw05_few.calls k _ _ l0 false _ ?side1 ?side2 A6.out).mono ?_); (case side1 => repeat (first | exact (Kd.C_below HR0.out HB.out) | (with_reducible refine Kd.C_alloc ?_ _) | (with_reducible refine Kd.C_drewN ?_ _) | (with_reducible refine Kd.C_drew ?_))); (case side2 => exact HC0.out); rintro e w11 ⟨rfl, hb⟩; have n0_ := Aside0.mk (below_step y1_ hb); clear HB; have HB := n0_; clear n0_; (try clear hb); (try clear hb2); (try clear hk); (try clear hi)))
    go_meet
    case rel => exact ⟨_, (true), y4_, H', ⟨by first | omega | exact Nat.le_refl _⟩, ⟨y1_⟩⟩
  ·replace c5 := Bool.eq_false_iff.mpr c5
   subst c5
   have H1 : (manometerlaw05_LabelsBytes.j0 k l0 l1 true) = some r := by rw [if_neg (show ¬ (false = true) by decide)] at H; exact H
   clear H
   have H := H1
   clear H1
   have H' := Aside0.mk H
   clear H
   go_wp2_with (first | ((with_reducible refine gate_callee (f := 15) rfl ?_); refine goesL_ (some 15) rfl rfl Tryd.func15 (by kernel_rfl) rfl #[] rfl y2_ ?_; (with_reducible refine (manometerlaw05_live.calls k  false _ ?side1 A4.out).mono ?_); (case side1 => exact ⟨Tab_below hT.out y1_⟩); rintro e w12 ⟨rfl, hb⟩; refine ⟨_, rfl, ?_⟩; have n0_ := Aside0.mk (below_step y1_ hb); clear HB; have HB := n0_; clear n0_; (try clear hb); (try clear hb2); (try clear hk); (try clear hi)))
   go_meet
   case rel => exact ⟨_, (true), y4_, H', ⟨by first | omega | exact Nat.le_refl _⟩, ⟨y1_⟩⟩
 case rest =>
  clear HC3
  try clear c1
  try clear p2
  try clear c5
  try clear c7
  obtain ⟨kq, x26_2, rfl, HA, HJ2, HB⟩ := hcut
  cases kq with
  | zero => exact absurd HA.out (by simp [manometerlaw05_LabelsBytes.j0])
  | succ kj2 =>
   have H := HA.out
   clear HA
   simp only [manometerlaw05_LabelsBytes.j0] at H
   by_cases c13 : x26_2 = true
   ·subst c13
    have H1 : ((manometerlaw05_live.f kj2).bind fun t765 => (some t765)) = some r := by rw [if_pos rfl] at H; exact H
    clear H
    have H := H1
    clear H1
    replace H := Option.bind_eq_some_iff.mp H
    obtain ⟨t765, A140, H⟩ := H
    replace H : (some t765) = some r := H
    have A14 := Aside0.mk A140
    clear A140
    obtain rfl := Option.some.inj H
    go_wp2_with (first | ((with_reducible refine gate_callee (f := 15) rfl ?_); refine goesL_ (some 27) rfl rfl Tryd.func15 (by kernel_rfl) rfl #[] rfl y2_ ?_; (with_reducible refine (manometerlaw05_live.calls kj2  t765 _ ?side1 A14.out).mono ?_); (case side1 => exact ⟨Tab_below hT.out y1_⟩); rintro e w15 ⟨rfl, hb⟩; refine ⟨_, rfl, ?_⟩; have n0_ := Aside0.mk (below_step y1_ hb); clear HB; have HB := n0_; clear n0_; (try clear hb); (try clear hb2); (try clear hk); (try clear hi)))
    go_ret
    exact ⟨y7_, y1_⟩
   ·replace c13 := Bool.eq_false_iff.mpr c13
    subst c13
    have H1 : ((labels_Put.f kj2 l0).bind fun bt766 => ((manometerref05_Put.f kj2 l0).bind fun bt770 => ((labels_Take.f kj2 l1).bind fun bt774 => ((manometerref05_Take.f kj2 l1).bind fun bt779 => ((manometerref01_Equal.f kj2 bt766.1 bt770.1).bind fun t784 => (if t784 = true then (if bt766.2 = bt770.2 then ((manometerref05_Same.f kj2 bt774.1 bt779.1).bind fun t785 => (if t785 = true then (if bt774.2.1 = bt779.2.1 then (some (bt774.2.2 == bt779.2.2)) else (some false)) else (some false))) else (some false)) else (some false))))))) = some r := by rw [if_neg (show ¬ (false = true) by decide)] at H; exact H
    clear H
    have H := H1
    clear H1
    replace H := Option.bind_eq_some_iff.mp H
    obtain ⟨⟨t766, t767⟩, A160, H⟩ := H
    replace H : ((manometerref05_Put.f kj2 l0).bind fun bt770 => ((labels_Take.f kj2 l1).bind fun bt774 => ((manometerref05_Take.f kj2 l1).bind fun bt779 => ((manometerref01_Equal.f kj2 t766 bt770.1).bind fun t784 => (if t784 = true then (if t767 = bt770.2 then ((manometerref05_Same.f kj2 bt774.1 bt779.1).bind fun t785 => (if t785 = true then (if bt774.2.1 = bt779.2.1 then (some (bt774.2.2 == bt779.2.2)) else (some false)) else (some false))) else (some false)) else (some false)))))) = some r := H
    have A16 := Aside0.mk A160
    clear A160
    replace H := Option.bind_eq_some_iff.mp H
    obtain ⟨⟨t770, t771⟩, A170, H⟩ := H
    replace H : ((labels_Take.f kj2 l1).bind fun bt774 => ((manometerref05_Take.f kj2 l1).bind fun bt779 => ((manometerref01_Equal.f kj2 t766 t770).bind fun t784 => (if t784 = true then (if t767 = t771 then ((manometerref05_Same.f kj2 bt774.1 bt779.1).bind fun t785 => (if t785 = true then (if bt774.2.1 = bt779.2.1 then (some (bt774.2.2 == bt779.2.2)) else (some false)) else (some false))) else (some false)) else (some false))))) = some r := H
    have A17 := Aside0.mk A170
    clear A170
    replace H := Option.bind_eq_some_iff.mp H
    obtain ⟨⟨t774, t775, t776⟩, A180, H⟩ := H
    replace H : ((manometerref05_Take.f kj2 l1).bind fun bt779 => ((manometerref01_Equal.f kj2 t766 t770).bind fun t784 => (if t784 = true then (if t767 = t771 then ((manometerref05_Same.f kj2 t774 bt779.1).bind fun t785 => (if t785 = true then (if t775 = bt779.2.1 then (some (t776 == bt779.2.2)) else (some false)) else (some false))) else (some false)) else (some false)))) = some r := H
    have A18 := Aside0.mk A180
    clear A180
    replace H := Option.bind_eq_some_iff.mp H
    obtain ⟨⟨t779, t782, t783⟩, A190, H⟩ := H
    replace H : ((manometerref01_Equal.f kj2 t766 t770).bind fun t784 => (if t784 = true then (if t767 = t771 then ((manometerref05_Same.f kj2 t774 t779).bind fun t785 => (if t785 = true then (if t775 = t782 then (some (t776 == t783)) else (some false)) else (some false))) else (some false)) else (some false))) = some r := H
    have A19 := Aside0.mk A190
    clear A190
    replace H := Option.bind_eq_some_iff.mp H
    obtain ⟨t784, A200, H⟩ := H
    replace H : (if t784 = true then (if t767 = t771 then ((manometerref05_Same.f kj2 t774 t779).bind fun t785 => (if t785 = true then (if t775 = t782 then (some (t776 == t783)) else (some false)) else (some false))) else (some false)) else (some false)) = some r := H
    have A20 := Aside0.mk A200
    clear A200
    by_cases c21 : t784 = true
    ·subst c21
     have H1 : (if t767 = t771 then ((manometerref05_Same.f kj2 t774 t779).bind fun t785 => (if t785 = true then (if t775 = t782 then (some (t776 == t783)) else (some false)) else (some false))) else (some false)) = some r := by rw [if_pos rfl] at H; exact H
     clear H
     have H := H1
     clear H1
     by_cases c22 : t767 = t771
     ·rw [if_pos c22] at H
      have c22b0 : (t767 == t771) = true := beq_iff_eq.mpr c22
      have c22b1 : (t767 != t771) = false := bne_eq_false_iff_eq.mpr c22
      clear c22
      replace H := Option.bind_eq_some_iff.mp H
      obtain ⟨t785, A230, H⟩ := H
      replace H : (if t785 = true then (if t775 = t782 then (some (t776 == t783)) else (some false)) else (some false)) = some r := H
      have A23 := Aside0.mk A230
      clear A230
      by_cases c24 : t785 = true
      ·subst c24
       have H1 : (if t775 = t782 then (some (t776 == t783)) else (some false)) = some r := by rw [if_pos rfl] at H; exact H
       clear H
       have H := H1
       clear H1
       by_cases c25 : t775 = t782
       ·rw [if_pos c25] at H
        have c25b0 : (t775 == t782) = true := beq_iff_eq.mpr c25
        have c25b1 : (t775 != t782) = false := bne_eq_false_iff_eq.mpr c25
        clear c25
        obtain rfl := Option.some.inj H
        go_wp2_with (first | ((with_reducible refine gate_callee (f := 49) rfl ?_); refine goesL_ (some 30) rfl rfl Tryd.func49 (by kernel_rfl) rfl #[.slice A0 l0.length c0] rfl y2_ ?_; (with_reducible refine (labels_Put.calls kj2 _ _ l0 t766 t767 _ ?side1 ?side2 ?side3 A16.out).mono ?_); (case side1 => exact ⟨Tab_below hT.out y1_⟩); (case side2 => repeat (first | exact (Kd.C_below HR0.out HB.out) | (with_reducible refine Kd.C_alloc ?_ _) | (with_reducible refine Kd.C_drewN ?_ _) | (with_reducible refine Kd.C_drew ?_))); (case side3 => exact HC0.out); rintro e w26 ⟨v768, rfl, ho0, hb⟩; refine ⟨_, rfl, ?_⟩; have n0_ := Aside0.mk (Kd.R_lower ho0 (below_size y1_)); have n1_ := Aside0.mk (below_step y1_ hb); clear HB; have HO769 := n0_; have HB := n1_; clear n0_ n1_; (try clear hb); (try clear hb2); (try clear hk); (try clear hi); (try clear ho0)) | ((with_reducible refine gate_callee (f := 50) rfl ?_); refine goesL_ (some 35) rfl rfl Tryd.func50 (by kernel_rfl) rfl #[.slice A0 l0.length c0] rfl y2_ ?_; (with_reducible refine (manometerref05_Put.calls kj2 _ _ l0 t770 t771 _ ?side1 ?side2 A17.out).mono ?_); (case side1 => repeat (first | exact (Kd.C_below HR0.out HB.out) | (with_reducible refine Kd.C_alloc ?_ _) | (with_reducible refine Kd.C_drewN ?_ _) | (with_reducible refine Kd.C_drew ?_))); (case side2 => exact HC0.out); rintro e w27 ⟨v772, rfl, ho0, hb⟩; refine ⟨_, rfl, ?_⟩; have n0_ := Aside0.mk (Kd.R_elder' y17_ (Kd.R_base ho0) hb); have n1_ := Aside0.mk (Kd.R_lower (Kd.R_new' ho0 (Kd.R_lt y17_)) (below_size y1_)); have n2_ := Aside0.mk (below_step y1_ hb); clear HO769; clear HB; have HO769 := n0_; have HO773 := n1_; have HB := n2_; clear n0_ n1_ n2_; (try clear hb); (try clear hb2); (try clear hk); (try clear hi); (try clear ho0)) | ((with_reducible refine gate_callee (f := 51) rfl ?_); refine goesL_ (some 40) rfl rfl Tryd.func51 (by kernel_rfl) rfl #[.slice A1 l1.length c1] rfl y2_ ?_; (with_reducible refine (labels_Take.calls kj2 _ _ l1 t774 t775 t776 _ ?side1 ?side2 ?side3 A18.out).mono ?_); (case side1 => exact ⟨Tab_below hT.out y1_⟩); (case side2 => repeat (first | exact (Kd.C_below HR1.out HB.out) | (with_reducible refine Kd.C_alloc ?_ _) | (with_reducible refine Kd.C_drewN ?_ _) | (with_reducible refine Kd.C_drew ?_))); (case side3 => exact HC1.out); rintro e w28 ⟨v777, rfl, ho0, hb⟩; refine ⟨_, rfl, ?_⟩; have n0_ := Aside0.mk (Kd.R_below y17_ hb); have n1_ := Aside0.mk (Kd.R_below y37_ hb); have n2_ := Aside0.mk (Kd.R_lower ho0 (below_size y1_)); have n3_ := Aside0.mk (below_step y1_ hb); clear HO769; clear HO773; clear HB; have HO769 := n0_; have HO773 := n1_; have HO778 := n2_; have HB := n3_; clear n0_ n1_ n2_ n3_; (try clear hb); (try clear hb2); (try clear hk); (try clear hi); (try clear ho0)) | ((with_reducible refine gate_callee (f := 52) rfl ?_); refine goesL_ (some 46) rfl rfl Tryd.func52 (by kernel_rfl) rfl #[.slice A1 l1.length c1] rfl y2_ ?_; (with_reducible refine (manometerref05_Take.calls kj2 (fun k_ => k_ < w.heap.size) _ _ l1 t779 t782 t783 _ ?side1 A19.out).mono ?_); (case side1 => exact Kd.V_mk HC1.out (Kd.F_below (Kd.C_F (Kd.heap_int .u8) HR1.out) y1_)); rintro e w29 ⟨v780, rfl, ho0, hb⟩; refine ⟨_, rfl, ?_⟩; have n0_ := Aside0.mk (Kd.R_below y17_ hb); have n1_ := Aside0.mk (Kd.R_below y37_ hb); have n2_ := Aside0.mk (Kd.R_elder' y36_ (Kd.R_base ho0) hb); have n3_ := Aside0.mk (Kd.R_lower (Kd.R_new' (Kd.R_mono (ok' := fun k_ => True) ho0 (fun _ hk_ => trivial)) (Kd.R_lt y36_)) (below_size y1_)); have n4_ := Aside0.mk (below_step y1_ hb); clear HO769; clear HO773; clear HO778; clear HB; have HO769 := n0_; have HO773 := n1_; have HO778 := n2_; have HO781 := n3_; have HB := n4_; clear n0_ n1_ n2_ n3_ n4_; (try clear hb); (try clear hb2); (try clear hk); (try clear hi); (try clear ho0); obtain ⟨Ao30, co30, eo30⟩ := Kd.R_slice HO769.out; subst eo30; obtain ⟨Ao31, co31, eo31⟩ := Kd.R_slice HO773.out; subst eo31) | ((with_reducible refine gate_callee (f := 53) rfl ?_); refine goesL_ (some 52) rfl rfl Tryd.func53 (by kernel_rfl) rfl #[.slice Ao30 t766.length co30, .slice Ao31 t770.length co31] rfl y2_ ?_; (with_reducible refine (manometerref01_Equal.calls kj2 _ _ t766 _ _ t770 true _ ?side1 ?side2 ?side3 ?side4 A20.out).mono ?_); (case side1 => repeat (first | exact (Kd.R_reads' HO769.out).2.2 | (with_reducible refine Kd.C_alloc ?_ _) | (with_reducible refine Kd.C_drewN ?_ _) | (with_reducible refine Kd.C_drew ?_))); (case side2 => exact (Kd.R_reads' HO769.out).2.1); (case side3 => repeat (first | exact (Kd.R_reads' HO773.out).2.2 | (with_reducible refine Kd.C_alloc ?_ _) | (with_reducible refine Kd.C_drewN ?_ _) | (with_reducible refine Kd.C_drew ?_))); (case side4 => exact (Kd.R_reads' HO773.out).2.1); rintro e w' ⟨rfl, ⟨nd, rfl⟩⟩; refine ⟨_, rfl, ?_⟩; obtain ⟨Ao32, co32, eo32⟩ := Kd.R_slice HO778.out; subst eo32; obtain ⟨Ao33, co33, eo33⟩ := Kd.R_slice HO781.out; subst eo33) | (go_at_call 29; (with_reducible refine (manometerref05_Same.calls kj2 _ _ t774 _ _ t779 true _ ?side1 ?side2 ?side3 ?side4 A23.out).mono ?_); (case side1 => repeat (first | exact (Kd.R_reads' HO778.out).2.2 | (with_reducible refine Kd.C_alloc ?_ _) | (with_reducible refine Kd.C_drewN ?_ _) | (with_reducible refine Kd.C_drew ?_))); (case side2 => exact (Kd.R_reads' HO778.out).2.1); (case side3 => repeat (first | exact (Kd.R_reads' HO781.out).2.2 | (with_reducible refine Kd.C_alloc ?_ _) | (with_reducible refine Kd.C_drewN ?_ _) | (with_reducible refine Kd.C_drew ?_))); (case side4 => exact (Kd.R_reads' HO781.out).2.1); rintro e w' ⟨rfl, ⟨nd, rfl⟩⟩))
        go_ret
        exact ⟨y7_, y1_⟩
       ·rw [if_neg c25] at H
        have c25b0 : (t775 == t782) = false := beq_eq_false_iff_ne.mpr c25
        have c25b1 : (t775 != t782) = true := bne_iff_ne.mpr c25
        obtain rfl := Option.some.inj H
        go_wp2_with (first | ((with_reducible refine gate_callee (f := 49) rfl ?_); refine goesL_ (some 30) rfl rfl Tryd.func49 (by kernel_rfl) rfl #[.slice A0 l0.length c0] rfl y2_ ?_; (with_reducible refine (labels_Put.calls kj2 _ _ l0 t766 t767 _ ?side1 ?side2 ?side3 A16.out).mono ?_); (case side1 => exact ⟨Tab_below hT.out y1_⟩); (case side2 => repeat (first | exact (Kd.C_below HR0.out HB.out) | (with_reducible refine Kd.C_alloc ?_ _) | (with_reducible refine Kd.C_drewN ?_ _) | (with_reducible refine Kd.C_drew ?_))); (case side3 => exact HC0.out); rintro e w34 ⟨v768, rfl, ho0, hb⟩; refine ⟨_, rfl, ?_⟩; have n0_ := Aside0.mk (Kd.R_lower ho0 (below_size y1_)); have n1_ := Aside0.mk (below_step y1_ hb); clear HB; have HO769 := n0_; have HB := n1_; clear n0_ n1_; (try clear hb); (try clear hb2); (try clear hk); (try clear hi); (try clear ho0)) | ((with_reducible refine gate_callee (f := 50) rfl ?_); refine goesL_ (some 35) rfl rfl Tryd.func50 (by kernel_rfl) rfl #[.slice A0 l0.length c0] rfl y2_ ?_; (with_reducible refine (manometerref05_Put.calls kj2 _ _ l0 t770 t771 _ ?side1 ?side2 A17.out).mono ?_); (case side1 => repeat (first | exact (Kd.C_below HR0.out HB.out) | (with_reducible refine Kd.C_alloc ?_ _) | (with_reducible refine Kd.C_drewN ?_ _) | (with_reducible refine Kd.C_drew ?_))); (case side2 => exact HC0.out); rintro e w35 ⟨v772, rfl, ho0, hb⟩; refine ⟨_, rfl, ?_⟩; have n0_ := Aside0.mk (Kd.R_elder' y17_ (Kd.R_base ho0) hb); have n1_ := Aside0.mk (Kd.R_lower (Kd.R_new' ho0 (Kd.R_lt y17_)) (below_size y1_)); have n2_ := Aside0.mk (below_step y1_ hb); clear HO769; clear HB; have HO769 := n0_; have HO773 := n1_; have HB := n2_; clear n0_ n1_ n2_; (try clear hb); (try clear hb2); (try clear hk); (try clear hi); (try clear ho0)) | ((with_reducible refine gate_callee (f := 51) rfl ?_); refine goesL_ (some 40) rfl rfl Tryd.func51 (by kernel_rfl) rfl #[.slice A1 l1.length c1] rfl y2_ ?_; (with_reducible refine (labels_Take.calls kj2 _ _ l1 t774 t775 t776 _ ?side1 ?side2 ?side3 A18.out).mono ?_); (case side1 => exact ⟨Tab_below hT.out y1_⟩); (case side2 => repeat (first | exact (Kd.C_below HR1.out HB.out) | (with_reducible refine Kd.C_alloc ?_ _) | (with_reducible refine Kd.C_drewN ?_ _) | (with_reducible refine Kd.C_drew ?_))); (case side3 => exact HC1.out); rintro e w36 ⟨v777, rfl, ho0, hb⟩; refine ⟨_, rfl, ?_⟩; have n0_ := Aside0.mk (Kd.R_below y17_ hb); have n1_ := Aside0.mk (Kd.R_below y37_ hb); have n2_ := Aside0.mk (Kd.R_lower ho0 (below_size y1_)); have n3_ := Aside0.mk (below_step y1_ hb); clear HO769; clear HO773; clear HB; have HO769 := n0_; have HO773 := n1_; have HO778 := n2_; have HB := n3_; clear n0_ n1_ n2_ n3_; (try clear hb); (try clear hb2); (try clear hk); (try clear hi); (try clear ho0)) | ((with_reducible refine gate_callee (f := 52) rfl ?_); refine goesL_ (some 46) rfl rfl Tryd.func52 (by kernel_rfl) rfl #[.slice A1 l1.length c1] rfl y2_ ?_; (with_reducible refine (manometerref05_Take.calls kj2 (fun k_ => k_ < w.heap.size) _ _ l1 t779 t782 t783 _ ?side1 A19.out).mono ?_); (case side1 => exact Kd.V_mk HC1.out (Kd.F_below (Kd.C_F (Kd.heap_int .u8) HR1.out) y1_)); rintro e w37 ⟨v780, rfl, ho0, hb⟩; refine ⟨_, rfl, ?_⟩; have n0_ := Aside0.mk (Kd.R_below y17_ hb); have n1_ := Aside0.mk (Kd.R_below y37_ hb); have n2_ := Aside0.mk (Kd.R_elder' y36_ (Kd.R_base ho0) hb); have n3_ := Aside0.mk (Kd.R_lower (Kd.R_new' (Kd.R_mono (ok' := fun k_ => True) ho0 (fun _ hk_ => trivial)) (Kd.R_lt y36_)) (below_size y1_)); have n4_ := Aside0.mk (below_step y1_ hb); clear HO769; clear HO773; clear HO778; clear HB; have HO769 := n0_; have HO773 := n1_; have HO778 := n2_; have HO781 := n3_; have HB := n4_; clear n0_ n1_ n2_ n3_ n4_; (try clear hb); (try clear hb2); (try clear hk); (try clear hi); (try clear ho0); obtain ⟨Ao38, co38, eo38⟩ := Kd.R_slice HO769.out; subst eo38; obtain ⟨Ao39, co39, eo39⟩ := Kd.R_slice HO773.out; subst eo39) | ((with_reducible refine gate_callee (f := 53) rfl ?_); refine goesL_ (some 52) rfl rfl Tryd.func53 (by kernel_rfl) rfl #[.slice Ao38 t766.length co38, .slice Ao39 t770.length co39] rfl y2_ ?_; (with_reducible refine (manometerref01_Equal.calls kj2 _ _ t766 _ _ t770 true _ ?side1 ?side2 ?side3 ?side4 A20.out).mono ?_); (case side1 => repeat (first | exact (Kd.R_reads' HO769.out).2.2 | (with_reducible refine Kd.C_alloc ?_ _) | (with_reducible refine Kd.C_drewN ?_ _) | (with_reducible refine Kd.C_drew ?_))); (case side2 => exact (Kd.R_reads' HO769.out).2.1); (case side3 => repeat (first | exact (Kd.R_reads' HO773.out).2.2 | (with_reducible refine Kd.C_alloc ?_ _) | (with_reducible refine Kd.C_drewN ?_ _) | (with_reducible refine Kd.C_drew ?_))); (case side4 => exact (Kd.R_reads' HO773.out).2.1); rintro e w' ⟨rfl, ⟨nd, rfl⟩⟩; refine ⟨_, rfl, ?_⟩; obtain ⟨Ao40, co40, eo40⟩ := Kd.R_slice HO778.out; subst eo40; obtain ⟨Ao41, co41, eo41⟩ := Kd.R_slice HO781.out; subst eo41) | (go_at_call 29; (with_reducible refine (manometerref05_Same.calls kj2 _ _ t774 _ _ t779 true _ ?side1 ?side2 ?side3 ?side4 A23.out).mono ?_); (case side1 => repeat (first | exact (Kd.R_reads' HO778.out).2.2 | (with_reducible refine Kd.C_alloc ?_ _) | (with_reducible refine Kd.C_drewN ?_ _) | (with_reducible refine Kd.C_drew ?_))); (case side2 => exact (Kd.R_reads' HO778.out).2.1); (case side3 => repeat (first | exact (Kd.R_reads' HO781.out).2.2 | (with_reducible refine Kd.C_alloc ?_ _) | (with_reducible refine Kd.C_drewN ?_ _) | (with_reducible refine Kd.C_drew ?_))); (case side4 => exact (Kd.R_reads' HO781.out).2.1); rintro e w' ⟨rfl, ⟨nd, rfl⟩⟩))
        go_ret
        exact ⟨y7_, y1_⟩
      ·replace c24 := Bool.eq_false_iff.mpr c24
       subst c24
       have H1 : (some false) = some r := by rw [if_neg (show ¬ (false = true) by decide)] at H; exact H
       clear H
       have H := H1
       clear H1
       obtain rfl := Option.some.inj H
       go_wp2_with (first | ((with_reducible refine gate_callee (f := 49) rfl ?_); refine goesL_ (some 30) rfl rfl Tryd.func49 (by kernel_rfl) rfl #[.slice A0 l0.length c0] rfl y2_ ?_; (with_reducible refine (labels_Put.calls kj2 _ _ l0 t766 t767 _ ?side1 ?side2 ?side3 A16.out).mono ?_); (case side1 => exact ⟨Tab_below hT.out y1_⟩); (case side2 => repeat (first | exact (Kd.C_below HR0.out HB.out) | (with_reducible refine Kd.C_alloc ?_ _) | (with_reducible refine Kd.C_drewN ?_ _) | (with_reducible refine Kd.C_drew ?_))); (case side3 => exact HC0.out); rintro e w42 ⟨v768, rfl, ho0, hb⟩; refine ⟨_, rfl, ?_⟩; have n0_ := Aside0.mk (Kd.R_lower ho0 (below_size y1_)); have n1_ := Aside0.mk (below_step y1_ hb); clear HB; have HO769 := n0_; have HB := n1_; clear n0_ n1_; (try clear hb); (try clear hb2); (try clear hk); (try clear hi); (try clear ho0)) | ((with_reducible refine gate_callee (f := 50) rfl ?_); refine goesL_ (some 35) rfl rfl Tryd.func50 (by kernel_rfl) rfl #[.slice A0 l0.length c0] rfl y2_ ?_; (with_reducible refine (manometerref05_Put.calls kj2 _ _ l0 t770 t771 _ ?side1 ?side2 A17.out).mono ?_); (case side1 => repeat (first | exact (Kd.C_below HR0.out HB.out) | (with_reducible refine Kd.C_alloc ?_ _) | (with_reducible refine Kd.C_drewN ?_ _) | (with_reducible refine Kd.C_drew ?_))); (case side2 => exact HC0.out); rintro e w43 ⟨v772, rfl, ho0, hb⟩; refine ⟨_, rfl, ?_⟩; have n0_ := Aside0.mk (Kd.R_elder' y17_ (Kd.R_base ho0) hb); have n1_ := Aside0.mk (Kd.R_lower (Kd.R_new' ho0 (Kd.R_lt y17_)) (below_size y1_)); have n2_ := Aside0.mk (below_step y1_ hb); clear HO769; clear HB; have HO769 := n0_; have HO773 := n1_; have HB := n2_; clear n0_ n1_ n2_; (try clear hb); (try clear hb2); (try clear hk); (try clear hi); (try clear ho0)) | ((with_reducible refine gate_callee (f := 51) rfl ?_); refine goesL_ (some 40) rfl rfl Tryd.func51 (by kernel_rfl) rfl #[.slice A1 l1.length c1] rfl y2_ ?_; (with_reducible refine (labels_Take.calls kj2 _ _ l1 t774 t775 t776 _ ?side1 ?side2 ?side3 A18.out).mono ?_); (case side1 => exact ⟨Tab_below hT.out y1_⟩); (case side2 => repeat (first | exact (Kd.C_below HR1.out HB.out) | (with_reducible refine Kd.C_alloc ?_ _) | (with_reducible refine Kd.C_drewN ?_ _) | (with_reducible refine Kd.C_drew ?_))); (case side3 => exact HC1.out); rintro e w44 ⟨v777, rfl, ho0, hb⟩; refine ⟨_, rfl, ?_⟩; have n0_ := Aside0.mk (Kd.R_below y17_ hb); have n1_ := Aside0.mk (Kd.R_below y37_ hb); have n2_ := Aside0.mk (Kd.R_lower ho0 (below_size y1_)); have n3_ := Aside0.mk (below_step y1_ hb); clear HO769; clear HO773; clear HB; have HO769 := n0_; have HO773 := n1_; have HO778 := n2_; have HB := n3_; clear n0_ n1_ n2_ n3_; (try clear hb); (try clear hb2); (try clear hk); (try clear hi); (try clear ho0)) | ((with_reducible refine gate_callee (f := 52) rfl ?_); refine goesL_ (some 46) rfl rfl Tryd.func52 (by kernel_rfl) rfl #[.slice A1 l1.length c1] rfl y2_ ?_; (with_reducible refine (manometerref05_Take.calls kj2 (fun k_ => k_ < w.heap.size) _ _ l1 t779 t782 t783 _ ?side1 A19.out).mono ?_); (case side1 => exact Kd.V_mk HC1.out (Kd.F_below (Kd.C_F (Kd.heap_int .u8) HR1.out) y1_)); rintro e w45 ⟨v780, rfl, ho0, hb⟩; refine ⟨_, rfl, ?_⟩; have n0_ := Aside0.mk (Kd.R_below y17_ hb); have n1_ := Aside0.mk (Kd.R_below y37_ hb); have n2_ := Aside0.mk (Kd.R_elder' y36_ (Kd.R_base ho0) hb); have n3_ := Aside0.mk (Kd.R_lower (Kd.R_new' (Kd.R_mono (ok' := fun k_ => True) ho0 (fun _ hk_ => trivial)) (Kd.R_lt y36_)) (below_size y1_)); have n4_ := Aside0.mk (below_step y1_ hb); clear HO769; clear HO773; clear HO778; clear HB; have HO769 := n0_; have HO773 := n1_; have HO778 := n2_; have HO781 := n3_; have HB := n4_; clear n0_ n1_ n2_ n3_ n4_; (try clear hb); (try clear hb2); (try clear hk); (try clear hi); (try clear ho0); obtain ⟨Ao46, co46, eo46⟩ := Kd.R_slice HO769.out; subst eo46; obtain ⟨Ao47, co47, eo47⟩ := Kd.R_slice HO773.out; subst eo47) | ((with_reducible refine gate_callee (f := 53) rfl ?_); refine goesL_ (some 52) rfl rfl Tryd.func53 (by kernel_rfl) rfl #[.slice Ao46 t766.length co46, .slice Ao47 t770.length co47] rfl y2_ ?_; (with_reducible refine (manometerref01_Equal.calls kj2 _ _ t766 _ _ t770 true _ ?side1 ?side2 ?side3 ?side4 A20.out).mono ?_); (case side1 => repeat (first | exact (Kd.R_reads' HO769.out).2.2 | (with_reducible refine Kd.C_alloc ?_ _) | (with_reducible refine Kd.C_drewN ?_ _) | (with_reducible refine Kd.C_drew ?_))); (case side2 => exact (Kd.R_reads' HO769.out).2.1); (case side3 => repeat (first | exact (Kd.R_reads' HO773.out).2.2 | (with_reducible refine Kd.C_alloc ?_ _) | (with_reducible refine Kd.C_drewN ?_ _) | (with_reducible refine Kd.C_drew ?_))); (case side4 => exact (Kd.R_reads' HO773.out).2.1); rintro e w' ⟨rfl, ⟨nd, rfl⟩⟩; refine ⟨_, rfl, ?_⟩; obtain ⟨Ao48, co48, eo48⟩ := Kd.R_slice HO778.out; subst eo48; obtain ⟨Ao49, co49, eo49⟩ := Kd.R_slice HO781.out; subst eo49) | (go_at_call 29; (with_reducible refine (manometerref05_Same.calls kj2 _ _ t774 _ _ t779 false _ ?side1 ?side2 ?side3 ?side4 A23.out).mono ?_); (case side1 => repeat (first | exact (Kd.R_reads' HO778.out).2.2 | (with_reducible refine Kd.C_alloc ?_ _) | (with_reducible refine Kd.C_drewN ?_ _) | (with_reducible refine Kd.C_drew ?_))); (case side2 => exact (Kd.R_reads' HO778.out).2.1); (case side3 => repeat (first | exact (Kd.R_reads' HO781.out).2.2 | (with_reducible refine Kd.C_alloc ?_ _) | (with_reducible refine Kd.C_drewN ?_ _) | (with_reducible refine Kd.C_drew ?_))); (case side4 => exact (Kd.R_reads' HO781.out).2.1); rintro e w' ⟨rfl, ⟨nd, rfl⟩⟩))
       go_ret
       exact ⟨y7_, y1_⟩
     ·rw [if_neg c22] at H
      have c22b0 : (t767 == t771) = false := beq_eq_false_iff_ne.mpr c22
      have c22b1 : (t767 != t771) = true := bne_iff_ne.mpr c22
      obtain rfl := Option.some.inj H
      go_wp2_with (first | ((with_reducible refine gate_callee (f := 49) rfl ?_); refine goesL_ (some 30) rfl rfl Tryd.func49 (by kernel_rfl) rfl #[.slice A0 l0.length c0] rfl y2_ ?_; (with_reducible refine (labels_Put.calls kj2 _ _ l0 t766 t767 _ ?side1 ?side2 ?side3 A16.out).mono ?_); (case side1 => exact ⟨Tab_below hT.out y1_⟩); (case side2 => repeat (first | exact (Kd.C_below HR0.out HB.out) | (with_reducible refine Kd.C_alloc ?_ _) | (with_reducible refine Kd.C_drewN ?_ _) | (with_reducible refine Kd.C_drew ?_))); (case side3 => exact HC0.out); rintro e w50 ⟨v768, rfl, ho0, hb⟩; refine ⟨_, rfl, ?_⟩; have n0_ := Aside0.mk (Kd.R_lower ho0 (below_size y1_)); have n1_ := Aside0.mk (below_step y1_ hb); clear HB; have HO769 := n0_; have HB := n1_; clear n0_ n1_; (try clear hb); (try clear hb2); (try clear hk); (try clear hi); (try clear ho0)) | ((with_reducible refine gate_callee (f := 50) rfl ?_); refine goesL_ (some 35) rfl rfl Tryd.func50 (by kernel_rfl) rfl #[.slice A0 l0.length c0] rfl y2_ ?_; (with_reducible refine (manometerref05_Put.calls kj2 _ _ l0 t770 t771 _ ?side1 ?side2 A17.out).mono ?_); (case side1 => repeat (first | exact (Kd.C_below HR0.out HB.out) | (with_reducible refine Kd.C_alloc ?_ _) | (with_reducible refine Kd.C_drewN ?_ _) | (with_reducible refine Kd.C_drew ?_))); (case side2 => exact HC0.out); rintro e w51 ⟨v772, rfl, ho0, hb⟩; refine ⟨_, rfl, ?_⟩; have n0_ := Aside0.mk (Kd.R_elder' y17_ (Kd.R_base ho0) hb); have n1_ := Aside0.mk (Kd.R_lower (Kd.R_new' ho0 (Kd.R_lt y17_)) (below_size y1_)); have n2_ := Aside0.mk (below_step y1_ hb); clear HO769; clear HB; have HO769 := n0_; have HO773 := n1_; have HB := n2_; clear n0_ n1_ n2_; (try clear hb); (try clear hb2); (try clear hk); (try clear hi); (try clear ho0)) | ((with_reducible refine gate_callee (f := 51) rfl ?_); refine goesL_ (some 40) rfl rfl Tryd.func51 (by kernel_rfl) rfl #[.slice A1 l1.length c1] rfl y2_ ?_; (with_reducible refine (labels_Take.calls kj2 _ _ l1 t774 t775 t776 _ ?side1 ?side2 ?side3 A18.out).mono ?_); (case side1 => exact ⟨Tab_below hT.out y1_⟩); (case side2 => repeat (first | exact (Kd.C_below HR1.out HB.out) | (with_reducible refine Kd.C_alloc ?_ _) | (with_reducible refine Kd.C_drewN ?_ _) | (with_reducible refine Kd.C_drew ?_))); (case side3 => exact HC1.out); rintro e w52 ⟨v777, rfl, ho0, hb⟩; refine ⟨_, rfl, ?_⟩; have n0_ := Aside0.mk (Kd.R_below y17_ hb); have n1_ := Aside0.mk (Kd.R_below y37_ hb); have n2_ := Aside0.mk (Kd.R_lower ho0 (below_size y1_)); have n3_ := Aside0.mk (below_step y1_ hb); clear HO769; clear HO773; clear HB; have HO769 := n0_; have HO773 := n1_; have HO778 := n2_; have HB := n3_; clear n0_ n1_ n2_ n3_; (try clear hb); (try clear hb2); (try clear hk); (try clear hi); (try clear ho0)) | ((with_reducible refine gate_callee (f := 52) rfl ?_); refine goesL_ (some 46) rfl rfl Tryd.func52 (by kernel_rfl) rfl #[.slice A1 l1.length c1] rfl y2_ ?_; (with_reducible refine (manometerref05_Take.calls kj2 (fun k_ => k_ < w.heap.size) _ _ l1 t779 t782 t783 _ ?side1 A19.out).mono ?_); (case side1 => exact Kd.V_mk HC1.out (Kd.F_below (Kd.C_F (Kd.heap_int .u8) HR1.out) y1_)); rintro e w53 ⟨v780, rfl, ho0, hb⟩; refine ⟨_, rfl, ?_⟩; have n0_ := Aside0.mk (Kd.R_below y17_ hb); have n1_ := Aside0.mk (Kd.R_below y37_ hb); have n2_ := Aside0.mk (Kd.R_elder' y36_ (Kd.R_base ho0) hb); have n3_ := Aside0.mk (Kd.R_lower (Kd.R_new' (Kd.R_mono (ok' := fun k_ => True) ho0 (fun _ hk_ => trivial)) (Kd.R_lt y36_)) (below_size y1_)); have n4_ := Aside0.mk (below_step y1_ hb); clear HO769; clear HO773; clear HO778; clear HB; have HO769 := n0_; have HO773 := n1_; have HO778 := n2_; have HO781 := n3_; have HB := n4_; clear n0_ n1_ n2_ n3_ n4_; (try clear hb); (try clear hb2); (try clear hk); (try clear hi); (try clear ho0); obtain ⟨Ao54, co54, eo54⟩ := Kd.R_slice HO769.out; subst eo54; obtain ⟨Ao55, co55, eo55⟩ := Kd.R_slice HO773.out; subst eo55) | ((with_reducible refine gate_callee (f := 53) rfl ?_); refine goesL_ (some 52) rfl rfl Tryd.func53 (by kernel_rfl) rfl #[.slice Ao54 t766.length co54, .slice Ao55 t770.length co55] rfl y2_ ?_; (with_reducible refine (manometerref01_Equal.calls kj2 _ _ t766 _ _ t770 true _ ?side1 ?side2 ?side3 ?side4 A20.out).mono ?_); (case side1 => repeat (first | exact (Kd.R_reads' HO769.out).2.2 | (with_reducible refine Kd.C_alloc ?_ _) | (with_reducible refine Kd.C_drewN ?_ _) | (with_reducible refine Kd.C_drew ?_))); (case side2 => exact (Kd.R_reads' HO769.out).2.1); (case side3 => repeat (first | exact (Kd.R_reads' HO773.out).2.2 | (with_reducible refine Kd.C_alloc ?_ _) | (with_reducible refine Kd.C_drewN ?_ _) | (with_reducible refine Kd.C_drew ?_))); (case side4 => exact (Kd.R_reads' HO773.out).2.1); rintro e w' ⟨rfl, ⟨nd, rfl⟩⟩; refine ⟨_, rfl, ?_⟩))
      go_ret
      exact ⟨y7_, y1_⟩
    ·replace c21 := Bool.eq_false_iff.mpr c21
     subst c21
     have H1 : (some false) = some r := by rw [if_neg (show ¬ (false = true) by decide)] at H; exact H
     clear H
     have H := H1
     clear H1
     obtain rfl := Option.some.inj H
     go_wp2_with (first | ((with_reducible refine gate_callee (f := 49) rfl ?_); refine goesL_ (some 30) rfl rfl Tryd.func49 (by kernel_rfl) rfl #[.slice A0 l0.length c0] rfl y2_ ?_; (with_reducible refine (labels_Put.calls kj2 _ _ l0 t766 t767 _ ?side1 ?side2 ?side3 A16.out).mono ?_); (case side1 => exact ⟨Tab_below hT.out y1_⟩); (case side2 => repeat (first | exact (Kd.C_below HR0.out HB.out) | (with_reducible refine Kd.C_alloc ?_ _) | (with_reducible refine Kd.C_drewN ?_ _) | (with_reducible refine Kd.C_drew ?_))); (case side3 => exact HC0.out); rintro e w56 ⟨v768, rfl, ho0, hb⟩; refine ⟨_, rfl, ?_⟩; have n0_ := Aside0.mk (Kd.R_lower ho0 (below_size y1_)); have n1_ := Aside0.mk (below_step y1_ hb); clear HB; have HO769 := n0_; have HB := n1_; clear n0_ n1_; (try clear hb); (try clear hb2); (try clear hk); (try clear hi); (try clear ho0)) | ((with_reducible refine gate_callee (f := 50) rfl ?_); refine goesL_ (some 35) rfl rfl Tryd.func50 (by kernel_rfl) rfl #[.slice A0 l0.length c0] rfl y2_ ?_; (with_reducible refine (manometerref05_Put.calls kj2 _ _ l0 t770 t771 _ ?side1 ?side2 A17.out).mono ?_); (case side1 => repeat (first | exact (Kd.C_below HR0.out HB.out) | (with_reducible refine Kd.C_alloc ?_ _) | (with_reducible refine Kd.C_drewN ?_ _) | (with_reducible refine Kd.C_drew ?_))); (case side2 => exact HC0.out); rintro e w57 ⟨v772, rfl, ho0, hb⟩; refine ⟨_, rfl, ?_⟩; have n0_ := Aside0.mk (Kd.R_elder' y17_ (Kd.R_base ho0) hb); have n1_ := Aside0.mk (Kd.R_lower (Kd.R_new' ho0 (Kd.R_lt y17_)) (below_size y1_)); have n2_ := Aside0.mk (below_step y1_ hb); clear HO769; clear HB; have HO769 := n0_; have HO773 := n1_; have HB := n2_; clear n0_ n1_ n2_; (try clear hb); (try clear hb2); (try clear hk); (try clear hi); (try clear ho0)) | ((with_reducible refine gate_callee (f := 51) rfl ?_); refine goesL_ (some 40) rfl rfl Tryd.func51 (by kernel_rfl) rfl #[.slice A1 l1.length c1] rfl y2_ ?_; (with_reducible refine (labels_Take.calls kj2 _ _ l1 t774 t775 t776 _ ?side1 ?side2 ?side3 A18.out).mono ?_); (case side1 => exact ⟨Tab_below hT.out y1_⟩); (case side2 => repeat (first | exact (Kd.C_below HR1.out HB.out) | (with_reducible refine Kd.C_alloc ?_ _) | (with_reducible refine Kd.C_drewN ?_ _) | (with_reducible refine Kd.C_drew ?_))); (case side3 => exact HC1.out); rintro e w58 ⟨v777, rfl, ho0, hb⟩; refine ⟨_, rfl, ?_⟩; have n0_ := Aside0.mk (Kd.R_below y17_ hb); have n1_ := Aside0.mk (Kd.R_below y37_ hb); have n2_ := Aside0.mk (Kd.R_lower ho0 (below_size y1_)); have n3_ := Aside0.mk (below_step y1_ hb); clear HO769; clear HO773; clear HB; have HO769 := n0_; have HO773 := n1_; have HO778 := n2_; have HB := n3_; clear n0_ n1_ n2_ n3_; (try clear hb); (try clear hb2); (try clear hk); (try clear hi); (try clear ho0)) | ((with_reducible refine gate_callee (f := 52) rfl ?_); refine goesL_ (some 46) rfl rfl Tryd.func52 (by kernel_rfl) rfl #[.slice A1 l1.length c1] rfl y2_ ?_; (with_reducible refine (manometerref05_Take.calls kj2 (fun k_ => k_ < w.heap.size) _ _ l1 t779 t782 t783 _ ?side1 A19.out).mono ?_); (case side1 => exact Kd.V_mk HC1.out (Kd.F_below (Kd.C_F (Kd.heap_int .u8) HR1.out) y1_)); rintro e w59 ⟨v780, rfl, ho0, hb⟩; refine ⟨_, rfl, ?_⟩; have n0_ := Aside0.mk (Kd.R_below y17_ hb); have n1_ := Aside0.mk (Kd.R_below y37_ hb); have n2_ := Aside0.mk (Kd.R_elder' y36_ (Kd.R_base ho0) hb); have n3_ := Aside0.mk (Kd.R_lower (Kd.R_new' (Kd.R_mono (ok' := fun k_ => True) ho0 (fun _ hk_ => trivial)) (Kd.R_lt y36_)) (below_size y1_)); have n4_ := Aside0.mk (below_step y1_ hb); clear HO769; clear HO773; clear HO778; clear HB; have HO769 := n0_; have HO773 := n1_; have HO778 := n2_; have HO781 := n3_; have HB := n4_; clear n0_ n1_ n2_ n3_ n4_; (try clear hb); (try clear hb2); (try clear hk); (try clear hi); (try clear ho0); obtain ⟨Ao60, co60, eo60⟩ := Kd.R_slice HO769.out; subst eo60; obtain ⟨Ao61, co61, eo61⟩ := Kd.R_slice HO773.out; subst eo61) | ((with_reducible refine gate_callee (f := 53) rfl ?_); refine goesL_ (some 52) rfl rfl Tryd.func53 (by kernel_rfl) rfl #[.slice Ao60 t766.length co60, .slice Ao61 t770.length co61] rfl y2_ ?_; (with_reducible refine (manometerref01_Equal.calls kj2 _ _ t766 _ _ t770 false _ ?side1 ?side2 ?side3 ?side4 A20.out).mono ?_); (case side1 => repeat (first | exact (Kd.R_reads' HO769.out).2.2 | (with_reducible refine Kd.C_alloc ?_ _) | (with_reducible refine Kd.C_drewN ?_ _) | (with_reducible refine Kd.C_drew ?_))); (case side2 => exact (Kd.R_reads' HO769.out).2.1); (case side3 => repeat (first | exact (Kd.R_reads' HO773.out).2.2 | (with_reducible refine Kd.C_alloc ?_ _) | (with_reducible refine Kd.C_drewN ?_ _) | (with_reducible refine Kd.C_drew ?_))); (case side4 => exact (Kd.R_reads' HO773.out).2.1); rintro e w' ⟨rfl, ⟨nd, rfl⟩⟩; refine ⟨_, rfl, ?_⟩))
     go_ret
     exact ⟨y7_, y1_⟩
end Go.Proofs.YtdhmabofncbohaaDoor.PLC
