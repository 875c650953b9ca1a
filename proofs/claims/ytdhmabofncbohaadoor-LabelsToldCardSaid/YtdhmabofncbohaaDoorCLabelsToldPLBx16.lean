import Derived.Test.YtdhmabofncbohaaDoorCLabelsToldL1
import Derived.Test.YtdhmabofncbohaaDoorCLabelsToldPLBx2
import Derived.Test.YtdhmabofncbohaaDoorCLabelsToldPLBx3
import Derived.Test.YtdhmabofncbohaaDoorCLabelsToldPLBx4
import Derived.Test.YtdhmabofncbohaaDoorCLabelsToldPLBx5
import Derived.Test.YtdhmabofncbohaaDoorCLabelsToldPLBx6
import Derived.Test.YtdhmabofncbohaaDoorCLabelsToldPLBx13
import Derived.Test.YtdhmabofncbohaaDoorCLabelsToldPLBx14
namespace Go.Proofs.YtdhmabofncbohaaDoor.PLB
open Go.RowKit Go.Proofs.YtdhmabofncbohaaDoorW.PrintWords Go.Proofs.YtdhmabofncbohaaDoorW.PrintLast Go.Proofs.YtdhmabofncbohaaDoorW.PrintMore
attribute [local go_sem] max2_int min2_int max_two min_two max_three min_three max_four min_four
set_option linter.unusedVariables false
set_option linter.unusedSimpArgs false
mutual
def manometerlaw05_LabelsTold.j0 : Nat → List (S44) → ByteArray → ByteArray → Bool → Option (Bool)
 | 0, _, _, _, _ => none
 | k + 1, x0, x1, x2, x30 => if x30 = true then ((manometerlaw05_live.f k).bind fun t420 => (some t420)) else ((labels_Quote.f k x1).bind fun t421 => (if t421.size + x2.size ≤ 9223372036854775807 then ((labels_Unquote.f k (t421 ++ x2)).bind fun bt422 => (if bt422.1.toList = x1.toList then (if bt422.2.1 = (t421.size : Int) then (manometerlaw05_LabelsTold.j1 k x0 (bt422.2.2 != 0)) else (manometerlaw05_LabelsTold.j1 k x0 true)) else (manometerlaw05_LabelsTold.j1 k x0 true))) else (none)))
def manometerlaw05_LabelsTold.j1 : Nat → List (S44) → Bool → Option (Bool)
 | 0, _, _ => none
 | k + 1, x0, x54 => if x54 = true then (some false) else ((labels_Right.f k x0).bind fun t425 => (if t425 = 0 then ((labels_Print.f k x0).bind fun t426 => ((labels_Parse.f k t426).bind fun bt427 => ((labels_Make.f k x0).bind fun bt431 => (if bt427.2 = 0 then (if bt431.2 = 0 then ((labels_Same.f k x0 bt427.1).bind fun t435 => (if t435 = true then ((labels_Same.f k x0 bt431.1).bind fun t436 => (some t436)) else (some false))) else (some false)) else (some false))))) else (some true)))
end
def manometerlaw05_LabelsTold.f (k : Nat) (l0 : List (S44)) (a1 : ByteArray) (a2 : ByteArray) : Option (Bool) := (manometerlaw05_live.f k).bind fun t418 => (if t418 = true then ((manometerlaw05_few.f k l0).bind fun t419 => (if t419 = true then (if (a1.size : Int) > 2000 then (manometerlaw05_LabelsTold.j0 k l0 a1 a2 true) else (manometerlaw05_LabelsTold.j0 k l0 a1 a2 (decide ((a2.size : Int) > 2000)))) else (manometerlaw05_LabelsTold.j0 k l0 a1 a2 true))) else (manometerlaw05_LabelsTold.j0 k l0 a1 a2 true))
set_option maxHeartbeats 8000000 in
set_option maxRecDepth 100000 in
theorem manometerlaw05_LabelsTold.calls (k : Nat) (A0 : Option Addr) (c0 : Nat) (l0 : List (S44)) (a1 : ByteArray) (a2 : ByteArray) (r : Bool) (w : World) (hT : Aside0 (Tab w)) (hr0 : Kd.C k44 w A0 l0.length l0) (hc0 : l0.length ≤ c0) (h : manometerlaw05_LabelsTold.f k l0 a1 a2 = some r) :
  Calls Tryd.prog 9 #[.slice A0 l0.length c0, .string a1, .string a2] w fun e w' => e = .returned (.bool r) ∧ Below w.heap.size w w' := by
 have HR0 := Aside0.mk hr0
 have HC0 := Aside0.mk hc0
 clear hr0 hc0
 have HB := Aside0.mk (Below.refl w.heap.size w)
 have H : ((manometerlaw05_live.f k).bind fun t418 => (if t418 = true then ((manometerlaw05_few.f k l0).bind fun t419 => (if t419 = true then (if (a1.size : Int) > 2000 then (manometerlaw05_LabelsTold.j0 k l0 a1 a2 true) else (manometerlaw05_LabelsTold.j0 k l0 a1 a2 (decide ((a2.size : Int) > 2000)))) else (manometerlaw05_LabelsTold.j0 k l0 a1 a2 true))) else (manometerlaw05_LabelsTold.j0 k l0 a1 a2 true))) = some r := h
 clear h
 have HC4 := Aside0.mk H
 clear H
 go_enter Tryd.func9, Tryd.ntmps9
 go_upto_region 1 with (fail)
 go_cut [30] (fun v30 wc => ∃ (kq : Nat) (x30_3 : Bool), v30 = .bool x30_3 ∧ Aside0 (manometerlaw05_LabelsTold.j0 kq l0 a1 a2 x30_3 = some r) ∧ Aside0 (kq ≤ k) ∧ Aside0 (Below w.heap.size w wc))
 case first =>
  have H := HC4.out
  clear HC4
  replace H := Option.bind_eq_some_iff.mp H
  obtain ⟨t418, A50, H⟩ := H
  replace H : (if t418 = true then ((manometerlaw05_few.f k l0).bind fun t419 => (if t419 = true then (if (a1.size : Int) > 2000 then (manometerlaw05_LabelsTold.j0 k l0 a1 a2 true) else (manometerlaw05_LabelsTold.j0 k l0 a1 a2 (decide ((a2.size : Int) > 2000)))) else (manometerlaw05_LabelsTold.j0 k l0 a1 a2 true))) else (manometerlaw05_LabelsTold.j0 k l0 a1 a2 true)) = some r := H
  have A5 := Aside0.mk A50
  clear A50
  by_cases c6 : t418 = true
  ·subst c6
   have H1 : ((manometerlaw05_few.f k l0).bind fun t419 => (if t419 = true then (if (a1.size : Int) > 2000 then (manometerlaw05_LabelsTold.j0 k l0 a1 a2 true) else (manometerlaw05_LabelsTold.j0 k l0 a1 a2 (decide ((a2.size : Int) > 2000)))) else (manometerlaw05_LabelsTold.j0 k l0 a1 a2 true))) = some r := by rw [if_pos rfl] at H; exact H
   clear H
   have H := H1
   clear H1
   replace H := Option.bind_eq_some_iff.mp H
   obtain ⟨t419, A70, H⟩ := H
   replace H : (if t419 = true then (if (a1.size : Int) > 2000 then (manometerlaw05_LabelsTold.j0 k l0 a1 a2 true) else (manometerlaw05_LabelsTold.j0 k l0 a1 a2 (decide ((a2.size : Int) > 2000)))) else (manometerlaw05_LabelsTold.j0 k l0 a1 a2 true)) = some r := H
   have A7 := Aside0.mk A70
   clear A70
   by_cases c8 : t419 = true
   ·subst c8
    have H1 : (if (a1.size : Int) > 2000 then (manometerlaw05_LabelsTold.j0 k l0 a1 a2 true) else (manometerlaw05_LabelsTold.j0 k l0 a1 a2 (decide ((a2.size : Int) > 2000)))) = some r := by rw [if_pos rfl] at H; exact H
    clear H
    have H := H1
    clear H1
    by_cases c9 : (a1.size : Int) > 2000
    ·rw [if_pos c9] at H
     have c9b0 : decide (2000 < (a1.size : Int)) = true := decide_eq_true c9
     have c9b1 : decide (2000 < a1.size) = true := decide_eq_true (by omega)
     clear c9
     (first | rw [c9b0] | (simp only [i64_w, i32_w]; rw [c9b0]) | skip)
     have H' := Aside0.mk H
     clear H
     go_wp2_with (first | ((with_reducible refine gate_callee (f := 15) rfl ?_); refine goesL_ (some 14) rfl rfl Tryd.func15 (by kernel_rfl) rfl #[] rfl y2_ ?_; (with_reducible refine (manometerlaw05_live.calls k  true _ ?side1 A5.out).mono ?_); (case side1 => exact ⟨Tab_below hT.out y1_⟩); rintro e w10 ⟨rfl, hb⟩; refine ⟨_, rfl, ?_⟩; have n0_ := Aside0.mk (below_step y1_ hb); clear HB; have HB := n0_; clear n0_; (try clear hb); (try clear hb2); (try clear hk); (try clear hi)) | (go_at_call 24; (with_reducible refine (manometerlaw05_few.calls k _ _ l0 true _ ?side1 ?side2 A7.out).mono ?_); (case side1 => repeat (first | exact (Kd.C_below HR0.out HB.out) | (with_reducible refine Kd.C_alloc ?_ _) | (with_reducible refine Kd.C_drewN ?_ _) | (with_reducible refine Kd.C_drew ?_))); (case side2 => exact HC0.out); rintro e w11 ⟨rfl, hb⟩; have n0_ := Aside0.mk (below_step y1_ hb); clear HB; have HB := n0_; clear n0_; (try clear hb); (try clear hb2); (try clear hk); (try clear hi)))
     go_meet
     case rel => exact ⟨_, (true), y6_, H', ⟨by first | omega | exact Nat.le_refl _⟩, ⟨y1_⟩⟩
    ·rw [if_neg c9] at H
     have c9b0 : decide (2000 < (a1.size : Int)) = false := decide_eq_false c9
     have c9b1 : decide (2000 < a1.size) = false := decide_eq_false (by omega)
     clear c9
     (first | rw [c9b0] | (simp only [i64_w, i32_w]; rw [c9b0]) | skip)
     have H' := Aside0.mk H
     clear H
     go_wp2_with (first | ((with_reducible refine gate_callee (f := 15) rfl ?_); refine goesL_ (some 14) rfl rfl Tryd.func15 (by kernel_rfl) rfl #[] rfl y2_ ?_; (with_reducible refine (manometerlaw05_live.calls k  true _ ?side1 A5.out).mono ?_); (case side1 => exact ⟨Tab_below hT.out y1_⟩); rintro e w12 ⟨rfl, hb⟩; refine ⟨_, rfl, ?_⟩; have n0_ := Aside0.mk (below_step y1_ hb); clear HB; have HB := n0_; clear n0_; (try clear hb); (try clear hb2); (try clear hk); (try clear hi)) | (go_at_call 24; (with_reducible refine (manometerlaw05_few.calls k _ _ l0 true _ ?side1 ?side2 A7.out).mono ?_); (case side1 => repeat (first | exact (Kd.C_below HR0.out HB.out) | (with_reducible refine Kd.C_alloc ?_ _) | (with_reducible refine Kd.C_drewN ?_ _) | (with_reducible refine Kd.C_drew ?_))); (case side2 => exact HC0.out); rintro e w13 ⟨rfl, hb⟩; have n0_ := Aside0.mk (below_step y1_ hb); clear HB; have HB := n0_; clear n0_; (try clear hb); (try clear hb2); (try clear hk); (try clear hi)))
     go_meet
     case rel => exact ⟨_, (decide ((a2.size : Int) > 2000)), y6_, H', ⟨by first | omega | exact Nat.le_refl _⟩, ⟨y1_⟩⟩
   ·replace c8 := Bool.eq_false_iff.mpr c8
    subst c8
    have H1 : (manometerlaw05_LabelsTold.j0 k l0 a1 a2 true) = some r := by rw [if_neg (show ¬ (false = true) by decide)] at H; exact H
    clear H
    have H := H1
    clear H1
    have H' := Aside0.mk H
    clear H
    go_wp2_with (first | ((with_reducible refine gate_callee (f := 15) rfl ?_); refine goesL_ (some 14) rfl rfl Tryd.func15 (by kernel_rfl) rfl #[] rfl y2_ ?_; (with_reducible refine (manometerlaw05_live.calls k  true _ ?side1 A5.out).mono ?_); (case side1 => exact ⟨Tab_below hT.out y1_⟩); rintro e w14 ⟨rfl, hb⟩; refine ⟨_, rfl, ?_⟩; have n0_ := Aside0.mk (below_step y1_ hb); clear HB; have HB := n0_; clear n0_; (try clear hb); (try clear hb2); (try clear hk); (try clear hi)) | (go_at_call 24; (with_reducible refine (manometerlaw05_few.calls k _ _ l0 false _ ?side1 ?side2 A7.out).mono ?_); (case side1 => repeat (first | exact (Kd.C_below HR0.out HB.out) | (with_reducible refine Kd.C_alloc ?_ _) | (with_reducible refine Kd.C_drewN ?_ _) | (with_reducible refine Kd.C_drew ?_))); (case side2 => exact HC0.out); rintro e w15 ⟨rfl, hb⟩; have n0_ := Aside0.mk (below_step y1_ hb); clear HB; have HB := n0_; clear n0_; (try clear hb); (try clear hb2); (try clear hk); (try clear hi)))
    go_meet
    case rel => exact ⟨_, (true), y6_, H', ⟨by first | omega | exact Nat.le_refl _⟩, ⟨y1_⟩⟩
  ·replace c6 := Bool.eq_false_iff.mpr c6
   subst c6
   have H1 : (manometerlaw05_LabelsTold.j0 k l0 a1 a2 true) = some r := by rw [if_neg (show ¬ (false = true) by decide)] at H; exact H
   clear H
   have H := H1
   clear H1
   have H' := Aside0.mk H
   clear H
   go_wp2_with (first | ((with_reducible refine gate_callee (f := 15) rfl ?_); refine goesL_ (some 14) rfl rfl Tryd.func15 (by kernel_rfl) rfl #[] rfl y2_ ?_; (with_reducible refine (manometerlaw05_live.calls k  false _ ?side1 A5.out).mono ?_); (case side1 => exact ⟨Tab_below hT.out y1_⟩); rintro e w16 ⟨rfl, hb⟩; refine ⟨_, rfl, ?_⟩; have n0_ := Aside0.mk (below_step y1_ hb); clear HB; have HB := n0_; clear n0_; (try clear hb); (try clear hb2); (try clear hk); (try clear hi)))
   go_meet
   case rel => exact ⟨_, (true), y6_, H', ⟨by first | omega | exact Nat.le_refl _⟩, ⟨y1_⟩⟩
 case rest =>
  clear HC4
  try clear c1
  try clear p2
  try clear c6
  try clear c8
  try clear c9
  try clear c9b0
  try clear c9b1
  try clear c15
  obtain ⟨kq, x30_3, rfl, HA, HJ3, HB⟩ := hcut
  cases kq with
  | zero => exact absurd HA.out (by simp [manometerlaw05_LabelsTold.j0])
  | succ kj3 =>
   have H := HA.out
   clear HA
   simp only [manometerlaw05_LabelsTold.j0] at H
   by_cases c17 : x30_3 = true
   ·subst c17
    have H1 : ((manometerlaw05_live.f kj3).bind fun t420 => (some t420)) = some r := by rw [if_pos rfl] at H; exact H
    clear H
    have H := H1
    clear H1
    replace H := Option.bind_eq_some_iff.mp H
    obtain ⟨t420, A180, H⟩ := H
    replace H : (some t420) = some r := H
    have A18 := Aside0.mk A180
    clear A180
    obtain rfl := Option.some.inj H
    go_wp2_with (first | ((with_reducible refine gate_callee (f := 15) rfl ?_); refine goesL_ (some 31) rfl rfl Tryd.func15 (by kernel_rfl) rfl #[] rfl y2_ ?_; (with_reducible refine (manometerlaw05_live.calls kj3  t420 _ ?side1 A18.out).mono ?_); (case side1 => exact ⟨Tab_below hT.out y1_⟩); rintro e w19 ⟨rfl, hb⟩; refine ⟨_, rfl, ?_⟩; have n0_ := Aside0.mk (below_step y1_ hb); clear HB; have HB := n0_; clear n0_; (try clear hb); (try clear hb2); (try clear hk); (try clear hi)))
    go_ret
    exact ⟨y7_, y1_⟩
   ·replace c17 := Bool.eq_false_iff.mpr c17
    subst c17
    have H1 : ((labels_Quote.f kj3 a1).bind fun t421 => (if t421.size + a2.size ≤ 9223372036854775807 then ((labels_Unquote.f kj3 (t421 ++ a2)).bind fun bt422 => (if bt422.1.toList = a1.toList then (if bt422.2.1 = (t421.size : Int) then (manometerlaw05_LabelsTold.j1 kj3 l0 (bt422.2.2 != 0)) else (manometerlaw05_LabelsTold.j1 kj3 l0 true)) else (manometerlaw05_LabelsTold.j1 kj3 l0 true))) else (none))) = some r := by rw [if_neg (show ¬ (false = true) by decide)] at H; exact H
    clear H
    have H := H1
    clear H1
    replace H := Option.bind_eq_some_iff.mp H
    obtain ⟨t421, A200, H⟩ := H
    replace H : (if t421.size + a2.size ≤ 9223372036854775807 then ((labels_Unquote.f kj3 (t421 ++ a2)).bind fun bt422 => (if bt422.1.toList = a1.toList then (if bt422.2.1 = (t421.size : Int) then (manometerlaw05_LabelsTold.j1 kj3 l0 (bt422.2.2 != 0)) else (manometerlaw05_LabelsTold.j1 kj3 l0 true)) else (manometerlaw05_LabelsTold.j1 kj3 l0 true))) else (none)) = some r := H
    have A20 := Aside0.mk A200
    clear A200
    by_cases c21 : t421.size + a2.size ≤ 9223372036854775807
    ·rw [if_pos c21] at H
     have c21b0 := eq_true c21
     try (have c21z := c21; simp [ByteArray.size_append, Kd.size_mk_] at c21z; replace c21z := eq_false (Nat.not_lt.2 c21z))
     have c21b1 : decide (t421.size + a2.size ≤ 9223372036854775807) = true := decide_eq_true c21
     try have c21b2 : (9223372036854775807 < t421.size + a2.size) = False := eq_false (Nat.not_lt.2 c21)
     replace H := Option.bind_eq_some_iff.mp H
     obtain ⟨⟨t422, t423, t424⟩, A220, H⟩ := H
     replace H : (if t422.toList = a1.toList then (if t423 = (t421.size : Int) then (manometerlaw05_LabelsTold.j1 kj3 l0 (t424 != 0)) else (manometerlaw05_LabelsTold.j1 kj3 l0 true)) else (manometerlaw05_LabelsTold.j1 kj3 l0 true)) = some r := H
     have A22 := Aside0.mk A220
     clear A220
     have HC23 := Aside0.mk H
     clear H
     go_upto_region 5 with (first | ((with_reducible refine gate_callee (f := 22) rfl ?_); refine goesL_ (some 33) rfl rfl Tryd.func22 (by kernel_rfl) rfl #[.string a1] rfl y2_ ?_; (with_reducible refine (labels_Quote.calls kj3 a1 t421 _ A20.out).mono ?_); rintro e w24 ⟨rfl, hb⟩; refine ⟨_, rfl, ?_⟩; have n0_ := Aside0.mk (below_step y1_ hb); clear HB; have HB := n0_; clear n0_; (try clear hb); (try clear hb2); (try clear hk); (try clear hi)) | ((with_reducible refine gate_callee (f := 20) rfl ?_); refine goesL_ (some 38) rfl rfl Tryd.func20 (by kernel_rfl) rfl #[.string (t421 ++ a2)] rfl y2_ ?_; (with_reducible refine (labels_Unquote.calls kj3 (t421 ++ a2) t422 t423 t424 _ A22.out).mono ?_); rintro e w25 ⟨rfl, hb⟩; refine ⟨_, rfl, ?_⟩; have n0_ := Aside0.mk (below_step y1_ hb); clear HB; have HB := n0_; clear n0_; (try clear hb); (try clear hb2); (try clear hk); (try clear hi)))
     (try simp only [Act.put, List.setIfInBounds_toArray, List.set_cons_zero, List.set_cons_succ])
     go_cut [54] (fun v54 wc => ∃ (kq : Nat) (x54_22 : Bool), v54 = .bool x54_22 ∧ Aside0 (manometerlaw05_LabelsTold.j1 kq l0 x54_22 = some r) ∧ Aside0 (kq ≤ kj3) ∧ Aside0 (Below w.heap.size w wc))
     case first =>
      have H := HC23.out
      clear HC23
      by_cases c26 : t422.toList = a1.toList
      ·rw [if_pos c26] at H
       have c26b0 : (t422.toList == a1.toList) = true := beq_iff_eq.mpr c26
       have c26b1 : (t422.toList != a1.toList) = false := bne_eq_false_iff_eq.mpr c26
       clear c26
       (first | rw [c26b0] | (simp only [i64_w, i32_w]; rw [c26b0]) | skip)
       by_cases c27 : t423 = (t421.size : Int)
       ·rw [if_pos c27] at H
        have c27b0 : (t423 == (t421.size : Int)) = true := beq_iff_eq.mpr c27
        have c27b1 : (t423 != (t421.size : Int)) = false := bne_eq_false_iff_eq.mpr c27
        clear c27
        have H' := Aside0.mk H
        clear H
        go_wp2
        go_meet
        case rel => exact ⟨_, ((t424 != 0)), y6_, H', ⟨by have := HJ3.out; first | omega | exact Nat.le_refl _⟩, ⟨y1_⟩⟩
       ·rw [if_neg c27] at H
        have c27b0 : (t423 == (t421.size : Int)) = false := beq_eq_false_iff_ne.mpr c27
        have c27b1 : (t423 != (t421.size : Int)) = true := bne_iff_ne.mpr c27
        have H' := Aside0.mk H
        clear H
        go_wp2
        go_meet
        case rel => exact ⟨_, (true), y6_, H', ⟨by have := HJ3.out; first | omega | exact Nat.le_refl _⟩, ⟨y1_⟩⟩
      ·rw [if_neg c26] at H
       have c26b0 : (t422.toList == a1.toList) = false := beq_eq_false_iff_ne.mpr c26
       have c26b1 : (t422.toList != a1.toList) = true := bne_iff_ne.mpr c26
       (first | rw [c26b0] | (simp only [i64_w, i32_w]; rw [c26b0]) | skip)
       have H' := Aside0.mk H
       clear H
       go_wp2
       go_meet
       case rel => exact ⟨_, (true), y6_, H', ⟨by have := HJ3.out; first | omega | exact Nat.le_refl _⟩, ⟨y1_⟩⟩
     case rest =>
      clear HC23
      try clear c1
      try clear c2
      try clear p2
      try clear c6
      try clear c8
      try clear c9
      try clear c9b0
      try clear c9b1
      try clear c15
      try clear c17
      try clear c20
      try clear c21
      try clear c21b0
      try clear c21b1
      try clear c21b2
      try clear c22
      try clear c26
      try clear c26b0
      try clear c26b1
      try clear c27
      try clear c27b0
      try clear c27b1
      try clear p2
      obtain ⟨kq, x54_22, rfl, HA, HJ22, HB⟩ := hcut
      cases kq with
      | zero => exact absurd HA.out (by simp [manometerlaw05_LabelsTold.j1])
      | succ kj22 =>
       have H := HA.out
       clear HA
       simp only [manometerlaw05_LabelsTold.j1] at H
       by_cases c28 : x54_22 = true
       ·subst c28
        have H1 : (some false) = some r := by rw [if_pos rfl] at H; exact H
        clear H
        have H := H1
        clear H1
        obtain rfl := Option.some.inj H
        go_wp2
        go_ret
        exact ⟨y7_, y1_⟩
       ·replace c28 := Bool.eq_false_iff.mpr c28
        subst c28
        have H1 : ((labels_Right.f kj22 l0).bind fun t425 => (if t425 = 0 then ((labels_Print.f kj22 l0).bind fun t426 => ((labels_Parse.f kj22 t426).bind fun bt427 => ((labels_Make.f kj22 l0).bind fun bt431 => (if bt427.2 = 0 then (if bt431.2 = 0 then ((labels_Same.f kj22 l0 bt427.1).bind fun t435 => (if t435 = true then ((labels_Same.f kj22 l0 bt431.1).bind fun t436 => (some t436)) else (some false))) else (some false)) else (some false))))) else (some true))) = some r := by rw [if_neg (show ¬ (false = true) by decide)] at H; exact H
        clear H
        have H := H1
        clear H1
        replace H := Option.bind_eq_some_iff.mp H
        obtain ⟨t425, A290, H⟩ := H
        replace H : (if t425 = 0 then ((labels_Print.f kj22 l0).bind fun t426 => ((labels_Parse.f kj22 t426).bind fun bt427 => ((labels_Make.f kj22 l0).bind fun bt431 => (if bt427.2 = 0 then (if bt431.2 = 0 then ((labels_Same.f kj22 l0 bt427.1).bind fun t435 => (if t435 = true then ((labels_Same.f kj22 l0 bt431.1).bind fun t436 => (some t436)) else (some false))) else (some false)) else (some false))))) else (some true)) = some r := H
        have A29 := Aside0.mk A290
        clear A290
        by_cases c30 : t425 = 0
        ·rw [if_pos c30] at H
         have c30b0 : (t425 == 0) = true := beq_iff_eq.mpr c30
         have c30b1 : (t425 != 0) = false := bne_eq_false_iff_eq.mpr c30
         clear c30
         replace H := Option.bind_eq_some_iff.mp H
         obtain ⟨t426, A310, H⟩ := H
         replace H : ((labels_Parse.f kj22 t426).bind fun bt427 => ((labels_Make.f kj22 l0).bind fun bt431 => (if bt427.2 = 0 then (if bt431.2 = 0 then ((labels_Same.f kj22 l0 bt427.1).bind fun t435 => (if t435 = true then ((labels_Same.f kj22 l0 bt431.1).bind fun t436 => (some t436)) else (some false))) else (some false)) else (some false)))) = some r := H
         have A31 := Aside0.mk A310
         clear A310
         replace H := Option.bind_eq_some_iff.mp H
         obtain ⟨⟨t427, t428⟩, A320, H⟩ := H
         replace H : ((labels_Make.f kj22 l0).bind fun bt431 => (if t428 = 0 then (if bt431.2 = 0 then ((labels_Same.f kj22 l0 t427).bind fun t435 => (if t435 = true then ((labels_Same.f kj22 l0 bt431.1).bind fun t436 => (some t436)) else (some false))) else (some false)) else (some false))) = some r := H
         have A32 := Aside0.mk A320
         clear A320
         replace H := Option.bind_eq_some_iff.mp H
         obtain ⟨⟨t431, t432⟩, A330, H⟩ := H
         replace H : (if t428 = 0 then (if t432 = 0 then ((labels_Same.f kj22 l0 t427).bind fun t435 => (if t435 = true then ((labels_Same.f kj22 l0 t431).bind fun t436 => (some t436)) else (some false))) else (some false)) else (some false)) = some r := H
         have A33 := Aside0.mk A330
         clear A330
         by_cases c34 : t428 = 0
         ·rw [if_pos c34] at H
          have c34b0 : (t428 == 0) = true := beq_iff_eq.mpr c34
          have c34b1 : (t428 != 0) = false := bne_eq_false_iff_eq.mpr c34
          clear c34
          by_cases c35 : t432 = 0
          ·rw [if_pos c35] at H
           have c35b0 : (t432 == 0) = true := beq_iff_eq.mpr c35
           have c35b1 : (t432 != 0) = false := bne_eq_false_iff_eq.mpr c35
           clear c35
           replace H := Option.bind_eq_some_iff.mp H
           obtain ⟨t435, A360, H⟩ := H
           replace H : (if t435 = true then ((labels_Same.f kj22 l0 t431).bind fun t436 => (some t436)) else (some false)) = some r := H
           have A36 := Aside0.mk A360
           clear A360
           by_cases c37 : t435 = true
           ·subst c37
            have H1 : ((labels_Same.f kj22 l0 t431).bind fun t436 => (some t436)) = some r := by rw [if_pos rfl] at H; exact H
            clear H
            have H := H1
            clear H1
            replace H := Option.bind_eq_some_iff.mp H
            obtain ⟨t436, A380, H⟩ := H
            replace H : (some t436) = some r := H
            have A38 := Aside0.mk A380
            clear A380
            obtain rfl := Option.some.inj H
            go_wp2_with (first | ((with_reducible refine gate_callee (f := 36) rfl ?_); refine goesL_ (some 56) rfl rfl Tryd.func36 (by kernel_rfl) rfl #[.slice A0 l0.length c0] rfl y2_ ?_; (with_reducible refine (labels_Right.calls kj22 _ _ l0 t425 _ ?side1 ?side2 ?side3 A29.out).mono ?_); (case side1 => exact ⟨Tab_below hT.out y1_⟩); (case side2 => repeat (first | exact (Kd.C_below HR0.out HB.out) | (with_reducible refine Kd.C_alloc ?_ _) | (with_reducible refine Kd.C_drewN ?_ _) | (with_reducible refine Kd.C_drew ?_))); (case side3 => exact HC0.out); rintro e w39 ⟨rfl, hb⟩; refine ⟨_, rfl, ?_⟩; have n0_ := Aside0.mk (below_step y1_ hb); clear HB; have HB := n0_; clear n0_; (try clear hb); (try clear hb2); (try clear hk); (try clear hi)) | ((with_reducible refine gate_callee (f := 27) rfl ?_); refine goesL_ (some 60) rfl rfl Tryd.func27 (by kernel_rfl) rfl #[.slice A0 l0.length c0] rfl y2_ ?_; (with_reducible refine (labels_Print.calls kj22 _ _ l0 t426 _ ?side1 ?side2 A31.out).mono ?_); (case side1 => repeat (first | exact (Kd.C_below HR0.out HB.out) | (with_reducible refine Kd.C_alloc ?_ _) | (with_reducible refine Kd.C_drewN ?_ _) | (with_reducible refine Kd.C_drew ?_))); (case side2 => exact HC0.out); rintro e w40 ⟨rfl, hb⟩; refine ⟨_, rfl, ?_⟩; have n0_ := Aside0.mk (below_step y1_ hb); clear HB; have HB := n0_; clear n0_; (try clear hb); (try clear hb2); (try clear hk); (try clear hi)) | ((with_reducible refine gate_callee (f := 25) rfl ?_); refine goesL_ (some 61) rfl rfl Tryd.func25 (by kernel_rfl) rfl #[.string t426] rfl y2_ ?_; (with_reducible refine (labels_Parse.calls kj22 t426 t427 t428 _ ?side1 A32.out).mono ?_); (case side1 => exact ⟨Tab_below hT.out y1_⟩); rintro e w41 ⟨v429, rfl, ho0, hb⟩; refine ⟨_, rfl, ?_⟩; have n0_ := Aside0.mk (Kd.R_lower ho0 (below_size y1_)); have n1_ := Aside0.mk (below_step y1_ hb); clear HB; have HO430 := n0_; have HB := n1_; clear n0_ n1_; (try clear hb); (try clear hb2); (try clear hk); (try clear hi); (try clear ho0)) | ((with_reducible refine gate_callee (f := 34) rfl ?_); refine goesL_ (some 66) rfl rfl Tryd.func34 (by kernel_rfl) rfl #[.slice A0 l0.length c0] rfl y2_ ?_; (with_reducible refine (labels_Make.calls kj22 _ _ l0 t431 t432 _ ?side1 ?side2 ?side3 A33.out).mono ?_); (case side1 => exact ⟨Tab_below hT.out y1_⟩); (case side2 => repeat (first | exact (Kd.C_below HR0.out HB.out) | (with_reducible refine Kd.C_alloc ?_ _) | (with_reducible refine Kd.C_drewN ?_ _) | (with_reducible refine Kd.C_drew ?_))); (case side3 => exact HC0.out); rintro e w42 ⟨v433, rfl, ho0, hb⟩; refine ⟨_, rfl, ?_⟩; have n0_ := Aside0.mk (Kd.R_elder' y31_ (Kd.R_base ho0) hb); have n1_ := Aside0.mk (Kd.R_lower (Kd.R_new' ho0 (Kd.R_lt y31_)) (below_size y1_)); have n2_ := Aside0.mk (below_step y1_ hb); clear HO430; clear HB; have HO430 := n0_; have HO434 := n1_; have HB := n2_; clear n0_ n1_ n2_; (try clear hb); (try clear hb2); (try clear hk); (try clear hi); (try clear ho0); obtain ⟨Ao43, co43, eo43⟩ := Kd.R_slice HO430.out; subst eo43) | (go_at_call 30; (with_reducible refine (labels_Same.calls kj22 _ _ l0 _ _ t427 true _ ?side1 ?side2 ?side3 ?side4 A36.out).mono ?_); (case side1 => repeat (first | exact (Kd.C_below HR0.out HB.out) | (with_reducible refine Kd.C_alloc ?_ _) | (with_reducible refine Kd.C_drewN ?_ _) | (with_reducible refine Kd.C_drew ?_))); (case side2 => exact HC0.out); (case side3 => repeat (first | exact (Kd.R_reads' HO430.out).2.2 | (with_reducible refine Kd.C_alloc ?_ _) | (with_reducible refine Kd.C_drewN ?_ _) | (with_reducible refine Kd.C_drew ?_))); (case side4 => exact (Kd.R_reads' HO430.out).2.1); rintro e w' ⟨rfl, ⟨nd, rfl⟩⟩; obtain ⟨Ao44, co44, eo44⟩ := Kd.R_slice HO434.out; subst eo44) | (go_at_call 30; (with_reducible refine (labels_Same.calls kj22 _ _ l0 _ _ t431 t436 _ ?side1 ?side2 ?side3 ?side4 A38.out).mono ?_); (case side1 => repeat (first | exact (Kd.C_below HR0.out y1_) | (with_reducible refine Kd.C_alloc ?_ _) | (with_reducible refine Kd.C_drewN ?_ _) | (with_reducible refine Kd.C_drew ?_))); (case side2 => exact HC0.out); (case side3 => repeat (first | exact (Kd.R_reads' HO434.out).2.2 | (with_reducible refine Kd.C_alloc ?_ _) | (with_reducible refine Kd.C_drewN ?_ _) | (with_reducible refine Kd.C_drew ?_))); (case side4 => exact (Kd.R_reads' HO434.out).2.1); rintro e w' ⟨rfl, ⟨nd, rfl⟩⟩))
            go_ret
            exact ⟨y7_, y1_⟩
           ·replace c37 := Bool.eq_false_iff.mpr c37
            subst c37
            have H1 : (some false) = some r := by rw [if_neg (show ¬ (false = true) by decide)] at H; exact H
            clear H
            have H := H1
            clear H1
            obtain rfl := Option.some.inj H
            go_wp2_with (first | ((with_reducible refine gate_callee (f := 36) rfl ?_); refine goesL_ (some 56) rfl rfl Tryd.func36 (by kernel_rfl) rfl #[.slice A0 l0.length c0] rfl y2_ ?_; (with_reducible refine (labels_Right.calls kj22 _ _ l0 t425 _ ?side1 ?side2 ?side3 A29.out).mono ?_); (case side1 => exact ⟨Tab_below hT.out y1_⟩); (case side2 => repeat (first | exact (Kd.C_below HR0.out HB.out) | (with_reducible refine Kd.C_alloc ?_ _) | (with_reducible refine Kd.C_drewN ?_ _) | (with_reducible refine Kd.C_drew ?_))); (case side3 => exact HC0.out); rintro e w45 ⟨rfl, hb⟩; refine ⟨_, rfl, ?_⟩; have n0_ := Aside0.mk (below_step y1_ hb); clear HB; have HB := n0_; clear n0_; (try clear hb); (try clear hb2); (try clear hk); (try clear hi)) | ((with_reducible refine gate_callee (f := 27) rfl ?_); refine goesL_ (some 60) rfl rfl Tryd.func27 (by kernel_rfl) rfl #[.slice A0 l0.length c0] rfl y2_ ?_; (with_reducible refine (labels_Print.calls kj22 _ _ l0 t426 _ ?side1 ?side2 A31.out).mono ?_); (case side1 => repeat (first | exact (Kd.C_below HR0.out HB.out) | (with_reducible refine Kd.C_alloc ?_ _) | (with_reducible refine Kd.C_drewN ?_ _) | (with_reducible refine Kd.C_drew ?_))); (case side2 => exact HC0.out); rintro e w46 ⟨rfl, hb⟩; refine ⟨_, rfl, ?_⟩; have n0_ := Aside0.mk (below_step y1_ hb); clear HB; have HB := n0_; clear n0_; (try clear hb); (try clear hb2); (try clear hk); (try clear hi)) | ((with_reducible refine gate_callee (f := 25) rfl ?_); refine goesL_ (some 61) rfl rfl Tryd.func25 (by kernel_rfl) rfl #[.string t426] rfl y2_ ?_; (with_reducible refine (labels_Parse.calls kj22 t426 t427 t428 _ ?side1 A32.out).mono ?_); (case side1 => exact ⟨Tab_below hT.out y1_⟩); rintro e w47 ⟨v429, rfl, ho0, hb⟩; refine ⟨_, rfl, ?_⟩; have n0_ := Aside0.mk (Kd.R_lower ho0 (below_size y1_)); have n1_ := Aside0.mk (below_step y1_ hb); clear HB; have HO430 := n0_; have HB := n1_; clear n0_ n1_; (try clear hb); (try clear hb2); (try clear hk); (try clear hi); (try clear ho0)) | ((with_reducible refine gate_callee (f := 34) rfl ?_); refine goesL_ (some 66) rfl rfl Tryd.func34 (by kernel_rfl) rfl #[.slice A0 l0.length c0] rfl y2_ ?_; (with_reducible refine (labels_Make.calls kj22 _ _ l0 t431 t432 _ ?side1 ?side2 ?side3 A33.out).mono ?_); (case side1 => exact ⟨Tab_below hT.out y1_⟩); (case side2 => repeat (first | exact (Kd.C_below HR0.out HB.out) | (with_reducible refine Kd.C_alloc ?_ _) | (with_reducible refine Kd.C_drewN ?_ _) | (with_reducible refine Kd.C_drew ?_))); (case side3 => exact HC0.out); rintro e w48 ⟨v433, rfl, ho0, hb⟩; refine ⟨_, rfl, ?_⟩; have n0_ := Aside0.mk (Kd.R_elder' y31_ (Kd.R_base ho0) hb); have n1_ := Aside0.mk (Kd.R_lower (Kd.R_new' ho0 (Kd.R_lt y31_)) (below_size y1_)); have n2_ := Aside0.mk (below_step y1_ hb); clear HO430; clear HB; have HO430 := n0_; have HO434 := n1_; have HB := n2_; clear n0_ n1_ n2_; (try clear hb); (try clear hb2); (try clear hk); (try clear hi); (try clear ho0); obtain ⟨Ao49, co49, eo49⟩ := Kd.R_slice HO430.out; subst eo49) | (go_at_call 30; (with_reducible refine (labels_Same.calls kj22 _ _ l0 _ _ t427 false _ ?side1 ?side2 ?side3 ?side4 A36.out).mono ?_); (case side1 => repeat (first | exact (Kd.C_below HR0.out HB.out) | (with_reducible refine Kd.C_alloc ?_ _) | (with_reducible refine Kd.C_drewN ?_ _) | (with_reducible refine Kd.C_drew ?_))); (case side2 => exact HC0.out); (case side3 => repeat (first | exact (Kd.R_reads' HO430.out).2.2 | (with_reducible refine Kd.C_alloc ?_ _) | (with_reducible refine Kd.C_drewN ?_ _) | (with_reducible refine Kd.C_drew ?_))); (case side4 => exact (Kd.R_reads' HO430.out).2.1); rintro e w' ⟨rfl, ⟨nd, rfl⟩⟩))
            go_ret
            exact ⟨y7_, y1_⟩
          ·rw [if_neg c35] at H
           have c35b0 : (t432 == 0) = false := beq_eq_false_iff_ne.mpr c35
           have c35b1 : (t432 != 0) = true := bne_iff_ne.mpr c35
           obtain rfl := Option.some.inj H
           go_wp2_with (first | ((with_reducible refine gate_callee (f := 36) rfl ?_); refine goesL_ (some 56) rfl rfl Tryd.func36 (by kernel_rfl) rfl #[.slice A0 l0.length c0] rfl y2_ ?_; (with_reducible refine (labels_Right.calls kj22 _ _ l0 t425 _ ?side1 ?side2 ?side3 A29.out).mono ?_); (case side1 => exact ⟨Tab_below hT.out y1_⟩); (case side2 => repeat (first | exact (Kd.C_below HR0.out HB.out) | (with_reducible refine Kd.C_alloc ?_ _) | (with_reducible refine Kd.C_drewN ?_ _) | (with_reducible refine Kd.C_drew ?_))); (case side3 => exact HC0.out); rintro e w50 ⟨rfl, hb⟩; refine ⟨_, rfl, ?_⟩; have n0_ := Aside0.mk (below_step y1_ hb); clear HB; have HB := n0_; clear n0_; (try clear hb); (try clear hb2); (try clear hk); (try clear hi)) | ((with_reducible refine gate_callee (f := 27) rfl ?_); refine goesL_ (some 60) rfl rfl Tryd.func27 (by kernel_rfl) rfl #[.slice A0 l0.length c0] rfl y2_ ?_; (with_reducible refine (labels_Print.calls kj22 _ _ l0 t426 _ ?side1 ?side2 A31.out).mono ?_); (case side1 => repeat (first | exact (Kd.C_below HR0.out HB.out) | (with_reducible refine Kd.C_alloc ?_ _) | (with_reducible refine Kd.C_drewN ?_ _) | (with_reducible refine Kd.C_drew ?_))); (case side2 => exact HC0.out); rintro e w51 ⟨rfl, hb⟩; refine ⟨_, rfl, ?_⟩; have n0_ := Aside0.mk (below_step y1_ hb); clear HB; have HB := n0_; clear n0_; (try clear hb); (try clear hb2); (try clear hk); (try clear hi)) | ((with_reducible refine gate_callee (f := 25) rfl ?_); refine goesL_ (some 61) rfl rfl Tryd.func25 (by kernel_rfl) rfl #[.string t426] rfl y2_ ?_; (with_reducible refine (labels_Parse.calls kj22 t426 t427 t428 _ ?side1 A32.out).mono ?_); (case side1 => exact ⟨Tab_below hT.out y1_⟩); rintro e w52 ⟨v429, rfl, ho0, hb⟩; refine ⟨_, rfl, ?_⟩; have n0_ := Aside0.mk (Kd.R_lower ho0 (below_size y1_)); have n1_ := Aside0.mk (below_step y1_ hb); clear HB; have HO430 := n0_; have HB := n1_; clear n0_ n1_; (try clear hb); (try clear hb2); (try clear hk); (try clear hi); (try clear ho0)) | ((with_reducible refine gate_callee (f := 34) rfl ?_); refine goesL_ (some 66) rfl rfl Tryd.func34 (by kernel_rfl) rfl #[.slice A0 l0.length c0] rfl y2_ ?_; (with_reducible refine (labels_Make.calls kj22 _ _ l0 t431 t432 _ ?side1 ?side2 ?side3 A33.out).mono ?_); (case side1 => exact ⟨Tab_below hT.out y1_⟩); (case side2 => repeat (first | exact (Kd.C_below HR0.out HB.out) | (with_reducible refine Kd.C_alloc ?_ _) | (with_reducible refine Kd.C_drewN ?_ _) | (with_reducible refine Kd.C_drew ?_))); (case side3 => exact HC0.out); rintro e w53 ⟨v433, rfl, ho0, hb⟩; refine ⟨_, rfl, ?_⟩; have n0_ := Aside0.mk (Kd.R_elder' y31_ (Kd.R_base ho0) hb); have n1_ := Aside0.mk (Kd.R_lower (Kd.R_new' ho0 (Kd.R_lt y31_)) (below_size y1_)); have n2_ := Aside0.mk (below_step y1_ hb); clear HO430; clear HB; have HO430 := n0_; have HO434 := n1_; have HB := n2_; clear n0_ n1_ n2_; (try clear hb); (try clear hb2); (try clear hk); (try clear hi); (try clear ho0)))
           go_ret
           exact ⟨y7_, y1_⟩
         ·rw [if_neg c34] at H
          have c34b0 : (t428 == 0) = false := beq_eq_false_iff_ne.mpr c34
          have c34b1 : (t428 != 0) = true := bne_iff_ne.mpr c34
          obtain rfl := Option.some.inj H
          go_wp2_with (first | ((with_reducible refine gate_callee (f := 36) rfl ?_); refine goesL_ (some 56) rfl rfl Tryd.func36 (by kernel_rfl) rfl #[.slice A0 l0.length c0] rfl y2_ ?_; (with_reducible refine (labels_Right.calls kj22 _ _ l0 t425 _ ?side1 ?side2 ?side3 A29.out).mono ?_); (case side1 => exact ⟨Tab_below hT.out y1_⟩); (case side2 => repeat (first | exact (Kd.C_below HR0.out HB.out) | (with_reducible refine Kd.C_alloc ?_ _) | (with_reducible refine Kd.C_drewN ?_ _) | (with_reducible refine Kd.C_drew ?_))); (case side3 => exact HC0.out); rintro e w54 ⟨rfl, hb⟩; refine ⟨_, rfl, ?_⟩; have n0_ := Aside0.mk (below_step y1_ hb); clear HB; have HB := n0_; clear n0_; (try clear hb); (try clear hb2); (try clear hk); (try clear hi)) | ((with_reducible refine gate_callee (f := 27) rfl ?_); refine goesL_ (some 60) rfl rfl Tryd.func27 (by kernel_rfl) rfl #[.slice A0 l0.length c0] rfl y2_ ?_; (with_reducible refine (labels_Print.calls kj22 _ _ l0 t426 _ ?side1 ?side2 A31.out).mono ?_); (case side1 => repeat (first | exact (Kd.C_below HR0.out HB.out) | (with_reducible refine Kd.C_alloc ?_ _) | (with_reducible refine Kd.C_drewN ?_ _) | (with_reducible refine Kd.C_drew ?_))); (case side2 => exact HC0.out); rintro e w55 ⟨rfl, hb⟩; refine ⟨_, rfl, ?_⟩; have n0_ := Aside0.mk (below_step y1_ hb); clear HB; have HB := n0_; clear n0_; (try clear hb); (try clear hb2); (try clear hk); (try clear hi)) | ((with_reducible refine gate_callee (f := 25) rfl ?_); refine goesL_ (some 61) rfl rfl Tryd.func25 (by kernel_rfl) rfl #[.string t426] rfl y2_ ?_; (with_reducible refine (labels_Parse.calls kj22 t426 t427 t428 _ ?side1 A32.out).mono ?_); (case side1 => exact ⟨Tab_below hT.out y1_⟩); rintro e w56 ⟨v429, rfl, ho0, hb⟩; refine ⟨_, rfl, ?_⟩; have n0_ := Aside0.mk (Kd.R_lower ho0 (below_size y1_)); have n1_ := Aside0.mk (below_step y1_ hb); clear HB; have HO430 := n0_; have HB := n1_; clear n0_ n1_; (try clear hb); (try clear hb2); (try clear hk); (try clear hi); (try clear ho0)) | ((with_reducible refine gate_callee (f := 34) rfl ?_); refine goesL_ (some 66) rfl rfl Tryd.func34 (by kernel_rfl) rfl #[.slice A0 l0.length c0] rfl y2_ ?_; (with_reducible refine (labels_Make.calls kj22 _ _ l0 t431 t432 _ ?side1 ?side2 ?side3 A33.out).mono ?_); (case side1 => exact ⟨Tab_below hT.out y1_⟩); (case side2 => repeat (first | exact (Kd.C_below HR0.out HB.out) | (with_reducible refine Kd.C_alloc ?_ _) | (with_reducible refine Kd.C_drewN ?_ _) | (with_reducible refine Kd.C_drew ?_))); (case side3 => exact HC0.out); rintro e w57 ⟨v433, rfl, ho0, hb⟩; refine ⟨_, rfl, ?_⟩; have n0_ := Aside0.mk (Kd.R_elder' y31_ (Kd.R_base ho0) hb); have n1_ := Aside0.mk (Kd.R_lower (Kd.R_new' ho0 (Kd.R_lt y31_)) (below_size y1_)); have n2_ := Aside0.mk (below_step y1_ hb); clear HO430; clear HB; have HO430 := n0_; have HO434 := n1_; have HB := n2_; clear n0_ n1_ n2_; (try clear hb); (try clear hb2); (try clear hk); (try clear hi); (try clear ho0)))
          go_ret
          exact ⟨y7_, y1_⟩
        ·rw [if_neg c30] at H
         have c30b0 : (t425 == 0) = false := beq_eq_false_iff_ne.mpr c30
         have c30b1 : (t425 != 0) = true := bne_iff_ne.mpr c30
         obtain rfl := Option.some.inj H
         go_wp2_with (first | ((with_reducible refine gate_callee (f := 36) rfl ?_); refine goesL_ (some 56) rfl rfl Tryd.func36 (by kernel_rfl) rfl #[.slice A0 l0.length c0] rfl y2_ ?_; (with_reducible refine (labels_Right.calls kj22 _ _ l0 t425 _ ?side1 ?side2 ?side3 A29.out).mono ?_); (case side1 => exact ⟨Tab_below hT.out y1_⟩); (case side2 => repeat (first | exact (Kd.C_below HR0.out HB.out) | (with_reducible refine Kd.C_alloc ?_ _) | (with_reducible refine Kd.C_drewN ?_ _) | (with_reducible refine Kd.C_drew ?_))); (case side3 => exact HC0.out); rintro e w58 ⟨rfl, hb⟩; refine ⟨_, rfl, ?_⟩; have n0_ := Aside0.mk (below_step y1_ hb); clear HB; have HB := n0_; clear n0_; (try clear hb); (try clear hb2); (try clear hk); (try clear hi)))
         go_ret
         exact ⟨y7_, y1_⟩
    ·rw [if_neg c21] at H
     exact absurd H (by simp)
end Go.Proofs.YtdhmabofncbohaaDoor.PLB
