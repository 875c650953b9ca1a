import Derived.Test.YtdhmabofncbohaaDoorCLabelsBytesH17
import Derived.Test.YtdhmabofncbohaaDoorCLabelsBytesPLCx15
import Derived.Test.YtdhmabofncbohaaDoorCLabelsBytesH19
import Derived.Test.YtdhmabofncbohaaDoorCLabelsBytesPLCx1
namespace Go.Proofs.YtdhmabofncbohaaDoor.PLC
open Go.RowKit Go.Proofs.YtdhmabofncbohaaDoorW.PrintWords Go.Proofs.YtdhmabofncbohaaDoorW.PrintLast Go.Proofs.YtdhmabofncbohaaDoorW.PrintMore
attribute [local go_sem] max2_int min2_int max_two min_two max_three min_three max_four min_four
set_option linter.unusedVariables false
set_option linter.unusedSimpArgs false
mutual
def manometerref01_Uvarint.l0 : Nat → List Int → Int → Int → Option (Int × Int × Int)
 | 0, _, _, _ => none
 | k + 1, x0, x5, x7 => if x7 < 10 then (if x7 = (x0.length : Int) then (some (0, 0, 6)) else (if x7 = 9 then (if 0 ≤ x7 then (if x7 < (x0.length : Int) then (manometerref01_Uvarint.j1 k x0 x5 x7 x7 (decide ((rd x0 x7) > 1))) else (none)) else (none)) else (manometerref01_Uvarint.j1 k x0 x5 x7 x7 false))) else (some (0, 0, 9))
def manometerref01_Uvarint.j1 : Nat → List Int → Int → Int → Int → Bool → Option (Int × Int × Int)
 | 0, _, _, _, _, _ => none
 | k + 1, x0, x5, x6, x7, x22 => if x22 = true then (some (0, 0, 9)) else (if 0 ≤ x6 then (if x6 < (x0.length : Int) then (if 0 ≤ (IntKind.u64.wrap (wrap64 (7 * x6))) then (if (rd x0 x6) < 128 then (if x6 > 0 then (if (rd x0 x6) = 0 then (some (0, 0, 8)) else (some (IntKind.u64.wrap (x5 + (shl .u64 (IntKind.u64.wrap (Int.tmod (rd x0 x6) 128)) (IntKind.u64.wrap (wrap64 (7 * x6))))), wrap64 (x6 + 1), 0))) else (some (IntKind.u64.wrap (x5 + (shl .u64 (IntKind.u64.wrap (Int.tmod (rd x0 x6) 128)) (IntKind.u64.wrap (wrap64 (7 * x6))))), wrap64 (x6 + 1), 0))) else (manometerref01_Uvarint.l0 k x0 (IntKind.u64.wrap (x5 + (shl .u64 (IntKind.u64.wrap (Int.tmod (rd x0 x6) 128)) (IntKind.u64.wrap (wrap64 (7 * x6)))))) (wrap64 (x7 + 1)))) else (none)) else (none)) else (none))
end
def manometerref01_Uvarint.f (k : Nat) (l0 : List Int) : Option (Int × Int × Int) := manometerref01_Uvarint.l0 k l0 0 0
set_option maxHeartbeats 8000000 in
set_option maxRecDepth 100000 in
theorem manometerref01_Uvarint.calls (k : Nat) (A0 : Option Addr) (c0 : Nat) (l0 : List Int) (r1 : Int) (r2 : Int) (r3 : Int) (w : World) (hr0 : Kd.C (Kd.int .u8) w A0 l0.length l0) (hc0 : l0.length ≤ c0) (h : manometerref01_Uvarint.f k l0 = some (r1, r2, r3)) :
  Calls Tryd.prog 77 #[.slice A0 l0.length c0] w fun e w' => e = .returned (.tuple #[.int .u64 r1, .int .i64 r2, .int .i64 r3]) ∧ Drawn0 w w' := by
 have HR0 := Aside0.mk hr0
 have HC0 := Aside0.mk hc0
 clear hr0 hc0
 have H : (manometerref01_Uvarint.l0 k l0 0 0) = some (r1, r2, r3) := h
 clear h
 have H' := Aside0.mk H
 clear H
 go_enter Tryd.func77, Tryd.ntmps77
 go_wp2
 go_loopg [5, 7] k (fun kq v5 v7 w' => ∃ (x5_1 : Int) (x7_1 : Int), v5 = .int .u64 x5_1 ∧ v7 = .int .i64 x7_1 ∧ Aside0 (manometerref01_Uvarint.l0 kq l0 x5_1 x7_1 = some (r1, r2, r3)) ∧ Aside0 (kq ≤ k) ∧ Drawn0 w w')
 case atStart => exact ⟨(0), (0), y4_, y4_, H', ⟨Nat.le_refl _⟩, y6_⟩
 case round =>
  clear H'
  obtain ⟨x5_1, x7_1, rfl, rfl, HA, HK1, ⟨m1, rfl⟩⟩ := hrel
  cases gk with
  | zero => exact absurd HA.out (by simp [manometerref01_Uvarint.l0])
  | succ k1 =>
   have H := HA.out
   clear HA
   simp only [manometerref01_Uvarint.l0] at H
   by_cases c2 : x7_1 < 10
   ·rw [if_pos c2] at H
    have c2b0 : decide (x7_1 < 10) = true := decide_eq_true c2
    clear c2
    by_cases c3 : x7_1 = (l0.length : Int)
    ·rw [if_pos c3] at H
     have c3b0 : (x7_1 == (l0.length : Int)) = true := beq_iff_eq.mpr c3
     have c3b1 : (x7_1 != (l0.length : Int)) = false := bne_eq_false_iff_eq.mpr c3
     clear c3
     simp only [Option.some.injEq, Prod.mk.injEq] at H
     obtain ⟨rfl, rfl, rfl⟩ := H
     go_wp2
     go_ret3
     exact ⟨y11_, y6_⟩
    ·rw [if_neg c3] at H
     have c3b0 : (x7_1 == (l0.length : Int)) = false := beq_eq_false_iff_ne.mpr c3
     have c3b1 : (x7_1 != (l0.length : Int)) = true := bne_iff_ne.mpr c3
     have HC4 := Aside0.mk H
     clear H
     go_upto_region 7 with (fail)
     go_cut [22] (fun v22 wc => ∃ (kq : Nat) (x22_3 : Bool), v22 = .bool x22_3 ∧ Aside0 (manometerref01_Uvarint.j1 kq l0 x5_1 x7_1 x7_1 x22_3 = some (r1, r2, r3)) ∧ Aside0 (kq ≤ k1) ∧ Drawn0 w wc)
     case first =>
      have H := HC4.out
      clear HC4
      by_cases c5 : x7_1 = 9
      ·rw [if_pos c5] at H
       have c5b0 : (x7_1 == 9) = true := beq_iff_eq.mpr c5
       have c5b1 : (x7_1 != 9) = false := bne_eq_false_iff_eq.mpr c5
       clear c5
       (first | rw [c5b0] | (simp only [i64_w, i32_w]; rw [c5b0]) | skip)
       by_cases c6 : 0 ≤ x7_1
       ·rw [if_pos c6] at H
        have c6b0 : decide (0 ≤ x7_1) = true := decide_eq_true c6
        clear c6
        by_cases c7 : x7_1 < (l0.length : Int)
        ·rw [if_pos c7] at H
         have c7b0 : decide (x7_1 < (l0.length : Int)) = true := decide_eq_true c7
         clear c7
         have H' := Aside0.mk H
         clear H
         have p718 : 0 ≤ (x7_1 : Int) := of_decide_eq_true y3_
         have q718 : x7_1 < (l0.length : Int) := of_decide_eq_true y3_
         obtain ⟨ad718, e718, hx718_0⟩ := Kd.at_int HR0.out x7_1 p718 q718
         cases e718
         replace p718 := eq_true p718
         replace q718 := eq_true q718
         go_wp2
         go_meet
         case rel => exact ⟨_, (decide ((rd l0 x7_1) > 1)), y4_, H', ⟨y47_⟩, y6_⟩
        ·rw [if_neg c7] at H
         exact absurd H (by simp)
       ·rw [if_neg c6] at H
        exact absurd H (by simp)
      ·rw [if_neg c5] at H
       have c5b0 : (x7_1 == 9) = false := beq_eq_false_iff_ne.mpr c5
       have c5b1 : (x7_1 != 9) = true := bne_iff_ne.mpr c5
       (first | rw [c5b0] | (simp only [i64_w, i32_w]; rw [c5b0]) | skip)
       have H' := Aside0.mk H
       clear H
       go_wp2
       go_meet
       case rel => exact ⟨_, (false), y4_, H', ⟨y47_⟩, y6_⟩
     case rest =>
      clear HC4
      try clear c2
      try clear c2b0
      try clear p2
      try clear c3
      try clear c3b0
      try clear c3b1
      try clear c5
      try clear c5b0
      try clear c5b1
      try clear c6
      try clear c6b0
      try clear c7
      try clear c7b0
      try clear p7
      try clear q7
      try clear hx7
      try clear hx718_0
      try clear p718
      try clear q718
      obtain ⟨kq, x22_3, rfl, HA, HJ3, ⟨mc3, rfl⟩⟩ := hcut
      cases kq with
      | zero => exact absurd HA.out (by simp [manometerref01_Uvarint.j1])
      | succ kj3 =>
       have H := HA.out
       clear HA
       simp only [manometerref01_Uvarint.j1] at H
       by_cases c8 : x22_3 = true
       ·subst c8
        have H1 : (some (0, 0, 9)) = some (r1, r2, r3) := by rw [if_pos rfl] at H; exact H
        clear H
        have H := H1
        clear H1
        simp only [Option.some.injEq, Prod.mk.injEq] at H
        obtain ⟨rfl, rfl, rfl⟩ := H
        go_wp2
        go_ret3
        exact ⟨y11_, y6_⟩
       ·replace c8 := Bool.eq_false_iff.mpr c8
        subst c8
        have H1 : (if 0 ≤ x7_1 then (if x7_1 < (l0.length : Int) then (if 0 ≤ (IntKind.u64.wrap (wrap64 (7 * x7_1))) then (if (rd l0 x7_1) < 128 then (if x7_1 > 0 then (if (rd l0 x7_1) = 0 then (some (0, 0, 8)) else (some (IntKind.u64.wrap (x5_1 + (shl .u64 (IntKind.u64.wrap (Int.tmod (rd l0 x7_1) 128)) (IntKind.u64.wrap (wrap64 (7 * x7_1))))), wrap64 (x7_1 + 1), 0))) else (some (IntKind.u64.wrap (x5_1 + (shl .u64 (IntKind.u64.wrap (Int.tmod (rd l0 x7_1) 128)) (IntKind.u64.wrap (wrap64 (7 * x7_1))))), wrap64 (x7_1 + 1), 0))) else (manometerref01_Uvarint.l0 kj3 l0 (IntKind.u64.wrap (x5_1 + (shl .u64 (IntKind.u64.wrap (Int.tmod (rd l0 x7_1) 128)) (IntKind.u64.wrap (wrap64 (7 * x7_1)))))) (wrap64 (x7_1 + 1)))) else (none)) else (none)) else (none)) = some (r1, r2, r3) := by rw [if_neg (show ¬ (false = true) by decide)] at H; exact H
        clear H
        have H := H1
        clear H1
        by_cases c9 : 0 ≤ x7_1
        ·rw [if_pos c9] at H
         have c9b0 : decide (0 ≤ x7_1) = true := decide_eq_true c9
         clear c9
         by_cases c10 : x7_1 < (l0.length : Int)
         ·rw [if_pos c10] at H
          have c10b0 : decide (x7_1 < (l0.length : Int)) = true := decide_eq_true c10
          clear c10
          obtain ⟨ji11, hji11⟩ : ∃ j_ : Int, (IntKind.u64.wrap (wrap64 (7 * x7_1))) = j_ := ⟨_, rfl⟩
          replace H : (if 0 ≤ (ji11) then (if (rd l0 x7_1) < 128 then (if x7_1 > 0 then (if (rd l0 x7_1) = 0 then (some (0, 0, 8)) else (some (IntKind.u64.wrap (x5_1 + (shl .u64 (IntKind.u64.wrap (Int.tmod (rd l0 x7_1) 128)) (ji11))), wrap64 (x7_1 + 1), 0))) else (some (IntKind.u64.wrap (x5_1 + (shl .u64 (IntKind.u64.wrap (Int.tmod (rd l0 x7_1) 128)) (ji11))), wrap64 (x7_1 + 1), 0))) else (manometerref01_Uvarint.l0 kj3 l0 (IntKind.u64.wrap (x5_1 + (shl .u64 (IntKind.u64.wrap (Int.tmod (rd l0 x7_1) 128)) (ji11)))) (wrap64 (x7_1 + 1)))) else (none)) = some (r1, r2, r3) := by first | (rw [hji11] at H; exact H) | (simp only [hji11] at H ⊢; exact H)
          by_cases c12 : 0 ≤ (ji11)
          ·rw [if_pos c12] at H
           have c12b0 := eq_true c12
           have c12b1 : decide (0 ≤ (ji11)) = true := decide_eq_true c12
           clear c12
           obtain ⟨ji13, hji13⟩ : ∃ j_ : Int, (shl .u64 (IntKind.u64.wrap (Int.tmod (rd l0 x7_1) 128)) (ji11)) = j_ := ⟨_, rfl⟩
           replace H : (if (rd l0 x7_1) < 128 then (if x7_1 > 0 then (if (rd l0 x7_1) = 0 then (some (0, 0, 8)) else (some (IntKind.u64.wrap (x5_1 + (ji13)), wrap64 (x7_1 + 1), 0))) else (some (IntKind.u64.wrap (x5_1 + (ji13)), wrap64 (x7_1 + 1), 0))) else (manometerref01_Uvarint.l0 kj3 l0 (IntKind.u64.wrap (x5_1 + (ji13))) (wrap64 (x7_1 + 1)))) = some (r1, r2, r3) := by first | (rw [hji13] at H; exact H) | (simp only [hji13] at H ⊢; exact H)
           have hji13_ : (IntKind.u64.wrap ((IntKind.u64.wrap (Int.tmod (rd l0 x7_1) 128)) * 2 ^ min (ji11).toNat 64)) = ji13 := hji13
           have hji13z : (ji11) ≤ 64 → (IntKind.u64.wrap ((IntKind.u64.wrap (Int.tmod (rd l0 x7_1) 128)) * 2 ^ (ji11).toNat)) = ji13 := shl_small hji13
           by_cases c14 : (rd l0 x7_1) < 128
           ·rw [if_pos c14] at H
            have c14b0 : decide ((rd l0 x7_1) < 128) = true := decide_eq_true c14
            clear c14
            by_cases c15 : x7_1 > 0
            ·rw [if_pos c15] at H
             have c15b0 : decide (0 < x7_1) = true := decide_eq_true c15
             clear c15
             by_cases c16 : (rd l0 x7_1) = 0
             ·rw [if_pos c16] at H
              have c16b0 : ((rd l0 x7_1) == 0) = true := beq_iff_eq.mpr c16
              have c16b1 : ((rd l0 x7_1) != 0) = false := bne_eq_false_iff_eq.mpr c16
              clear c16
              simp only [Option.some.injEq, Prod.mk.injEq] at H
              obtain ⟨rfl, rfl, rfl⟩ := H
              have p719 : 0 ≤ (x7_1 : Int) := of_decide_eq_true y3_
              have q719 : x7_1 < (l0.length : Int) := of_decide_eq_true y3_
              obtain ⟨ad719, e719, hx719_0⟩ := Kd.at_int HR0.out x7_1 p719 q719
              cases e719
              replace p719 := eq_true p719
              replace q719 := eq_true q719
              have p720 : 0 ≤ (x7_1 : Int) := of_decide_eq_true y3_
              have q720 : x7_1 < (l0.length : Int) := of_decide_eq_true y3_
              obtain ⟨ad720, e720, hx720_0⟩ := Kd.at_int HR0.out x7_1 p720 q720
              obtain rfl : ad719 = ad720 := (by injection e720)
              replace p720 := eq_true p720
              replace q720 := eq_true q720
              have p721 : 0 ≤ (x7_1 : Int) := of_decide_eq_true y3_
              have q721 : x7_1 < (l0.length : Int) := of_decide_eq_true y3_
              obtain ⟨ad721, e721, hx721_0⟩ := Kd.at_int HR0.out x7_1 p721 q721
              obtain rfl : ad719 = ad721 := (by injection e721)
              replace p721 := eq_true p721
              replace q721 := eq_true q721
              go_wp2
              go_ret3
              exact ⟨y40_, y6_⟩
             ·rw [if_neg c16] at H
              have c16b0 : ((rd l0 x7_1) == 0) = false := beq_eq_false_iff_ne.mpr c16
              have c16b1 : ((rd l0 x7_1) != 0) = true := bne_iff_ne.mpr c16
              simp only [Option.some.injEq, Prod.mk.injEq] at H
              obtain ⟨rfl, rfl, rfl⟩ := H
              have p719 : 0 ≤ (x7_1 : Int) := of_decide_eq_true y3_
              have q719 : x7_1 < (l0.length : Int) := of_decide_eq_true y3_
              obtain ⟨ad719, e719, hx719_0⟩ := Kd.at_int HR0.out x7_1 p719 q719
              cases e719
              replace p719 := eq_true p719
              replace q719 := eq_true q719
              have p720 : 0 ≤ (x7_1 : Int) := of_decide_eq_true y3_
              have q720 : x7_1 < (l0.length : Int) := of_decide_eq_true y3_
              obtain ⟨ad720, e720, hx720_0⟩ := Kd.at_int HR0.out x7_1 p720 q720
              obtain rfl : ad719 = ad720 := (by injection e720)
              replace p720 := eq_true p720
              replace q720 := eq_true q720
              have p721 : 0 ≤ (x7_1 : Int) := of_decide_eq_true y3_
              have q721 : x7_1 < (l0.length : Int) := of_decide_eq_true y3_
              obtain ⟨ad721, e721, hx721_0⟩ := Kd.at_int HR0.out x7_1 p721 q721
              obtain rfl : ad719 = ad721 := (by injection e721)
              replace p721 := eq_true p721
              replace q721 := eq_true q721
              go_wp2
              go_ret3
              exact ⟨y40_, y6_⟩
            ·rw [if_neg c15] at H
             have c15b0 : decide (0 < x7_1) = false := decide_eq_false c15
             clear c15
             simp only [Option.some.injEq, Prod.mk.injEq] at H
             obtain ⟨rfl, rfl, rfl⟩ := H
             have p719 : 0 ≤ (x7_1 : Int) := of_decide_eq_true y3_
             have q719 : x7_1 < (l0.length : Int) := of_decide_eq_true y3_
             obtain ⟨ad719, e719, hx719_0⟩ := Kd.at_int HR0.out x7_1 p719 q719
             cases e719
             replace p719 := eq_true p719
             replace q719 := eq_true q719
             have p720 : 0 ≤ (x7_1 : Int) := of_decide_eq_true y3_
             have q720 : x7_1 < (l0.length : Int) := of_decide_eq_true y3_
             obtain ⟨ad720, e720, hx720_0⟩ := Kd.at_int HR0.out x7_1 p720 q720
             obtain rfl : ad719 = ad720 := (by injection e720)
             replace p720 := eq_true p720
             replace q720 := eq_true q720
             go_wp2
             go_ret3
             exact ⟨y40_, y6_⟩
           ·rw [if_neg c14] at H
            have c14b0 : decide ((rd l0 x7_1) < 128) = false := decide_eq_false c14
            clear c14
            have H' := Aside0.mk H
            clear H
            have p719 : 0 ≤ (x7_1 : Int) := of_decide_eq_true y3_
            have q719 : x7_1 < (l0.length : Int) := of_decide_eq_true y3_
            obtain ⟨ad719, e719, hx719_0⟩ := Kd.at_int HR0.out x7_1 p719 q719
            cases e719
            replace p719 := eq_true p719
            replace q719 := eq_true q719
            have p720 : 0 ≤ (x7_1 : Int) := of_decide_eq_true y3_
            have q720 : x7_1 < (l0.length : Int) := of_decide_eq_true y3_
            obtain ⟨ad720, e720, hx720_0⟩ := Kd.at_int HR0.out x7_1 p720 q720
            obtain rfl : ad719 = ad720 := (by injection e720)
            replace p720 := eq_true p720
            replace q720 := eq_true q720
            go_wp2
            go_roundg kj3
            case measure => have := HK1.out; have := HJ3.out; omega
            case rel => exact ⟨(IntKind.u64.wrap (x5_1 + (ji13))), (wrap64 (x7_1 + 1)), (by first | rfl | (simp; done) | ((simp only [← hji13] <;> (first | rfl | simp)); done) | (congr 1; first | assumption | (symm; assumption)) | (simp [*]; done)), y4_, H', ⟨by have := HK1.out; have := HJ3.out; omega⟩, y6_⟩
          ·rw [if_neg c12] at H
           exact absurd H (by simp)
         ·rw [if_neg c10] at H
          exact absurd H (by simp)
        ·rw [if_neg c9] at H
         exact absurd H (by simp)
   ·rw [if_neg c2] at H
    have c2b0 : decide (x7_1 < 10) = false := decide_eq_false c2
    clear c2
    simp only [Option.some.injEq, Prod.mk.injEq] at H
    obtain ⟨rfl, rfl, rfl⟩ := H
    go_wp2
    go_ret3
    exact ⟨y11_, y6_⟩
def manometerref05_took.f (k : Nat) (l0 : List Int) (a1 : Int) : Option (ByteArray × List Int × Int) := (manometerref01_Uvarint.f k l0).bind fun bt722 => (if bt722.2.2 = 0 then (if bt722.1 > a1 then (some ((⟨#[]⟩ : ByteArray), ([] : List Int), 3)) else (if bt722.1 > (IntKind.u64.wrap (wrap64 ((l0.length : Int) - bt722.2.1))) then (some ((⟨#[]⟩ : ByteArray), ([] : List Int), 6)) else (if 0 ≤ bt722.2.1 then (if bt722.2.1 ≤ (wrap64 (bt722.2.1 + (wrap64 (bt722.1)))) then (if (wrap64 (bt722.2.1 + (wrap64 (bt722.1)))) ≤ (l0.length : Int) then (if 0 ≤ (wrap64 (bt722.2.1 + (wrap64 (bt722.1)))) then (some (strOfNums ((l0.take ((wrap64 (bt722.2.1 + (wrap64 (bt722.1)))) : Int).toNat).drop (bt722.2.1 : Int).toNat), (l0.drop ((wrap64 (bt722.2.1 + (wrap64 (bt722.1)))) : Int).toNat), 0)) else (none)) else (none)) else (none)) else (none)))) else (some ((⟨#[]⟩ : ByteArray), ([] : List Int), bt722.2.2)))
set_option maxHeartbeats 8000000 in
set_option maxRecDepth 100000 in
theorem manometerref05_took.calls (k : Nat) (P0_ : Nat → Prop) (A0 : Option Addr) (c0 : Nat) (l0 : List Int) (a1 : Int) (r1 : ByteArray) (r2 : List Int) (r3 : Int) (w : World) (hs0 : Kd.V (Kd.int .u8) 5 w w.heap.size (fun k_ => P0_ k_) (.slice A0 l0.length c0) l0) (h : manometerref05_took.f k l0 a1 = some (r1, r2, r3)) :
  Calls Tryd.prog 78 #[.slice A0 l0.length c0, .int .u64 a1] w fun e w' => ∃ v1_ : Value, e = .returned (.tuple #[.string r1, v1_, .int .i64 r3]) ∧ Kd.V (Kd.int .u8) 5 w' w.heap.size (fun k_ => (P0_ k_ ∨ w.heap.size ≤ k_)) v1_ r2 ∧ Below w.heap.size w w' := by
 have HO0 := Aside0.mk (show Kd.V (Kd.int .u8) 5 w w.heap.size (fun k_ => (P0_ k_ ∨ w.heap.size ≤ k_)) (.slice A0 l0.length c0) l0 from Kd.V_mono hs0 (fun k_ hk => .inl hk))
 have HB := Aside0.mk (Below.refl w.heap.size w)
 have H : ((manometerref01_Uvarint.f k l0).bind fun bt722 => (if bt722.2.2 = 0 then (if bt722.1 > a1 then (some ((⟨#[]⟩ : ByteArray), ([] : List Int), 3)) else (if bt722.1 > (IntKind.u64.wrap (wrap64 ((l0.length : Int) - bt722.2.1))) then (some ((⟨#[]⟩ : ByteArray), ([] : List Int), 6)) else (if 0 ≤ bt722.2.1 then (if bt722.2.1 ≤ (wrap64 (bt722.2.1 + (wrap64 (bt722.1)))) then (if (wrap64 (bt722.2.1 + (wrap64 (bt722.1)))) ≤ (l0.length : Int) then (if 0 ≤ (wrap64 (bt722.2.1 + (wrap64 (bt722.1)))) then (some (strOfNums ((l0.take ((wrap64 (bt722.2.1 + (wrap64 (bt722.1)))) : Int).toNat).drop (bt722.2.1 : Int).toNat), (l0.drop ((wrap64 (bt722.2.1 + (wrap64 (bt722.1)))) : Int).toNat), 0)) else (none)) else (none)) else (none)) else (none)))) else (some ((⟨#[]⟩ : ByteArray), ([] : List Int), bt722.2.2)))) = some (r1, r2, r3) := h
 clear h
 replace H := Option.bind_eq_some_iff.mp H
 obtain ⟨⟨t722, t723, t724⟩, A30, H⟩ := H
 replace H : (if t724 = 0 then (if t722 > a1 then (some ((⟨#[]⟩ : ByteArray), ([] : List Int), 3)) else (if t722 > (IntKind.u64.wrap (wrap64 ((l0.length : Int) - t723))) then (some ((⟨#[]⟩ : ByteArray), ([] : List Int), 6)) else (if 0 ≤ t723 then (if t723 ≤ (wrap64 (t723 + (wrap64 (t722)))) then (if (wrap64 (t723 + (wrap64 (t722)))) ≤ (l0.length : Int) then (if 0 ≤ (wrap64 (t723 + (wrap64 (t722)))) then (some (strOfNums ((l0.take ((wrap64 (t723 + (wrap64 (t722)))) : Int).toNat).drop (t723 : Int).toNat), (l0.drop ((wrap64 (t723 + (wrap64 (t722)))) : Int).toNat), 0)) else (none)) else (none)) else (none)) else (none)))) else (some ((⟨#[]⟩ : ByteArray), ([] : List Int), t724))) = some (r1, r2, r3) := H
 have A3 := Aside0.mk A30
 clear A30
 by_cases c4 : t724 = 0
 ·rw [if_pos c4] at H
  have c4b0 : (t724 == 0) = true := beq_iff_eq.mpr c4
  have c4b1 : (t724 != 0) = false := bne_eq_false_iff_eq.mpr c4
  clear c4
  by_cases c5 : t722 > a1
  ·rw [if_pos c5] at H
   have c5b0 : decide (a1 < t722) = true := decide_eq_true c5
   clear c5
   simp only [Option.some.injEq, Prod.mk.injEq] at H
   obtain ⟨rfl, rfl, rfl⟩ := H
   go_enter Tryd.func78, Tryd.ntmps78
   go_wp2_with (first | (go_at_call 77; (with_reducible refine (manometerref01_Uvarint.calls k _ _ l0 t722 t723 t724 _ ?side1 ?side2 A3.out).mono ?_); (case side1 => repeat (first | exact (Kd.V_reads' HO0.out).2.2 | (with_reducible refine Kd.C_alloc ?_ _) | (with_reducible refine Kd.C_drewN ?_ _) | (with_reducible refine Kd.C_drew ?_))); (case side2 => exact (Kd.V_reads' HO0.out).2.1); rintro e w' ⟨rfl, ⟨nd, rfl⟩⟩; (try first | exact ⟨rfl, _, World.drewN_drewN _ _ _⟩ | exact ⟨rfl, _, Eq.trans (World.drewN_drewN _ _ _) (congrArg (World.drewN _) (Nat.add_assoc _ _ _))⟩)))
   repeat (go_quiet (first | (go_at_call 77; (with_reducible refine (manometerref01_Uvarint.calls k _ _ l0 t722 t723 t724 _ ?side1 ?side2 A3.out).mono ?_); (case side1 => repeat (first | exact (Kd.V_reads' HO0.out).2.2 | (with_reducible refine Kd.C_alloc ?_ _) | (with_reducible refine Kd.C_drewN ?_ _) | (with_reducible refine Kd.C_drew ?_))); (case side2 => exact (Kd.V_reads' HO0.out).2.1); rintro e w' ⟨rfl, ⟨nd, rfl⟩⟩; (try first | exact ⟨rfl, _, World.drewN_drewN _ _ _⟩ | exact ⟨rfl, _, Eq.trans (World.drewN_drewN _ _ _) (congrArg (World.drewN _) (Nat.add_assoc _ _ _))⟩))); try go_wp2_with (first | (go_at_call 77; (with_reducible refine (manometerref01_Uvarint.calls k _ _ l0 t722 t723 t724 _ ?side1 ?side2 A3.out).mono ?_); (case side1 => repeat (first | exact (Kd.V_reads' HO0.out).2.2 | (with_reducible refine Kd.C_alloc ?_ _) | (with_reducible refine Kd.C_drewN ?_ _) | (with_reducible refine Kd.C_drew ?_))); (case side2 => exact (Kd.V_reads' HO0.out).2.1); rintro e w' ⟨rfl, ⟨nd, rfl⟩⟩; (try first | exact ⟨rfl, _, World.drewN_drewN _ _ _⟩ | exact ⟨rfl, _, Eq.trans (World.drewN_drewN _ _ _) (congrArg (World.drewN _) (Nat.add_assoc _ _ _))⟩))))
   go_ret3
   exact ⟨_, y7_, Kd.V_nil _ _ _ _ _, y1_⟩
  ·rw [if_neg c5] at H
   have c5b0 : decide (a1 < t722) = false := decide_eq_false c5
   clear c5
   by_cases c6 : t722 > (IntKind.u64.wrap (wrap64 ((l0.length : Int) - t723)))
   ·rw [if_pos c6] at H
    have c6b0 : decide ((IntKind.u64.wrap (wrap64 ((l0.length : Int) - t723))) < t722) = true := decide_eq_true c6
    clear c6
    simp only [Option.some.injEq, Prod.mk.injEq] at H
    obtain ⟨rfl, rfl, rfl⟩ := H
    go_enter Tryd.func78, Tryd.ntmps78
    go_wp2_with (first | (go_at_call 77; (with_reducible refine (manometerref01_Uvarint.calls k _ _ l0 t722 t723 t724 _ ?side1 ?side2 A3.out).mono ?_); (case side1 => repeat (first | exact (Kd.V_reads' HO0.out).2.2 | (with_reducible refine Kd.C_alloc ?_ _) | (with_reducible refine Kd.C_drewN ?_ _) | (with_reducible refine Kd.C_drew ?_))); (case side2 => exact (Kd.V_reads' HO0.out).2.1); rintro e w' ⟨rfl, ⟨nd, rfl⟩⟩; (try first | exact ⟨rfl, _, World.drewN_drewN _ _ _⟩ | exact ⟨rfl, _, Eq.trans (World.drewN_drewN _ _ _) (congrArg (World.drewN _) (Nat.add_assoc _ _ _))⟩)))
    repeat (go_quiet (first | (go_at_call 77; (with_reducible refine (manometerref01_Uvarint.calls k _ _ l0 t722 t723 t724 _ ?side1 ?side2 A3.out).mono ?_); (case side1 => repeat (first | exact (Kd.V_reads' HO0.out).2.2 | (with_reducible refine Kd.C_alloc ?_ _) | (with_reducible refine Kd.C_drewN ?_ _) | (with_reducible refine Kd.C_drew ?_))); (case side2 => exact (Kd.V_reads' HO0.out).2.1); rintro e w' ⟨rfl, ⟨nd, rfl⟩⟩; (try first | exact ⟨rfl, _, World.drewN_drewN _ _ _⟩ | exact ⟨rfl, _, Eq.trans (World.drewN_drewN _ _ _) (congrArg (World.drewN _) (Nat.add_assoc _ _ _))⟩))); try go_wp2_with (first | (go_at_call 77; (with_reducible refine (manometerref01_Uvarint.calls k _ _ l0 t722 t723 t724 _ ?side1 ?side2 A3.out).mono ?_); (case side1 => repeat (first | exact (Kd.V_reads' HO0.out).2.2 | (with_reducible refine Kd.C_alloc ?_ _) | (with_reducible refine Kd.C_drewN ?_ _) | (with_reducible refine Kd.C_drew ?_))); (case side2 => exact (Kd.V_reads' HO0.out).2.1); rintro e w' ⟨rfl, ⟨nd, rfl⟩⟩; (try first | exact ⟨rfl, _, World.drewN_drewN _ _ _⟩ | exact ⟨rfl, _, Eq.trans (World.drewN_drewN _ _ _) (congrArg (World.drewN _) (Nat.add_assoc _ _ _))⟩))))
    go_ret3
    exact ⟨_, y7_, Kd.V_nil _ _ _ _ _, y1_⟩
   ·rw [if_neg c6] at H
    have c6b0 : decide ((IntKind.u64.wrap (wrap64 ((l0.length : Int) - t723))) < t722) = false := decide_eq_false c6
    clear c6
    by_cases c7 : 0 ≤ t723
    ·rw [if_pos c7] at H
     have c7b0 := eq_true c7
     have c7b1 : decide (0 ≤ t723) = true := decide_eq_true c7
     clear c7
     by_cases c8 : t723 ≤ (wrap64 (t723 + (wrap64 (t722))))
     ·rw [if_pos c8] at H
      have c8b0 := eq_true c8
      have c8b1 : decide (t723 ≤ (wrap64 (t723 + (wrap64 (t722))))) = true := decide_eq_true c8
      by_cases c9 : (wrap64 (t723 + (wrap64 (t722)))) ≤ (l0.length : Int)
      ·rw [if_pos c9] at H
       have c9b0 := eq_true c9
       have c9b1 : decide ((wrap64 (t723 + (wrap64 (t722)))) ≤ (l0.length : Int)) = true := decide_eq_true c9
       obtain ⟨y725, hy725⟩ : ∃ y_ : List Int, y_ = ((l0.take ((wrap64 (t723 + (wrap64 (t722)))) : Int).toNat).drop (t723 : Int).toNat) := ⟨_, rfl⟩
       replace H : (if 0 ≤ (wrap64 (t723 + (wrap64 (t722)))) then (some (strOfNums y725, (l0.drop ((wrap64 (t723 + (wrap64 (t722)))) : Int).toNat), 0)) else (none)) = some (r1, r2, r3) := by first | (rw [hy725]; with_reducible exact H) | (have H2_ := (Option.bind_some _ _).symm.trans H; rw [hy725]; with_reducible exact H2_) | (have H2_ := (Option.bind_some _ _).symm.trans H; with_reducible exact H2_) | with_reducible exact H | (rw [hy725]; exact H) | exact H
       have Ny725 := Aside0.mk hy725
       clear hy725
       obtain ⟨ji10, hji10⟩ : ∃ j_ : Int, (wrap64 (t723 + (wrap64 (t722)))) = j_ := ⟨_, rfl⟩
       replace H : (if 0 ≤ (ji10) then (some (strOfNums y725, (l0.drop ((ji10) : Int).toNat), 0)) else (none)) = some (r1, r2, r3) := by first | (rw [hji10] at H; exact H) | (simp only [hji10] at H ⊢; exact H)
       (try rw [hji10] at c8b0)
       (try rw [hji10] at c8b1)
       (try rw [hji10] at c8)
       (try rw [hji10] at c9b0)
       (try rw [hji10] at c9b1)
       (try rw [hji10] at c9)
       (try rw [hji10] at A3)
       (try rw [hji10] at Ny725)
       (try rw [hji10] at Ny725)
       have hji10w : (IntKind.i64.wrap (t723 + (wrap64 (t722)))) = ji10 := (i64_w _).trans hji10
       by_cases c11 : 0 ≤ (ji10)
       ·rw [if_pos c11] at H
        have c11b0 := eq_true c11
        have c11b1 : decide (0 ≤ (ji10)) = true := decide_eq_true c11
        clear c11
        have c12b0 := eq_true (of_decide_eq_true y3_ : (ji10) ≤ (l0.length : Int))
        obtain ⟨y730, hy730⟩ : ∃ y_ : List Int, y_ = (l0.drop ((ji10) : Int).toNat) := ⟨_, rfl⟩
        replace H : (some (strOfNums y725, y730, 0)) = some (r1, r2, r3) := by first | (rw [hy730]; with_reducible exact H) | (have H2_ := (Option.bind_some _ _).symm.trans H; rw [hy730]; with_reducible exact H2_) | (have H2_ := (Option.bind_some _ _).symm.trans H; with_reducible exact H2_) | with_reducible exact H | (rw [hy730]; exact H) | exact H
        have Ny730 := Aside0.mk hy730
        clear hy730
        simp only [Option.some.injEq, Prod.mk.injEq] at H
        obtain ⟨rfl, rfl, rfl⟩ := H
        go_enter Tryd.func78, Tryd.ntmps78
        go_wp2_with (first | (go_at_call 77; (with_reducible refine (manometerref01_Uvarint.calls k _ _ l0 t722 t723 t724 _ ?side1 ?side2 A3.out).mono ?_); (case side1 => repeat (first | exact (Kd.V_reads' HO0.out).2.2 | (with_reducible refine Kd.C_alloc ?_ _) | (with_reducible refine Kd.C_drewN ?_ _) | (with_reducible refine Kd.C_drew ?_))); (case side2 => exact (Kd.V_reads' HO0.out).2.1); rintro e w' ⟨rfl, ⟨nd, rfl⟩⟩; (try first | exact ⟨rfl, _, World.drewN_drewN _ _ _⟩ | exact ⟨rfl, _, Eq.trans (World.drewN_drewN _ _ _) (congrArg (World.drewN _) (Nat.add_assoc _ _ _))⟩); have q13 : ((ji10) : Int) ≤ ((l0.length : Int) : Int) := of_decide_eq_true y3_; obtain ⟨i013, hi013, _, hsz13, _⟩ := info_parts info5; have hroom13 : l0.length ≤ c0 := (Kd.V_reads' HO0.out).2.1; have hC13 : Kd.F (Kd.int .u8) _ _ A0 l0.length l0 := (Kd.V_at (base := w.heap.size) HO0.out).2.2; have ql13 : (t723 : Int) ≤ ((ji10) : Int) := of_decide_eq_true y3_; have q013 : (0 : Int) ≤ (t723 : Int) := of_decide_eq_true y3_; have hcut13 := cut_mid (P := Tryd.prog) 53 5 .i64 .i64 Tryd.underlying53 hi013 1 hsz13 A0 l0.length c0 t723 (ji10) q013 ql13 q13 hroom13; have hr13 := Kd.F_mid (lo := (t723 : Int).toNat) (hi := ((ji10) : Int).toNat) (c := c0) hC13 (by omega) (by omega) hroom13; obtain ⟨A13, hA13⟩ : ∃ A1, A1 = (if c0 = (t723 : Int).toNat then A0 else (A0 : Option Addr).map (·.add ((t723 : Int).toNat * 1))) := ⟨_, rfl⟩; obtain ⟨c13, hc13⟩ : ∃ c1, c1 = c0 - (t723 : Int).toNat := ⟨_, rfl⟩; have hy13 : y725.length = ((ji10) : Int).toNat - (t723 : Int).toNat := (by rw [Ny725.out, List.length_drop, List.length_take] <;> omega); rw [show ((l0).take ((ji10) : Int).toNat).drop (t723 : Int).toNat = y725 from Ny725.out.symm] at hr13; replace hr13 : Kd.F (Kd.int .u8) _ _ A13 y725.length y725 := (by rw [hA13]; exact hr13); rw [← hy13, ← hA13, ← hc13] at hcut13; have HO729 := Aside0.mk (show Kd.V (Kd.int .u8) 5 _ w.heap.size _ (.slice A13 y725.length c13) y725 from Kd.V_mk (by rw [hy13, hc13]; exact Nat.sub_le_sub_right (Nat.le_trans (by omega) hroom13) _) hr13); have HC729 := Aside0.mk (show y725.length ≤ c13 from by rw [hy13, hc13]; exact Nat.sub_le_sub_right (Nat.le_trans (by omega) hroom13) _); clear hr13 hC13 hroom13 hi013 hsz13 hc13; have KY13 := Aside0.mk hy13; have KA13 := Aside0.mk hA13; clear hy13 hA13; replace q13 := eq_true q13; have hcv14 := Kd.C_string (P := Tryd.prog) (A := A13) (c := c13) Tryd.underlying53 Tryd.underlying5 Tryd.underlying9 (Kd.V_reads' HO729.out).2.2; have hcv14n := fun m_ : Nat => Kd.C_string (P := Tryd.prog) (A := A13) (c := c13) Tryd.underlying53 Tryd.underlying5 Tryd.underlying9 (Kd.C_drewN ((Kd.V_reads' HO729.out).2.2) m_); (try simp only [List.length_drop, List.length_take] at hcv14n); (try rw [Nat.min_eq_left (by omega)] at hcv14n); have q15 : ((ji10) : Int) ≤ ((l0.length : Int) : Int) := of_decide_eq_true y3_; obtain ⟨i015, hi015, _, hsz15, _⟩ := info_parts info5; have hroom15 : l0.length ≤ c0 := (Kd.V_reads' HO0.out).2.1; have hC15 : Kd.F (Kd.int .u8) _ _ A0 l0.length l0 := (Kd.V_at (base := w.heap.size) HO0.out).2.2; have q015 : (0 : Int) ≤ ((ji10) : Int) := of_decide_eq_true y3_; have hcut15 := cut_from (P := Tryd.prog) 53 5 .i64 Tryd.underlying53 hi015 1 hsz15 A0 l0.length c0 (ji10) q015 q15; have hr15 := Kd.F_cut (m := ((ji10) : Int).toNat) (c := c0) hC15 (by omega) hroom15; obtain ⟨A15, hA15⟩ : ∃ A1, A1 = (if c0 = ((ji10) : Int).toNat then A0 else (A0 : Option Addr).map (·.add (((ji10) : Int).toNat * 1))) := ⟨_, rfl⟩; obtain ⟨c15, hc15⟩ : ∃ c1, c1 = c0 - ((ji10) : Int).toNat := ⟨_, rfl⟩; have hy15 : y730.length = l0.length - ((ji10) : Int).toNat := (by rw [Ny730.out, List.length_drop] <;> omega); rw [show (l0).drop ((ji10) : Int).toNat = y730 from Ny730.out.symm] at hr15; replace hr15 : Kd.F (Kd.int .u8) _ _ A15 y730.length y730 := (by rw [hA15]; exact hr15); rw [← hy15, ← hA15, ← hc15] at hcut15; have HO734 := Aside0.mk (show Kd.V (Kd.int .u8) 5 _ w.heap.size _ (.slice A15 y730.length c15) y730 from Kd.V_mk (by rw [hy15, hc15]; exact Nat.sub_le_sub_right hroom15 _) hr15); have HC734 := Aside0.mk (show y730.length ≤ c15 from by rw [hy15, hc15]; exact Nat.sub_le_sub_right hroom15 _); clear hr15 hC15 hroom15 hi015 hsz15 hc15; have KY15 := Aside0.mk hy15; have KA15 := Aside0.mk hA15; clear hy15 hA15; replace q15 := eq_true q15))
        repeat (go_quiet (first | (go_at_call 77; (with_reducible refine (manometerref01_Uvarint.calls k _ _ l0 t722 t723 t724 _ ?side1 ?side2 A3.out).mono ?_); (case side1 => repeat (first | exact (Kd.V_reads' HO0.out).2.2 | (with_reducible refine Kd.C_alloc ?_ _) | (with_reducible refine Kd.C_drewN ?_ _) | (with_reducible refine Kd.C_drew ?_))); (case side2 => exact (Kd.V_reads' HO0.out).2.1); rintro e w' ⟨rfl, ⟨nd, rfl⟩⟩; (try first | exact ⟨rfl, _, World.drewN_drewN _ _ _⟩ | exact ⟨rfl, _, Eq.trans (World.drewN_drewN _ _ _) (congrArg (World.drewN _) (Nat.add_assoc _ _ _))⟩); have q13 : ((ji10) : Int) ≤ ((l0.length : Int) : Int) := of_decide_eq_true y3_; obtain ⟨i013, hi013, _, hsz13, _⟩ := info_parts info5; have hroom13 : l0.length ≤ c0 := (Kd.V_reads' HO0.out).2.1; have hC13 : Kd.F (Kd.int .u8) _ _ A0 l0.length l0 := (Kd.V_at (base := w.heap.size) HO0.out).2.2; have ql13 : (t723 : Int) ≤ ((ji10) : Int) := of_decide_eq_true y3_; have q013 : (0 : Int) ≤ (t723 : Int) := of_decide_eq_true y3_; have hcut13 := cut_mid (P := Tryd.prog) 53 5 .i64 .i64 Tryd.underlying53 hi013 1 hsz13 A0 l0.length c0 t723 (ji10) q013 ql13 q13 hroom13; have hr13 := Kd.F_mid (lo := (t723 : Int).toNat) (hi := ((ji10) : Int).toNat) (c := c0) hC13 (by omega) (by omega) hroom13; obtain ⟨A13, hA13⟩ : ∃ A1, A1 = (if c0 = (t723 : Int).toNat then A0 else (A0 : Option Addr).map (·.add ((t723 : Int).toNat * 1))) := ⟨_, rfl⟩; obtain ⟨c13, hc13⟩ : ∃ c1, c1 = c0 - (t723 : Int).toNat := ⟨_, rfl⟩; have hy13 : y725.length = ((ji10) : Int).toNat - (t723 : Int).toNat := (by rw [Ny725.out, List.length_drop, List.length_take] <;> omega); rw [show ((l0).take ((ji10) : Int).toNat).drop (t723 : Int).toNat = y725 from Ny725.out.symm] at hr13; replace hr13 : Kd.F (Kd.int .u8) _ _ A13 y725.length y725 := (by rw [hA13]; exact hr13); rw [← hy13, ← hA13, ← hc13] at hcut13; have HO729 := Aside0.mk (show Kd.V (Kd.int .u8) 5 _ w.heap.size _ (.slice A13 y725.length c13) y725 from Kd.V_mk (by rw [hy13, hc13]; exact Nat.sub_le_sub_right (Nat.le_trans (by omega) hroom13) _) hr13); have HC729 := Aside0.mk (show y725.length ≤ c13 from by rw [hy13, hc13]; exact Nat.sub_le_sub_right (Nat.le_trans (by omega) hroom13) _); clear hr13 hC13 hroom13 hi013 hsz13 hc13; have KY13 := Aside0.mk hy13; have KA13 := Aside0.mk hA13; clear hy13 hA13; replace q13 := eq_true q13; have hcv14 := Kd.C_string (P := Tryd.prog) (A := A13) (c := c13) Tryd.underlying53 Tryd.underlying5 Tryd.underlying9 (Kd.V_reads' HO729.out).2.2; have hcv14n := fun m_ : Nat => Kd.C_string (P := Tryd.prog) (A := A13) (c := c13) Tryd.underlying53 Tryd.underlying5 Tryd.underlying9 (Kd.C_drewN ((Kd.V_reads' HO729.out).2.2) m_); (try simp only [List.length_drop, List.length_take] at hcv14n); (try rw [Nat.min_eq_left (by omega)] at hcv14n); have q15 : ((ji10) : Int) ≤ ((l0.length : Int) : Int) := of_decide_eq_true y3_; obtain ⟨i015, hi015, _, hsz15, _⟩ := info_parts info5; have hroom15 : l0.length ≤ c0 := (Kd.V_reads' HO0.out).2.1; have hC15 : Kd.F (Kd.int .u8) _ _ A0 l0.length l0 := (Kd.V_at (base := w.heap.size) HO0.out).2.2; have q015 : (0 : Int) ≤ ((ji10) : Int) := of_decide_eq_true y3_; have hcut15 := cut_from (P := Tryd.prog) 53 5 .i64 Tryd.underlying53 hi015 1 hsz15 A0 l0.length c0 (ji10) q015 q15; have hr15 := Kd.F_cut (m := ((ji10) : Int).toNat) (c := c0) hC15 (by omega) hroom15; obtain ⟨A15, hA15⟩ : ∃ A1, A1 = (if c0 = ((ji10) : Int).toNat then A0 else (A0 : Option Addr).map (·.add (((ji10) : Int).toNat * 1))) := ⟨_, rfl⟩; obtain ⟨c15, hc15⟩ : ∃ c1, c1 = c0 - ((ji10) : Int).toNat := ⟨_, rfl⟩; have hy15 : y730.length = l0.length - ((ji10) : Int).toNat := (by rw [Ny730.out, List.length_drop] <;> omega); rw [show (l0).drop ((ji10) : Int).toNat = y730 from Ny730.out.symm] at hr15; replace hr15 : Kd.F (Kd.int .u8) _ _ A15 y730.length y730 := (by rw [hA15]; exact hr15); rw [← hy15, ← hA15, ← hc15] at hcut15; have HO734 := Aside0.mk (show Kd.V (Kd.int .u8) 5 _ w.heap.size _ (.slice A15 y730.length c15) y730 from Kd.V_mk (by rw [hy15, hc15]; exact Nat.sub_le_sub_right hroom15 _) hr15); have HC734 := Aside0.mk (show y730.length ≤ c15 from by rw [hy15, hc15]; exact Nat.sub_le_sub_right hroom15 _); clear hr15 hC15 hroom15 hi015 hsz15 hc15; have KY15 := Aside0.mk hy15; have KA15 := Aside0.mk hA15; clear hy15 hA15; replace q15 := eq_true q15)); try go_wp2_with (first | (go_at_call 77; (with_reducible refine (manometerref01_Uvarint.calls k _ _ l0 t722 t723 t724 _ ?side1 ?side2 A3.out).mono ?_); (case side1 => repeat (first | exact (Kd.V_reads' HO0.out).2.2 | (with_reducible refine Kd.C_alloc ?_ _) | (with_reducible refine Kd.C_drewN ?_ _) | (with_reducible refine Kd.C_drew ?_))); (case side2 => exact (Kd.V_reads' HO0.out).2.1); rintro e w' ⟨rfl, ⟨nd, rfl⟩⟩; (try first | exact ⟨rfl, _, World.drewN_drewN _ _ _⟩ | exact ⟨rfl, _, Eq.trans (World.drewN_drewN _ _ _) (congrArg (World.drewN _) (Nat.add_assoc _ _ _))⟩); have q13 : ((ji10) : Int) ≤ ((l0.length : Int) : Int) := of_decide_eq_true y3_; obtain ⟨i013, hi013, _, hsz13, _⟩ := info_parts info5; have hroom13 : l0.length ≤ c0 := (Kd.V_reads' HO0.out).2.1; have hC13 : Kd.F (Kd.int .u8) _ _ A0 l0.length l0 := (Kd.V_at (base := w.heap.size) HO0.out).2.2; have ql13 : (t723 : Int) ≤ ((ji10) : Int) := of_decide_eq_true y3_; have q013 : (0 : Int) ≤ (t723 : Int) := of_decide_eq_true y3_; have hcut13 := cut_mid (P := Tryd.prog) 53 5 .i64 .i64 Tryd.underlying53 hi013 1 hsz13 A0 l0.length c0 t723 (ji10) q013 ql13 q13 hroom13; have hr13 := Kd.F_mid (lo := (t723 : Int).toNat) (hi := ((ji10) : Int).toNat) (c := c0) hC13 (by omega) (by omega) hroom13; obtain ⟨A13, hA13⟩ : ∃ A1, A1 = (if c0 = (t723 : Int).toNat then A0 else (A0 : Option Addr).map (·.add ((t723 : Int).toNat * 1))) := ⟨_, rfl⟩; obtain ⟨c13, hc13⟩ : ∃ c1, c1 = c0 - (t723 : Int).toNat := ⟨_, rfl⟩; have hy13 : y725.length = ((ji10) : Int).toNat - (t723 : Int).toNat := (by rw [Ny725.out, List.length_drop, List.length_take] <;> omega); rw [show ((l0).take ((ji10) : Int).toNat).drop (t723 : Int).toNat = y725 from Ny725.out.symm] at hr13; replace hr13 : Kd.F (Kd.int .u8) _ _ A13 y725.length y725 := (by rw [hA13]; exact hr13); rw [← hy13, ← hA13, ← hc13] at hcut13; have HO729 := Aside0.mk (show Kd.V (Kd.int .u8) 5 _ w.heap.size _ (.slice A13 y725.length c13) y725 from Kd.V_mk (by rw [hy13, hc13]; exact Nat.sub_le_sub_right (Nat.le_trans (by omega) hroom13) _) hr13); have HC729 := Aside0.mk (show y725.length ≤ c13 from by rw [hy13, hc13]; exact Nat.sub_le_sub_right (Nat.le_trans (by omega) hroom13) _); clear hr13 hC13 hroom13 hi013 hsz13 hc13; have KY13 := Aside0.mk hy13; have KA13 := Aside0.mk hA13; clear hy13 hA13; replace q13 := eq_true q13; have hcv14 := Kd.C_string (P := Tryd.prog) (A := A13) (c := c13) Tryd.underlying53 Tryd.underlying5 Tryd.underlying9 (Kd.V_reads' HO729.out).2.2; have hcv14n := fun m_ : Nat => Kd.C_string (P := Tryd.prog) (A := A13) (c := c13) Tryd.underlying53 Tryd.underlying5 Tryd.underlying9 (Kd.C_drewN ((Kd.V_reads' HO729.out).2.2) m_); (try simp only [List.length_drop, List.length_take] at hcv14n); (try rw [Nat.min_eq_left (by omega)] at hcv14n); have q15 : ((ji10) : Int) ≤ ((l0.length : Int) : Int) := of_decide_eq_true y3_; obtain ⟨i015, hi015, _, hsz15, _⟩ := info_parts info5; have hroom15 : l0.length ≤ c0 := (Kd.V_reads' HO0.out).2.1; have hC15 : Kd.F (Kd.int .u8) _ _ A0 l0.length l0 := (Kd.V_at (base := w.heap.size) HO0.out).2.2; have q015 : (0 : Int) ≤ ((ji10) : Int) := of_decide_eq_true y3_; have hcut15 := cut_from (P := Tryd.prog) 53 5 .i64 Tryd.underlying53 hi015 1 hsz15 A0 l0.length c0 (ji10) q015 q15; have hr15 := Kd.F_cut (m := ((ji10) : Int).toNat) (c := c0) hC15 (by omega) hroom15; obtain ⟨A15, hA15⟩ : ∃ A1, A1 = (if c0 = ((ji10) : Int).toNat then A0 else (A0 : Option Addr).map (·.add (((ji10) : Int).toNat * 1))) := ⟨_, rfl⟩; obtain ⟨c15, hc15⟩ : ∃ c1, c1 = c0 - ((ji10) : Int).toNat := ⟨_, rfl⟩; have hy15 : y730.length = l0.length - ((ji10) : Int).toNat := (by rw [Ny730.out, List.length_drop] <;> omega); rw [show (l0).drop ((ji10) : Int).toNat = y730 from Ny730.out.symm] at hr15; replace hr15 : Kd.F (Kd.int .u8) _ _ A15 y730.length y730 := (by rw [hA15]; exact hr15); rw [← hy15, ← hA15, ← hc15] at hcut15; have HO734 := Aside0.mk (show Kd.V (Kd.int .u8) 5 _ w.heap.size _ (.slice A15 y730.length c15) y730 from Kd.V_mk (by rw [hy15, hc15]; exact Nat.sub_le_sub_right hroom15 _) hr15); have HC734 := Aside0.mk (show y730.length ≤ c15 from by rw [hy15, hc15]; exact Nat.sub_le_sub_right hroom15 _); clear hr15 hC15 hroom15 hi015 hsz15 hc15; have KY15 := Aside0.mk hy15; have KA15 := Aside0.mk hA15; clear hy15 hA15; replace q15 := eq_true q15)))
        go_ret3
        exact ⟨_, by first | rfl | (simp [errW_none, errW_some] <;> rfl) | (simp only [← hji10]; first | rfl | (simp [errW_none, errW_some] <;> rfl)) | (simp [*, errW_none, errW_some] <;> rfl), by (with_reducible repeat (first | apply Kd.V_alloc | apply Kd.V_drewN | apply Kd.V_drew)); exact HO734.out, y1_⟩
       ·rw [if_neg c11] at H
        exact absurd H (by simp)
      ·rw [if_neg c9] at H
       exact absurd H (by simp)
     ·rw [if_neg c8] at H
      exact absurd H (by simp)
    ·rw [if_neg c7] at H
     exact absurd H (by simp)
 ·rw [if_neg c4] at H
  have c4b0 : (t724 == 0) = false := beq_eq_false_iff_ne.mpr c4
  have c4b1 : (t724 != 0) = true := bne_iff_ne.mpr c4
  simp only [Option.some.injEq, Prod.mk.injEq] at H
  obtain ⟨rfl, rfl, rfl⟩ := H
  go_enter Tryd.func78, Tryd.ntmps78
  go_wp2_with (first | (go_at_call 77; (with_reducible refine (manometerref01_Uvarint.calls k _ _ l0 t722 t723 t724 _ ?side1 ?side2 A3.out).mono ?_); (case side1 => repeat (first | exact (Kd.V_reads' HO0.out).2.2 | (with_reducible refine Kd.C_alloc ?_ _) | (with_reducible refine Kd.C_drewN ?_ _) | (with_reducible refine Kd.C_drew ?_))); (case side2 => exact (Kd.V_reads' HO0.out).2.1); rintro e w' ⟨rfl, ⟨nd, rfl⟩⟩; (try first | exact ⟨rfl, _, World.drewN_drewN _ _ _⟩ | exact ⟨rfl, _, Eq.trans (World.drewN_drewN _ _ _) (congrArg (World.drewN _) (Nat.add_assoc _ _ _))⟩)))
  repeat (go_quiet (first | (go_at_call 77; (with_reducible refine (manometerref01_Uvarint.calls k _ _ l0 t722 t723 t724 _ ?side1 ?side2 A3.out).mono ?_); (case side1 => repeat (first | exact (Kd.V_reads' HO0.out).2.2 | (with_reducible refine Kd.C_alloc ?_ _) | (with_reducible refine Kd.C_drewN ?_ _) | (with_reducible refine Kd.C_drew ?_))); (case side2 => exact (Kd.V_reads' HO0.out).2.1); rintro e w' ⟨rfl, ⟨nd, rfl⟩⟩; (try first | exact ⟨rfl, _, World.drewN_drewN _ _ _⟩ | exact ⟨rfl, _, Eq.trans (World.drewN_drewN _ _ _) (congrArg (World.drewN _) (Nat.add_assoc _ _ _))⟩))); try go_wp2_with (first | (go_at_call 77; (with_reducible refine (manometerref01_Uvarint.calls k _ _ l0 t722 t723 t724 _ ?side1 ?side2 A3.out).mono ?_); (case side1 => repeat (first | exact (Kd.V_reads' HO0.out).2.2 | (with_reducible refine Kd.C_alloc ?_ _) | (with_reducible refine Kd.C_drewN ?_ _) | (with_reducible refine Kd.C_drew ?_))); (case side2 => exact (Kd.V_reads' HO0.out).2.1); rintro e w' ⟨rfl, ⟨nd, rfl⟩⟩; (try first | exact ⟨rfl, _, World.drewN_drewN _ _ _⟩ | exact ⟨rfl, _, Eq.trans (World.drewN_drewN _ _ _) (congrArg (World.drewN _) (Nat.add_assoc _ _ _))⟩))))
  go_ret3
  exact ⟨_, y7_, Kd.V_nil _ _ _ _ _, y1_⟩
def manometerref05_Take.l0 : Nat → List Int → List (S44) → List Int → Int → Int → Option ((List (S44)) × Int × Int)
 | 0, _, _, _, _, _ => none
 | k + 1, x0, x8, x9, x28, x29 => if x29 < x28 then ((manometerref05_took.f k x9 64).bind fun bt748 => (if bt748.2.2 = 0 then ((manometerref05_took.f k bt748.2.1 128).bind fun bt753 => (if bt753.2.2 = 0 then (if x8.length < 4398046511104 then (manometerref05_Take.l0 k x0 (x8 ++ [(⟨bt748.1, bt753.1⟩ : S44)]) bt753.2.1 x28 (wrap64 (x29 + 1))) else (none)) else (some (([] : List (S44)), 0, bt753.2.2)))) else (some (([] : List (S44)), 0, bt748.2.2)))) else ((manometerref05_Right.f k x8).bind fun t746 => (if t746 = 0 then (some (x8, wrap64 ((x0.length : Int) - (x9.length : Int)), 0)) else (some (([] : List (S44)), 0, t746))))
def manometerref05_Take.f (k : Nat) (l0 : List Int) : Option ((List (S44)) × Int × Int) := (manometerref01_Uvarint.f k l0).bind fun bt735 => (if bt735.2.2 = 0 then (if bt735.1 > 16 then (some (([] : List (S44)), 0, 3)) else (if 0 ≤ bt735.2.1 then (if bt735.2.1 ≤ (l0.length : Int) then (manometerref05_Take.l0 k l0 (([] : List (S44))) (l0.drop (bt735.2.1 : Int).toNat) (wrap64 (bt735.1)) 0) else (none)) else (none))) else (some (([] : List (S44)), 0, bt735.2.2)))
set_option maxHeartbeats 8000000 in
set_option maxRecDepth 100000 in
theorem manometerref05_Take.calls (k : Nat) (P0_ : Nat → Prop) (A0 : Option Addr) (c0 : Nat) (l0 : List Int) (r1 : List (S44)) (r2 : Int) (r3 : Int) (w : World) (hs0 : Kd.V (Kd.int .u8) 5 w w.heap.size (fun k_ => P0_ k_) (.slice A0 l0.length c0) l0) (h : manometerref05_Take.f k l0 = some (r1, r2, r3)) :
  Calls Tryd.prog 52 #[.slice A0 l0.length c0] w fun e w' => ∃ v0_ : Value, e = .returned (.tuple #[v0_, .int .i64 r2, .int .i64 r3]) ∧ Kd.R k44 44 w' w.heap.size (fun k_ => (w.heap.size ≤ k_)) v0_ r1 ∧ Below w.heap.size w w' := by
 have hu44 := Tryd.underlying44
 have HO0 := Aside0.mk (show Kd.V (Kd.int .u8) 5 w w.heap.size (fun k_ => (P0_ k_ ∨ w.heap.size ≤ k_)) (.slice A0 l0.length c0) l0 from Kd.V_mono hs0 (fun k_ hk => .inl hk))
 have HB := Aside0.mk (Below.refl w.heap.size w)
 have H : ((manometerref01_Uvarint.f k l0).bind fun bt735 => (if bt735.2.2 = 0 then (if bt735.1 > 16 then (some (([] : List (S44)), 0, 3)) else (if 0 ≤ bt735.2.1 then (if bt735.2.1 ≤ (l0.length : Int) then (manometerref05_Take.l0 k l0 (([] : List (S44))) (l0.drop (bt735.2.1 : Int).toNat) (wrap64 (bt735.1)) 0) else (none)) else (none))) else (some (([] : List (S44)), 0, bt735.2.2)))) = some (r1, r2, r3) := h
 clear h
 replace H := Option.bind_eq_some_iff.mp H
 obtain ⟨⟨t735, t736, t737⟩, A20, H⟩ := H
 replace H : (if t737 = 0 then (if t735 > 16 then (some (([] : List (S44)), 0, 3)) else (if 0 ≤ t736 then (if t736 ≤ (l0.length : Int) then (manometerref05_Take.l0 k l0 (([] : List (S44))) (l0.drop (t736 : Int).toNat) (wrap64 (t735)) 0) else (none)) else (none))) else (some (([] : List (S44)), 0, t737))) = some (r1, r2, r3) := H
 have A2 := Aside0.mk A20
 clear A20
 by_cases c3 : t737 = 0
 ·rw [if_pos c3] at H
  have c3b0 : (t737 == 0) = true := beq_iff_eq.mpr c3
  have c3b1 : (t737 != 0) = false := bne_eq_false_iff_eq.mpr c3
  clear c3
  by_cases c4 : t735 > 16
  ·rw [if_pos c4] at H
   have c4b0 : decide (16 < t735) = true := decide_eq_true c4
   clear c4
   simp only [Option.some.injEq, Prod.mk.injEq] at H
   obtain ⟨rfl, rfl, rfl⟩ := H
   go_enter Tryd.func52, Tryd.ntmps52
   go_wp2_with (first | ((with_reducible refine gate_callee (f := 77) rfl ?_); refine goesL_ (some 14) rfl rfl Tryd.func77 (by kernel_rfl) rfl #[.slice A0 l0.length c0] rfl y2_ ?_; (with_reducible refine (manometerref01_Uvarint.calls k _ _ l0 t735 t736 t737 _ ?side1 ?side2 A2.out).mono ?_); (case side1 => repeat (first | exact (Kd.V_reads' HO0.out).2.2 | (with_reducible refine Kd.C_alloc ?_ _) | (with_reducible refine Kd.C_drewN ?_ _) | (with_reducible refine Kd.C_drew ?_))); (case side2 => exact (Kd.V_reads' HO0.out).2.1); rintro e w' ⟨rfl, ⟨nd, rfl⟩⟩; refine ⟨_, rfl, ?_⟩))
   go_ret3
   exact ⟨_, y7_, y12_, y1_⟩
  ·rw [if_neg c4] at H
   have c4b0 : decide (16 < t735) = false := decide_eq_false c4
   clear c4
   obtain ⟨y738, hy738⟩ : ∃ y_ : List (S44), y_ = (([] : List (S44))) := ⟨_, rfl⟩
   replace H : (if 0 ≤ t736 then (if t736 ≤ (l0.length : Int) then (manometerref05_Take.l0 k l0 y738 (l0.drop (t736 : Int).toNat) (wrap64 (t735)) 0) else (none)) else (none)) = some (r1, r2, r3) := by first | (rw [hy738]; with_reducible exact H) | (have H2_ := (Option.bind_some _ _).symm.trans H; rw [hy738]; with_reducible exact H2_) | (have H2_ := (Option.bind_some _ _).symm.trans H; with_reducible exact H2_) | with_reducible exact H | (rw [hy738]; exact H) | exact H
   have Ny738 := Aside0.mk hy738
   clear hy738
   by_cases c5 : 0 ≤ t736
   ·rw [if_pos c5] at H
    have c5b0 := eq_true c5
    have c5b1 : decide (0 ≤ t736) = true := decide_eq_true c5
    clear c5
    by_cases c6 : t736 ≤ (l0.length : Int)
    ·rw [if_pos c6] at H
     have c6b0 := eq_true c6
     have c6b1 : decide (t736 ≤ (l0.length : Int)) = true := decide_eq_true c6
     clear c6
     obtain ⟨y741, hy741⟩ : ∃ y_ : List Int, y_ = (l0.drop (t736 : Int).toNat) := ⟨_, rfl⟩
     replace H : (manometerref05_Take.l0 k l0 y738 y741 (wrap64 (t735)) 0) = some (r1, r2, r3) := by first | (rw [hy741]; with_reducible exact H) | (have H2_ := (Option.bind_some _ _).symm.trans H; rw [hy741]; with_reducible exact H2_) | (have H2_ := (Option.bind_some _ _).symm.trans H; with_reducible exact H2_) | with_reducible exact H | (rw [hy741]; exact H) | exact H
     have Ny741 := Aside0.mk hy741
     clear hy741
     have H' := Aside0.mk H
     clear H
     go_enter Tryd.func52, Tryd.ntmps52
     try go_wp2_with (first | ((with_reducible refine gate_callee (f := 77) rfl ?_); refine goesL_ (some 14) rfl rfl Tryd.func77 (by kernel_rfl) rfl #[.slice A0 l0.length c0] rfl y2_ ?_; (with_reducible refine (manometerref01_Uvarint.calls k _ _ l0 t735 t736 t737 _ ?side1 ?side2 A2.out).mono ?_); (case side1 => repeat (first | exact (Kd.V_reads' HO0.out).2.2 | (with_reducible refine Kd.C_alloc ?_ _) | (with_reducible refine Kd.C_drewN ?_ _) | (with_reducible refine Kd.C_drew ?_))); (case side2 => exact (Kd.V_reads' HO0.out).2.1); rintro e w' ⟨rfl, ⟨nd, rfl⟩⟩; refine ⟨_, rfl, ?_⟩))
     have n0_ := Aside0.mk (Kd.V_drew (Kd.V_drewN HO0.out nd))
     have n1_ := Aside0.mk (below_drew1 (pw_below_drewN HB.out nd))
     clear HO0
     clear HB
     have HO0 := n0_
     have HB := n1_
     clear n0_ n1_
     have q8 : (t736 : Int) ≤ ((l0.length : Int) : Int) := of_decide_eq_true y3_
     obtain ⟨i08, hi08, _, hsz8, _⟩ := info_parts info5
     have hroom8 : l0.length ≤ c0 := (Kd.V_reads' HO0.out).2.1
     have hC8 : Kd.F (Kd.int .u8) _ _ A0 l0.length l0 := (Kd.V_at (base := w.heap.size) HO0.out).2.2
     have q08 : (0 : Int) ≤ (t736 : Int) := of_decide_eq_true y3_
     have hcut8 := cut_from (P := Tryd.prog) 53 5 .i64 Tryd.underlying53 hi08 1 hsz8 A0 l0.length c0 t736 q08 q8
     have hr8 := Kd.F_cut (m := (t736 : Int).toNat) (c := c0) hC8 (by omega) hroom8
     obtain ⟨A8, hA8⟩ : ∃ A1, A1 = (if c0 = (t736 : Int).toNat then A0 else (A0 : Option Addr).map (·.add ((t736 : Int).toNat * 1))) := ⟨_, rfl⟩
     obtain ⟨c8, hc8⟩ : ∃ c1, c1 = c0 - (t736 : Int).toNat := ⟨_, rfl⟩
     have hy8 : y741.length = l0.length - (t736 : Int).toNat := (by rw [Ny741.out, List.length_drop] <;> omega)
     rw [show (l0).drop (t736 : Int).toNat = y741 from Ny741.out.symm] at hr8
     replace hr8 : Kd.F (Kd.int .u8) _ _ A8 y741.length y741 := (by rw [hA8]; exact hr8)
     rw [← hy8, ← hA8, ← hc8] at hcut8
     have HO745 := Aside0.mk (show Kd.V (Kd.int .u8) 5 _ w.heap.size _ (.slice A8 y741.length c8) y741 from Kd.V_mk (by rw [hy8, hc8]; exact Nat.sub_le_sub_right hroom8 _) hr8)
     have HC745 := Aside0.mk (show y741.length ≤ c8 from by rw [hy8, hc8]; exact Nat.sub_le_sub_right hroom8 _)
     clear hr8 hC8 hroom8 hi08 hsz8 hc8
     have KY8 := Aside0.mk hy8
     have KA8 := Aside0.mk hA8
     clear hy8 hA8
     replace q8 := eq_true q8
     refine start_ (n := 6) (S := fun w' => True) (ds := []) #[false, false, false, false, false, false] (by kernel_rfl) rfl rfl trivial (fun hHeld => ?_)
     generalize (w.drewN nd).drew = w7 at HO0 HB HO745 hHeld ⊢
     refine pure_ (i := 1) (N := some 24) (v := ?_) (a' := ?_) #[false, true, false, false, false, false] rfl rfl (by kernel_rfl) (fun _ _ _ h => h) (Or.inl ⟨by rfl, ?_⟩) ?_ ?_
     rotate_left
     ·intro w'
      go_simp
      with_reducible rfl
     rotate_left
     ·simp only [Act.put, List.setIfInBounds_toArray, List.set_cons_zero, List.set_cons_succ, i64_w, i32_w]
      rfl
     refine pure_ (i := 2) (N := some 25) (v := ?_) (a' := ?_) #[false, true, true, false, false, false] rfl rfl (by kernel_rfl) (fun _ _ _ h => h) (Or.inl ⟨by rfl, ?_⟩) ?_ ?_
     rotate_left
     ·intro w'
      go_simp
      with_reducible rfl
     rotate_left
     ·simp only [Act.put, List.setIfInBounds_toArray, List.set_cons_zero, List.set_cons_succ, i64_w, i32_w]
      rfl
     refine pure_ (i := 3) (N := some 26) (v := ?_) (a' := ?_) #[false, true, true, true, false, false] rfl rfl (by kernel_rfl) (fun _ _ _ h => h) (Or.inl ⟨by rfl, ?_⟩) ?_ ?_
     rotate_left
     ·intro w'
      go_simp
      with_reducible rfl
     rotate_left
     ·simp only [Act.put, List.setIfInBounds_toArray, List.set_cons_zero, List.set_cons_succ, i64_w, i32_w]
      rfl
     refine one_ (i := 0) (N := some 23) #[true, true, true, true, false, false] rfl rfl (by kernel_rfl) (by decide) (fun K hK => ?_)
     refine Kd.R_lit_step k44 _ 44 ?hg (N := 23) ?hd (xs := ([] : List (S44))) (inner := []) (ok := fun _ => True) (okp := fun _ => True) ?hr ?hp (fun _ hk => hk) trivial (Below.refl _ _) (Nat.le_refl _) (by simp) ?_; (case hd => rfl); (case hg => rfl); (case hr => first | (go_simp; done) | (go_simp; rfl)); (case hp => exact (Reps.none _ _))
     intro v739 w9 ho10 hb hg_ hnew_
     clear hg_ hnew_
     (first | rw [← Ny738.out] at ho10 | (simp only [Int.reduceToNat] at ho10; rw [← Ny738.out] at ho10))
     have n0_ := Aside0.mk (Kd.V_elder' (by (with_reducible repeat (first | apply Kd.V_alloc | apply Kd.V_drewN | apply Kd.V_drew)); exact HO0.out) (Kd.R_base ho10) hb)
     have n1_ := Aside0.mk (Kd.V_elder' (by (with_reducible repeat (first | apply Kd.V_alloc | apply Kd.V_drewN | apply Kd.V_drew)); exact HO745.out) (Kd.R_base ho10) hb)
     have n2_ := Aside0.mk (Kd.R_lower (Kd.R_newM (M := fun k_ => (w.heap.size ≤ k_)) ho10 (below_size y1_) (fun k_ h_ => h_)) (below_size y1_))
     have n3_ := Aside0.mk (below_step y1_ hb)
     clear HO0
     clear HO745
     clear HB
     have HO0 := n0_
     have HO745 := n1_
     have HO740 := n2_
     have HB := n3_
     clear n0_ n1_ n2_ n3_
     clear hb ho10
     refine hK.out _ _ trivial (fun hHeld => ?_)
     clear hK K
     refine norm_ (a' := ?_) ?_ ?_
     rotate_left
     ·show Act.put _ (some 23) _ = _
      simp only [Act.put, List.setIfInBounds_toArray, List.set_cons_zero, List.set_cons_succ, i64_w, i32_w]
      rfl
     refine pure_ (i := 4) (N := some 8) (v := ?_) (a' := ?_) #[true, true, true, true, true, false] rfl rfl (by kernel_rfl) (fun _ _ _ h => h) (Or.inl ⟨by rfl, ?_⟩) ?_ ?_
     rotate_left
     ·intro w'
      go_simp
      with_reducible rfl
     rotate_left
     ·simp only [Act.put, List.setIfInBounds_toArray, List.set_cons_zero, List.set_cons_succ, i64_w, i32_w]
      rfl
     refine pure_ (i := 5) (N := some 9) (v := ?_) (a' := ?_) #[true, true, true, true, true, true] rfl rfl (by kernel_rfl) (fun _ _ _ h => h) (Or.inl ⟨by rfl, ?_⟩) ?_ ?_
     rotate_left
     ·intro w'
      go_simp
      with_reducible rfl
     rotate_left
     ·simp only [Act.put, List.setIfInBounds_toArray, List.set_cons_zero, List.set_cons_succ, i64_w, i32_w]
      rfl
     refine done_ (by kernel_rfl) ?_
     try go_wp2
     go_loopg [8, 9, 29] k (fun kq v8 v9 v29 w' => ∃ (x8_1 : List (S44)) (x9_1 : List Int) (x29_1 : Int), v29 = .int .i64 x29_1 ∧ Aside0 (manometerref05_Take.l0 kq l0 x8_1 x9_1 (wrap64 (t735)) x29_1 = some (r1, r2, r3)) ∧ Aside0 (kq ≤ k) ∧ Aside0 (Kd.V (Kd.int .u8) 5 w' w.heap.size (fun k_ => (P0_ k_ ∨ w.heap.size ≤ k_) ∧ some k_ ≠ (v8 : Value).ownBlock) (.slice A0 l0.length c0) l0) ∧ Aside0 (Kd.R k44 44 w' w.heap.size (fun k_ => (w.heap.size ≤ k_)) v8 x8_1) ∧ Aside0 (Kd.V (Kd.int .u8) 5 w' w.heap.size (fun k_ => (P0_ k_ ∨ w.heap.size ≤ k_) ∧ some k_ ≠ (v8 : Value).ownBlock) v9 x9_1) ∧ Aside0 (Below w.heap.size w w'))
     case atStart => exact ⟨(y738), (y741), (0), y4_, H', ⟨Nat.le_refl _⟩, ⟨by (with_reducible repeat (first | apply Kd.V_alloc | apply Kd.V_drewN | apply Kd.V_drew)); exact HO0.out⟩, ⟨by (with_reducible repeat (first | apply Kd.R_alloc | apply Kd.R_drewN | apply Kd.R_drew)); exact Kd.R_mono HO740.out (fun _ hk => hk.1)⟩, ⟨by (with_reducible repeat (first | apply Kd.V_alloc | apply Kd.V_drewN | apply Kd.V_drew)); exact HO745.out⟩, ⟨y1_⟩⟩
     case round =>
      clear H'
      try clear c1
      try clear p2
      try clear c3
      try clear c3b0
      try clear c3b1
      try clear c4
      try clear c4b0
      try clear c5
      try clear c5b0
      try clear c5b1
      try clear c6
      try clear c6b0
      try clear c6b1
      try clear p6
      try clear c7
      try clear c8
      try clear q8
      try clear q08
      try clear q8
      obtain ⟨x8_1, x9_1, x29_1, rfl, HA, HK1, HO_0, HO_8, HO_9, HB⟩ := hrel
      cases gk with
      | zero => exact absurd HA.out (by simp [manometerref05_Take.l0])
      | succ k1 =>
       have H := HA.out
       clear HA
       simp only [manometerref05_Take.l0] at H
       by_cases c11 : x29_1 < (wrap64 (t735))
       ·rw [if_pos c11] at H
        have c11b0 : decide (x29_1 < (wrap64 (t735))) = true := decide_eq_true c11
        clear c11
        replace H := Option.bind_eq_some_iff.mp H
        obtain ⟨⟨t748, t749, t752⟩, A120, H⟩ := H
        replace H : (if t752 = 0 then ((manometerref05_took.f k1 t749 128).bind fun bt753 => (if bt753.2.2 = 0 then (if x8_1.length < 4398046511104 then (manometerref05_Take.l0 k1 l0 (x8_1 ++ [(⟨t748, bt753.1⟩ : S44)]) bt753.2.1 (wrap64 (t735)) (wrap64 (x29_1 + 1))) else (none)) else (some (([] : List (S44)), 0, bt753.2.2)))) else (some (([] : List (S44)), 0, t752))) = some (r1, r2, r3) := H
        have A12 := Aside0.mk A120
        clear A120
        by_cases c13 : t752 = 0
        ·rw [if_pos c13] at H
         have c13b0 : (t752 == 0) = true := beq_iff_eq.mpr c13
         have c13b1 : (t752 != 0) = false := bne_eq_false_iff_eq.mpr c13
         clear c13
         replace H := Option.bind_eq_some_iff.mp H
         obtain ⟨⟨t753, t754, t757⟩, A140, H⟩ := H
         replace H : (if t757 = 0 then (if x8_1.length < 4398046511104 then (manometerref05_Take.l0 k1 l0 (x8_1 ++ [(⟨t748, t753⟩ : S44)]) t754 (wrap64 (t735)) (wrap64 (x29_1 + 1))) else (none)) else (some (([] : List (S44)), 0, t757))) = some (r1, r2, r3) := H
         have A14 := Aside0.mk A140
         clear A140
         by_cases c15 : t757 = 0
         ·rw [if_pos c15] at H
          have c15b0 : (t757 == 0) = true := beq_iff_eq.mpr c15
          have c15b1 : (t757 != 0) = false := bne_eq_false_iff_eq.mpr c15
          clear c15
          by_cases c16 : x8_1.length < 4398046511104
          ·rw [if_pos c16] at H
           have LMc16 := Aside0.mk c16
           clear c16
           obtain ⟨y758, hy758⟩ : ∃ y_ : List (S44), y_ = (x8_1 ++ [(⟨t748, t753⟩ : S44)]) := ⟨_, rfl⟩
           replace H : (manometerref05_Take.l0 k1 l0 y758 t754 (wrap64 (t735)) (wrap64 (x29_1 + 1))) = some (r1, r2, r3) := by first | (rw [hy758]; with_reducible exact H) | (have H2_ := (Option.bind_some _ _).symm.trans H; rw [hy758]; with_reducible exact H2_) | (have H2_ := (Option.bind_some _ _).symm.trans H; with_reducible exact H2_) | with_reducible exact H | (rw [hy758]; exact H) | exact H
           have Ny758 := Aside0.mk hy758
           clear hy758
           have H' := Aside0.mk H
           clear H
           go_wp2_with (first | ((with_reducible refine gate_dst (N := 10) rfl ?_); refine box_event ?hg (N := 10) ?hd (cs := #[.string (⟨#[]⟩ : ByteArray), .string (⟨#[]⟩ : ByteArray)]) (t := 44) ?hr ?_; (case hd => rfl); (case hg => rfl); (case hr => first | (go_simp; done) | (go_simp; rfl)); intro gb747 hg w17 hbox hb; have n0_ := Aside0.mk (Kd.V_below (Kd.V_elderB y39_ gb747 (Nat.le_of_eq hg.symm)) hb); have n1_ := Aside0.mk (Kd.R_below (Kd.R_elderB y9_ gb747 (Nat.le_of_eq hg.symm)) hb); have n2_ := Aside0.mk (Kd.V_below (Kd.V_elderB y38_ gb747 (Nat.le_of_eq hg.symm)) hb); have n3_ := Aside0.mk (below_step y1_ hb); have n4_ := Aside0.mk (hbox); have n5_ := Aside0.mk ((y15_ : w.heap.size ≤ gb747)); have n6_ := Aside0.mk ((y15_ : w.heap.size ≤ gb747)); clear HO_0; clear HO_8; clear HO_9; clear HB; have HO_0 := n0_; have HO_8 := n1_; have HO_9 := n2_; have HB := n3_; have BK747 := n4_; have GW747 := n5_; have GE747 := n6_; clear n0_ n1_ n2_ n3_ n4_ n5_ n6_; clear hb hbox hg; obtain ⟨Ao18, co18, eo18⟩ := Kd.V_slice HO_9.out; subst eo18) | ((with_reducible refine gate_callee (f := 78) rfl ?_); refine goesL_ (some 33) rfl rfl Tryd.func78 (by kernel_rfl) rfl #[.slice Ao18 x9_1.length co18, .int .u64 64] rfl y2_ ?_; (with_reducible refine (manometerref05_took.calls k1 (fun k_ => (((P0_ k_ ∨ w.heap.size ≤ k_) ∧ some k_ ≠ (u8 : Value).ownBlock) ∧ k_ ≠ gb747)) _ _ x9_1 64 t748 t749 t752 _ ?side1 A12.out).mono ?_); (case side1 => exact HO_9.out); rintro e w19 ⟨v750, rfl, ho0, hb⟩; refine ⟨_, rfl, ?_⟩; have n0_ := Aside0.mk (Kd.V_below y39_ hb); have n1_ := Aside0.mk (Kd.R_below y9_ hb); have n2_ := Aside0.mk (Kd.V_below y38_ hb); have n3_ := Aside0.mk (Kd.V_lower (Kd.V_mono (ok' := fun k_ => (P0_ k_ ∨ w.heap.size ≤ k_) ∧ some k_ ≠ (u8 : Value).ownBlock ∧ k_ ≠ gb747) ho0 (fun k_ hk_ => ⟨Or.elim hk_ (fun hs_ => hs_.1.1) (fun hn_ => (.inr (Nat.le_trans (below_size y10_) hn_))), Or.elim hk_ (fun hs_ => hs_.1.2) (fun hn_ => (Kd.fresh' (Kd.R_lt y9_) k_ hn_)), Or.elim hk_ (fun hs_ => hs_.2) (fun hn_ => (Kd.freshB (g := gb747) (o := .cells #[.string (⟨#[]⟩ : ByteArray), .string (⟨#[]⟩ : ByteArray)] 44 (0, 0)) y32_ k_ hn_))⟩)) (below_size y10_)); have n4_ := Aside0.mk (blk_below (g := gb747) (o := .cells #[.string (⟨#[]⟩ : ByteArray), .string (⟨#[]⟩ : ByteArray)] 44 (0, 0)) y32_ hb); have n5_ := Aside0.mk (below_step y10_ hb); clear HO_0; clear HO_8; clear HO_9; clear BK747; clear HB; have HO_0 := n0_; have HO_8 := n1_; have HO_9 := n2_; have HO751 := n3_; have BK747 := n4_; have HB := n5_; clear n0_ n1_ n2_ n3_ n4_ n5_; (try clear hb); (try clear hb2); (try clear hk); (try clear hi); (try clear ho0); have hcz20_0 : w19.cell? ⟨gb747, 0, none⟩ = some (.string (⟨#[]⟩ : ByteArray)) := (blk_cell BK747.out 0).trans rfl; have hcz20_1 : w19.cell? ⟨gb747, 1, none⟩ = some (.string (⟨#[]⟩ : ByteArray)) := (blk_cell BK747.out 1).trans rfl; have hfz20_0 := blk_frozen BK747.out 0; have hfz20_1 := blk_frozen BK747.out 1) | ((with_reducible refine gate_store (t := 9) (p := 37) rfl ?_); refine store_event (t := 9) (p := 37) (v := ?vo_w21) (w1 := (w19.setCell ⟨gb747, 0, none⟩ (.string t748))) ?hg ?ho ?hn ?hr ?_; (case ho => rfl); (case hg => rfl); (case hn => rfl); (case hr => first | (go_simp; done) | (go_simp; rfl)); intro w21 hw; have n0_ : Aside0 (Kd.V (Kd.int .u8) 5 w21 w.heap.size (fun k_ => (P0_ k_ ∨ w.heap.size ≤ k_) ∧ some k_ ≠ (u8 : Value).ownBlock ∧ k_ ≠ gb747) (.slice A0 l0.length c0) l0) := ⟨y70_⟩; have n1_ : Aside0 (Kd.R k44 44 w21 w.heap.size (fun k_ => (w.heap.size ≤ k_) ∧ k_ ≠ gb747) u8 x8_1) := ⟨y80_⟩; have n2_ : Aside0 (Kd.V (Kd.int .u8) 5 w21 w.heap.size (fun k_ => (P0_ k_ ∨ w.heap.size ≤ k_) ∧ some k_ ≠ (u8 : Value).ownBlock ∧ k_ ≠ gb747) (.slice Ao18 x9_1.length co18) x9_1) := ⟨y69_⟩; have n3_ : Aside0 (Kd.V (Kd.int .u8) 5 w21 w.heap.size (fun k_ => (P0_ k_ ∨ w.heap.size ≤ k_) ∧ some k_ ≠ (u8 : Value).ownBlock ∧ k_ ≠ gb747) v750 t749) := ⟨y65_⟩; have n4_ : Aside0 (w21.heap[gb747]? = some (.cells #[.string t748, .string (⟨#[]⟩ : ByteArray)] 44 (0, 0))) := ⟨y64_⟩; have n5_ : Aside0 (Below w.heap.size w w21) := ⟨(by rw [hw]; exact y10_)⟩; clear hw; clear HO_0; clear HO_8; clear HO_9; clear HO751; clear BK747; clear HB; have HO_0 := n0_; have HO_8 := n1_; have HO_9 := n2_; have HO751 := n3_; have BK747 := n4_; have HB := n5_; clear n0_ n1_ n2_ n3_ n4_ n5_; obtain ⟨Ao22, co22, eo22⟩ := Kd.V_slice HO751.out; subst eo22) | ((with_reducible refine gate_callee (f := 78) rfl ?_); refine goesL_ (some 43) rfl rfl Tryd.func78 (by kernel_rfl) rfl #[.slice Ao22 t749.length co22, .int .u64 128] rfl y2_ ?_; (with_reducible refine (manometerref05_took.calls k1 (fun k_ => ((P0_ k_ ∨ w.heap.size ≤ k_) ∧ (some k_ ≠ (u8 : Value).ownBlock ∧ k_ ≠ gb747))) _ _ t749 128 t753 t754 t757 _ ?side1 A14.out).mono ?_); (case side1 => exact HO751.out); rintro e w23 ⟨v755, rfl, ho0, hb⟩; refine ⟨_, rfl, ?_⟩; have n0_ := Aside0.mk (Kd.V_below y39_ hb); have n1_ := Aside0.mk (Kd.R_below y9_ hb); have n2_ := Aside0.mk (Kd.V_below y38_ hb); have n3_ := Aside0.mk (Kd.V_below (by (with_reducible repeat (first | apply Kd.V_alloc | apply Kd.V_drewN | apply Kd.V_drew)); exact HO751.out) hb); have n4_ := Aside0.mk (Kd.V_lower (Kd.V_mono (ok' := fun k_ => (P0_ k_ ∨ w.heap.size ≤ k_) ∧ some k_ ≠ (u8 : Value).ownBlock ∧ k_ ≠ gb747) ho0 (fun k_ hk_ => ⟨Or.elim hk_ (fun hs_ => hs_.1) (fun hn_ => (.inr (Nat.le_trans (below_size y10_) hn_))), Or.elim hk_ (fun hs_ => hs_.2.1) (fun hn_ => (Kd.fresh' (Kd.R_lt y9_) k_ hn_)), Or.elim hk_ (fun hs_ => hs_.2.2) (fun hn_ => (Kd.freshB (g := gb747) (o := .cells #[.string t748, .string (⟨#[]⟩ : ByteArray)] 44 (0, 0)) y32_ k_ hn_))⟩)) (below_size y10_)); have n5_ := Aside0.mk (blk_below (g := gb747) (o := .cells #[.string t748, .string (⟨#[]⟩ : ByteArray)] 44 (0, 0)) y32_ hb); have n6_ := Aside0.mk (below_step y10_ hb); clear HO_0; clear HO_8; clear HO_9; clear HO751; clear BK747; clear HB; have HO_0 := n0_; have HO_8 := n1_; have HO_9 := n2_; have HO751 := n3_; have HO756 := n4_; have BK747 := n5_; have HB := n6_; clear n0_ n1_ n2_ n3_ n4_ n5_ n6_; (try clear hb); (try clear hb2); (try clear hk); (try clear hi); (try clear ho0); have hcz24_0 : w23.cell? ⟨gb747, 0, none⟩ = some (.string t748) := (blk_cell BK747.out 0).trans rfl; have hcz24_1 : w23.cell? ⟨gb747, 1, none⟩ = some (.string (⟨#[]⟩ : ByteArray)) := (blk_cell BK747.out 1).trans rfl; have hfz24_0 := blk_frozen BK747.out 0; have hfz24_1 := blk_frozen BK747.out 1) | ((with_reducible refine gate_builtin (b := .append) (xs := #[.tmp 51, .tmp 53]) rfl ?_); at_builtin; refine Kd.R_append k44 (w0 := w) w.heap.size rfl (.tmp 51) (.tmp 53) 29 44 (.agg #[(.string ⟨#[]⟩), (.string ⟨#[]⟩)]) 32 rfl Tryd.underlying29 info44 rfl (by decide) (by omega) u8 x8_1 (⟨t748, t753⟩ : S44) [.string t748, .string t753] (fun k_ => (w.heap.size ≤ k_) ∧ k_ ≠ gb747) (fun _ => False) rfl (by first | (go_simp; done) | (go_simp; rfl)) ?aP (fun _ hk => hk.elim) ?aF ?aO ?aB ?aS ?aL ?_; (case aP => exact k44_mkM _ _ _ (⟨t748, t753⟩ : S44)); (case aB => exact y10_); (case aF => exact (fun k_ hk => ⟨(Nat.le_trans (below_size y10_) hk), Kd.freshB (g := gb747) (o := .cells #[.string t748, .string t753] 44 (0, 0)) y81_ k_ hk⟩)); (case aO => exact (by (with_reducible repeat (first | apply Kd.R_alloc | apply Kd.R_drewN | apply Kd.R_drew)); exact Kd.R_mono (Kd.R_far (p := ⟨gb747, 1, none⟩) (Kd.R_mono HO_8.out (fun k_ hk => (⟨hk, hk.2⟩ : _ ∧ k_ ≠ gb747))) (fun _ hk => hk.2) (.string t753)) (fun _ hk => ⟨hk.1.1, hk.1.2⟩))); (case aS => exact (below_size y10_)); (case aL => have := LMc16.out; omega); intro v759 w25 ho hb hg hat; rw [← Ny758.out] at ho; have n0_ := Aside0.mk (Kd.V_afterv (ok := (fun k_ => (P0_ k_ ∨ w.heap.size ≤ k_) ∧ k_ ≠ gb747)) (by (with_reducible repeat (first | apply Kd.V_alloc | apply Kd.V_drewN | apply Kd.V_drew)); exact Kd.V_mono (Kd.V_far (p := ⟨gb747, 1, none⟩) (Kd.V_mono HO_0.out (fun k_ hk => (⟨hk, hk.2.2⟩ : _ ∧ k_ ≠ gb747))) (fun _ hk => hk.2) (.string t753)) (fun _ hk => ⟨⟨hk.1.1, hk.1.2.2⟩, hk.1.2.1⟩)) hg hat); have n1_ := Aside0.mk (Kd.V_afterv (ok := (fun k_ => (P0_ k_ ∨ w.heap.size ≤ k_) ∧ k_ ≠ gb747)) (by (with_reducible repeat (first | apply Kd.V_alloc | apply Kd.V_drewN | apply Kd.V_drew)); exact Kd.V_mono (Kd.V_far (p := ⟨gb747, 1, none⟩) (Kd.V_mono HO_9.out (fun k_ hk => (⟨hk, hk.2.2⟩ : _ ∧ k_ ≠ gb747))) (fun _ hk => hk.2) (.string t753)) (fun _ hk => ⟨⟨hk.1.1, hk.1.2.2⟩, hk.1.2.1⟩)) hg hat); have n2_ := Aside0.mk (blk_grown (g := gb747) (o := .cells #[.string t748, .string t753] 44 (0, 0)) y81_ hg (Kd.R_away HO_8.out (fun _ hk => hk.2))); have n3_ := Aside0.mk (Kd.V_afterv (ok := (fun k_ => (P0_ k_ ∨ w.heap.size ≤ k_) ∧ k_ ≠ gb747)) (by (with_reducible repeat (first | apply Kd.V_alloc | apply Kd.V_drewN | apply Kd.V_drew)); exact Kd.V_mono (Kd.V_far (p := ⟨gb747, 1, none⟩) (Kd.V_mono HO751.out (fun k_ hk => (⟨hk, hk.2.2⟩ : _ ∧ k_ ≠ gb747))) (fun _ hk => hk.2) (.string t753)) (fun _ hk => ⟨⟨hk.1.1, hk.1.2.2⟩, hk.1.2.1⟩)) hg hat); have n4_ := Aside0.mk (Kd.V_afterv (ok := (fun k_ => (P0_ k_ ∨ w.heap.size ≤ k_) ∧ k_ ≠ gb747)) (by (with_reducible repeat (first | apply Kd.V_alloc | apply Kd.V_drewN | apply Kd.V_drew)); exact Kd.V_mono (Kd.V_far (p := ⟨gb747, 1, none⟩) (Kd.V_mono HO756.out (fun k_ hk => (⟨hk, hk.2.2⟩ : _ ∧ k_ ≠ gb747))) (fun _ hk => hk.2) (.string t753)) (fun _ hk => ⟨⟨hk.1.1, hk.1.2.2⟩, hk.1.2.1⟩)) hg hat); have n5_ := Aside0.mk (hb); have n6_ := Aside0.mk (ho); clear HO_0; clear HO_9; clear BK747; clear HO751; clear HO756; clear HB; clear HO_8; have HO_0 := n0_; have HO_9 := n1_; have BK747 := n2_; have HO751 := n3_; have HO756 := n4_; have HB := n5_; have HO760 := n6_; clear n0_ n1_ n2_ n3_ n4_ n5_ n6_; clear ho hb hg hat))
           go_roundg k1
           case measure => have := HK1.out; omega
           case rel => exact ⟨(y758), (t754), (wrap64 (x29_1 + 1)), y4_, H', ⟨y58_⟩, ⟨by (with_reducible repeat (first | apply Kd.V_alloc | apply Kd.V_drewN | apply Kd.V_drew)); exact Kd.V_mono HO_0.out (fun _ hk => ⟨hk.1.1, hk.2⟩)⟩, ⟨by (with_reducible repeat (first | apply Kd.R_alloc | apply Kd.R_drewN | apply Kd.R_drew)); exact Kd.R_mono HO760.out (fun _ hk => hk.1)⟩, ⟨by (with_reducible repeat (first | apply Kd.V_alloc | apply Kd.V_drewN | apply Kd.V_drew)); exact Kd.V_mono HO756.out (fun _ hk => ⟨hk.1.1, hk.2⟩)⟩, ⟨y10_⟩⟩
          ·rw [if_neg c16] at H
           exact absurd H (by simp)
         ·rw [if_neg c15] at H
          have c15b0 : (t757 == 0) = false := beq_eq_false_iff_ne.mpr c15
          have c15b1 : (t757 != 0) = true := bne_iff_ne.mpr c15
          simp only [Option.some.injEq, Prod.mk.injEq] at H
          obtain ⟨rfl, rfl, rfl⟩ := H
          go_wp2_with (first | ((with_reducible refine gate_dst (N := 10) rfl ?_); refine box_event ?hg (N := 10) ?hd (cs := #[.string (⟨#[]⟩ : ByteArray), .string (⟨#[]⟩ : ByteArray)]) (t := 44) ?hr ?_; (case hd => rfl); (case hg => rfl); (case hr => first | (go_simp; done) | (go_simp; rfl)); intro gb747 hg w26 hbox hb; have n0_ := Aside0.mk (Kd.V_below (Kd.V_elderB y39_ gb747 (Nat.le_of_eq hg.symm)) hb); have n1_ := Aside0.mk (Kd.R_below (Kd.R_elderB y9_ gb747 (Nat.le_of_eq hg.symm)) hb); have n2_ := Aside0.mk (Kd.V_below (Kd.V_elderB y38_ gb747 (Nat.le_of_eq hg.symm)) hb); have n3_ := Aside0.mk (below_step y1_ hb); have n4_ := Aside0.mk (hbox); have n5_ := Aside0.mk ((y15_ : w.heap.size ≤ gb747)); have n6_ := Aside0.mk ((y15_ : w.heap.size ≤ gb747)); clear HO_0; clear HO_8; clear HO_9; clear HB; have HO_0 := n0_; have HO_8 := n1_; have HO_9 := n2_; have HB := n3_; have BK747 := n4_; have GW747 := n5_; have GE747 := n6_; clear n0_ n1_ n2_ n3_ n4_ n5_ n6_; clear hb hbox hg; obtain ⟨Ao27, co27, eo27⟩ := Kd.V_slice HO_9.out; subst eo27) | ((with_reducible refine gate_callee (f := 78) rfl ?_); refine goesL_ (some 33) rfl rfl Tryd.func78 (by kernel_rfl) rfl #[.slice Ao27 x9_1.length co27, .int .u64 64] rfl y2_ ?_; (with_reducible refine (manometerref05_took.calls k1 (fun k_ => (((P0_ k_ ∨ w.heap.size ≤ k_) ∧ some k_ ≠ (u8 : Value).ownBlock) ∧ k_ ≠ gb747)) _ _ x9_1 64 t748 t749 t752 _ ?side1 A12.out).mono ?_); (case side1 => exact HO_9.out); rintro e w28 ⟨v750, rfl, ho0, hb⟩; refine ⟨_, rfl, ?_⟩; have n0_ := Aside0.mk (Kd.V_below y39_ hb); have n1_ := Aside0.mk (Kd.R_below y9_ hb); have n2_ := Aside0.mk (Kd.V_below y38_ hb); have n3_ := Aside0.mk (Kd.V_lower (Kd.V_mono (ok' := fun k_ => (P0_ k_ ∨ w.heap.size ≤ k_) ∧ some k_ ≠ (u8 : Value).ownBlock ∧ k_ ≠ gb747) ho0 (fun k_ hk_ => ⟨Or.elim hk_ (fun hs_ => hs_.1.1) (fun hn_ => (.inr (Nat.le_trans (below_size y10_) hn_))), Or.elim hk_ (fun hs_ => hs_.1.2) (fun hn_ => (Kd.fresh' (Kd.R_lt y9_) k_ hn_)), Or.elim hk_ (fun hs_ => hs_.2) (fun hn_ => (Kd.freshB (g := gb747) (o := .cells #[.string (⟨#[]⟩ : ByteArray), .string (⟨#[]⟩ : ByteArray)] 44 (0, 0)) y32_ k_ hn_))⟩)) (below_size y10_)); have n4_ := Aside0.mk (blk_below (g := gb747) (o := .cells #[.string (⟨#[]⟩ : ByteArray), .string (⟨#[]⟩ : ByteArray)] 44 (0, 0)) y32_ hb); have n5_ := Aside0.mk (below_step y10_ hb); clear HO_0; clear HO_8; clear HO_9; clear BK747; clear HB; have HO_0 := n0_; have HO_8 := n1_; have HO_9 := n2_; have HO751 := n3_; have BK747 := n4_; have HB := n5_; clear n0_ n1_ n2_ n3_ n4_ n5_; (try clear hb); (try clear hb2); (try clear hk); (try clear hi); (try clear ho0); have hcz29_0 : w28.cell? ⟨gb747, 0, none⟩ = some (.string (⟨#[]⟩ : ByteArray)) := (blk_cell BK747.out 0).trans rfl; have hcz29_1 : w28.cell? ⟨gb747, 1, none⟩ = some (.string (⟨#[]⟩ : ByteArray)) := (blk_cell BK747.out 1).trans rfl; have hfz29_0 := blk_frozen BK747.out 0; have hfz29_1 := blk_frozen BK747.out 1) | ((with_reducible refine gate_store (t := 9) (p := 37) rfl ?_); refine store_event (t := 9) (p := 37) (v := ?vo_w30) (w1 := (w28.setCell ⟨gb747, 0, none⟩ (.string t748))) ?hg ?ho ?hn ?hr ?_; (case ho => rfl); (case hg => rfl); (case hn => rfl); (case hr => first | (go_simp; done) | (go_simp; rfl)); intro w30 hw; have n0_ : Aside0 (Kd.V (Kd.int .u8) 5 w30 w.heap.size (fun k_ => (P0_ k_ ∨ w.heap.size ≤ k_) ∧ some k_ ≠ (u8 : Value).ownBlock ∧ k_ ≠ gb747) (.slice A0 l0.length c0) l0) := ⟨y70_⟩; have n1_ : Aside0 (Kd.R k44 44 w30 w.heap.size (fun k_ => (w.heap.size ≤ k_) ∧ k_ ≠ gb747) u8 x8_1) := ⟨y80_⟩; have n2_ : Aside0 (Kd.V (Kd.int .u8) 5 w30 w.heap.size (fun k_ => (P0_ k_ ∨ w.heap.size ≤ k_) ∧ some k_ ≠ (u8 : Value).ownBlock ∧ k_ ≠ gb747) (.slice Ao27 x9_1.length co27) x9_1) := ⟨y69_⟩; have n3_ : Aside0 (Kd.V (Kd.int .u8) 5 w30 w.heap.size (fun k_ => (P0_ k_ ∨ w.heap.size ≤ k_) ∧ some k_ ≠ (u8 : Value).ownBlock ∧ k_ ≠ gb747) v750 t749) := ⟨y65_⟩; have n4_ : Aside0 (w30.heap[gb747]? = some (.cells #[.string t748, .string (⟨#[]⟩ : ByteArray)] 44 (0, 0))) := ⟨y64_⟩; have n5_ : Aside0 (Below w.heap.size w w30) := ⟨(by rw [hw]; exact y10_)⟩; clear hw; clear HO_0; clear HO_8; clear HO_9; clear HO751; clear BK747; clear HB; have HO_0 := n0_; have HO_8 := n1_; have HO_9 := n2_; have HO751 := n3_; have BK747 := n4_; have HB := n5_; clear n0_ n1_ n2_ n3_ n4_ n5_; obtain ⟨Ao31, co31, eo31⟩ := Kd.V_slice HO751.out; subst eo31) | ((with_reducible refine gate_callee (f := 78) rfl ?_); refine goesL_ (some 43) rfl rfl Tryd.func78 (by kernel_rfl) rfl #[.slice Ao31 t749.length co31, .int .u64 128] rfl y2_ ?_; (with_reducible refine (manometerref05_took.calls k1 (fun k_ => ((P0_ k_ ∨ w.heap.size ≤ k_) ∧ (some k_ ≠ (u8 : Value).ownBlock ∧ k_ ≠ gb747))) _ _ t749 128 t753 t754 t757 _ ?side1 A14.out).mono ?_); (case side1 => exact HO751.out); rintro e w32 ⟨v755, rfl, ho0, hb⟩; refine ⟨_, rfl, ?_⟩; have n0_ := Aside0.mk (Kd.V_below y39_ hb); have n1_ := Aside0.mk (Kd.R_below y9_ hb); have n2_ := Aside0.mk (Kd.V_below y38_ hb); have n3_ := Aside0.mk (Kd.V_below (by (with_reducible repeat (first | apply Kd.V_alloc | apply Kd.V_drewN | apply Kd.V_drew)); exact HO751.out) hb); have n4_ := Aside0.mk (Kd.V_lower (Kd.V_mono (ok' := fun k_ => (P0_ k_ ∨ w.heap.size ≤ k_) ∧ some k_ ≠ (u8 : Value).ownBlock ∧ k_ ≠ gb747) ho0 (fun k_ hk_ => ⟨Or.elim hk_ (fun hs_ => hs_.1) (fun hn_ => (.inr (Nat.le_trans (below_size y10_) hn_))), Or.elim hk_ (fun hs_ => hs_.2.1) (fun hn_ => (Kd.fresh' (Kd.R_lt y9_) k_ hn_)), Or.elim hk_ (fun hs_ => hs_.2.2) (fun hn_ => (Kd.freshB (g := gb747) (o := .cells #[.string t748, .string (⟨#[]⟩ : ByteArray)] 44 (0, 0)) y32_ k_ hn_))⟩)) (below_size y10_)); have n5_ := Aside0.mk (blk_below (g := gb747) (o := .cells #[.string t748, .string (⟨#[]⟩ : ByteArray)] 44 (0, 0)) y32_ hb); have n6_ := Aside0.mk (below_step y10_ hb); clear HO_0; clear HO_8; clear HO_9; clear HO751; clear BK747; clear HB; have HO_0 := n0_; have HO_8 := n1_; have HO_9 := n2_; have HO751 := n3_; have HO756 := n4_; have BK747 := n5_; have HB := n6_; clear n0_ n1_ n2_ n3_ n4_ n5_ n6_; (try clear hb); (try clear hb2); (try clear hk); (try clear hi); (try clear ho0); have hcz33_0 : w32.cell? ⟨gb747, 0, none⟩ = some (.string t748) := (blk_cell BK747.out 0).trans rfl; have hcz33_1 : w32.cell? ⟨gb747, 1, none⟩ = some (.string (⟨#[]⟩ : ByteArray)) := (blk_cell BK747.out 1).trans rfl; have hfz33_0 := blk_frozen BK747.out 0; have hfz33_1 := blk_frozen BK747.out 1))
          go_ret3
          exact ⟨_, y7_, y12_, y10_⟩
        ·rw [if_neg c13] at H
         have c13b0 : (t752 == 0) = false := beq_eq_false_iff_ne.mpr c13
         have c13b1 : (t752 != 0) = true := bne_iff_ne.mpr c13
         simp only [Option.some.injEq, Prod.mk.injEq] at H
         obtain ⟨rfl, rfl, rfl⟩ := H
         go_wp2_with (first | ((with_reducible refine gate_dst (N := 10) rfl ?_); refine box_event ?hg (N := 10) ?hd (cs := #[.string (⟨#[]⟩ : ByteArray), .string (⟨#[]⟩ : ByteArray)]) (t := 44) ?hr ?_; (case hd => rfl); (case hg => rfl); (case hr => first | (go_simp; done) | (go_simp; rfl)); intro gb747 hg w34 hbox hb; have n0_ := Aside0.mk (Kd.V_below (Kd.V_elderB y39_ gb747 (Nat.le_of_eq hg.symm)) hb); have n1_ := Aside0.mk (Kd.R_below (Kd.R_elderB y9_ gb747 (Nat.le_of_eq hg.symm)) hb); have n2_ := Aside0.mk (Kd.V_below (Kd.V_elderB y38_ gb747 (Nat.le_of_eq hg.symm)) hb); have n3_ := Aside0.mk (below_step y1_ hb); have n4_ := Aside0.mk (hbox); have n5_ := Aside0.mk ((y15_ : w.heap.size ≤ gb747)); have n6_ := Aside0.mk ((y15_ : w.heap.size ≤ gb747)); clear HO_0; clear HO_8; clear HO_9; clear HB; have HO_0 := n0_; have HO_8 := n1_; have HO_9 := n2_; have HB := n3_; have BK747 := n4_; have GW747 := n5_; have GE747 := n6_; clear n0_ n1_ n2_ n3_ n4_ n5_ n6_; clear hb hbox hg; obtain ⟨Ao35, co35, eo35⟩ := Kd.V_slice HO_9.out; subst eo35) | ((with_reducible refine gate_callee (f := 78) rfl ?_); refine goesL_ (some 33) rfl rfl Tryd.func78 (by kernel_rfl) rfl #[.slice Ao35 x9_1.length co35, .int .u64 64] rfl y2_ ?_; (with_reducible refine (manometerref05_took.calls k1 (fun k_ => (((P0_ k_ ∨ w.heap.size ≤ k_) ∧ some k_ ≠ (u8 : Value).ownBlock) ∧ k_ ≠ gb747)) _ _ x9_1 64 t748 t749 t752 _ ?side1 A12.out).mono ?_); (case side1 => exact HO_9.out); rintro e w36 ⟨v750, rfl, ho0, hb⟩; refine ⟨_, rfl, ?_⟩; have n0_ := Aside0.mk (Kd.V_below y39_ hb); have n1_ := Aside0.mk (Kd.R_below y9_ hb); have n2_ := Aside0.mk (Kd.V_below y38_ hb); have n3_ := Aside0.mk (Kd.V_lower (Kd.V_mono (ok' := fun k_ => (P0_ k_ ∨ w.heap.size ≤ k_) ∧ some k_ ≠ (u8 : Value).ownBlock ∧ k_ ≠ gb747) ho0 (fun k_ hk_ => ⟨Or.elim hk_ (fun hs_ => hs_.1.1) (fun hn_ => (.inr (Nat.le_trans (below_size y10_) hn_))), Or.elim hk_ (fun hs_ => hs_.1.2) (fun hn_ => (Kd.fresh' (Kd.R_lt y9_) k_ hn_)), Or.elim hk_ (fun hs_ => hs_.2) (fun hn_ => (Kd.freshB (g := gb747) (o := .cells #[.string (⟨#[]⟩ : ByteArray), .string (⟨#[]⟩ : ByteArray)] 44 (0, 0)) y32_ k_ hn_))⟩)) (below_size y10_)); have n4_ := Aside0.mk (blk_below (g := gb747) (o := .cells #[.string (⟨#[]⟩ : ByteArray), .string (⟨#[]⟩ : ByteArray)] 44 (0, 0)) y32_ hb); have n5_ := Aside0.mk (below_step y10_ hb); clear HO_0; clear HO_8; clear HO_9; clear BK747; clear HB; have HO_0 := n0_; have HO_8 := n1_; have HO_9 := n2_; have HO751 := n3_; have BK747 := n4_; have HB := n5_; clear n0_ n1_ n2_ n3_ n4_ n5_; (try clear hb); (try clear hb2); (try clear hk); (try clear hi); (try clear ho0); have hcz37_0 : w36.cell? ⟨gb747, 0, none⟩ = some (.string (⟨#[]⟩ : ByteArray)) := (blk_cell BK747.out 0).trans rfl; have hcz37_1 : w36.cell? ⟨gb747, 1, none⟩ = some (.string (⟨#[]⟩ : ByteArray)) := (blk_cell BK747.out 1).trans rfl; have hfz37_0 := blk_frozen BK747.out 0; have hfz37_1 := blk_frozen BK747.out 1))
         go_ret3
         exact ⟨_, y7_, y12_, y10_⟩
       ·rw [if_neg c11] at H
        have c11b0 : decide (x29_1 < (wrap64 (t735))) = false := decide_eq_false c11
        clear c11
        replace H := Option.bind_eq_some_iff.mp H
        obtain ⟨t746, A380, H⟩ := H
        replace H : (if t746 = 0 then (some (x8_1, wrap64 ((l0.length : Int) - (x9_1.length : Int)), 0)) else (some (([] : List (S44)), 0, t746))) = some (r1, r2, r3) := H
        have A38 := Aside0.mk A380
        clear A380
        by_cases c39 : t746 = 0
        ·rw [if_pos c39] at H
         have c39b0 : (t746 == 0) = true := beq_iff_eq.mpr c39
         have c39b1 : (t746 != 0) = false := bne_eq_false_iff_eq.mpr c39
         clear c39
         simp only [Option.some.injEq, Prod.mk.injEq] at H
         obtain ⟨rfl, rfl, rfl⟩ := H
         obtain ⟨Ao40, co40, eo40⟩ := Kd.R_slice HO_8.out
         subst eo40
         go_wp2_with (first | ((with_reducible refine gate_callee (f := 37) rfl ?_); refine goesL_ (some 57) rfl rfl Tryd.func37 (by kernel_rfl) rfl #[.slice Ao40 x8_1.length co40] rfl y2_ ?_; (with_reducible refine (manometerref05_Right.calls k1 _ _ x8_1 t746 _ ?side1 ?side2 A38.out).mono ?_); (case side1 => repeat (first | exact (Kd.R_reads' HO_8.out).2.2 | (with_reducible refine Kd.C_alloc ?_ _) | (with_reducible refine Kd.C_drewN ?_ _) | (with_reducible refine Kd.C_drew ?_))); (case side2 => exact (Kd.R_reads' HO_8.out).2.1); rintro e w41 ⟨rfl, hb⟩; refine ⟨_, rfl, ?_⟩; have n0_ := Aside0.mk (Kd.V_below y39_ hb); have n1_ := Aside0.mk (Kd.R_below y9_ hb); have n2_ := Aside0.mk (Kd.V_below y38_ hb); have n3_ := Aside0.mk (below_step y1_ hb); clear HO_0; clear HO_8; clear HO_9; clear HB; have HO_0 := n0_; have HO_8 := n1_; have HO_9 := n2_; have HB := n3_; clear n0_ n1_ n2_ n3_; (try clear hb); (try clear hb2); (try clear hk); (try clear hi); obtain ⟨Ao42, co42, eo42⟩ := Kd.V_slice HO_9.out; subst eo42))
         go_ret3
         exact ⟨_, y7_, y9_, y1_⟩
        ·rw [if_neg c39] at H
         have c39b0 : (t746 == 0) = false := beq_eq_false_iff_ne.mpr c39
         have c39b1 : (t746 != 0) = true := bne_iff_ne.mpr c39
         simp only [Option.some.injEq, Prod.mk.injEq] at H
         obtain ⟨rfl, rfl, rfl⟩ := H
         obtain ⟨Ao43, co43, eo43⟩ := Kd.R_slice HO_8.out
         subst eo43
         go_wp2_with (first | ((with_reducible refine gate_callee (f := 37) rfl ?_); refine goesL_ (some 57) rfl rfl Tryd.func37 (by kernel_rfl) rfl #[.slice Ao43 x8_1.length co43] rfl y2_ ?_; (with_reducible refine (manometerref05_Right.calls k1 _ _ x8_1 t746 _ ?side1 ?side2 A38.out).mono ?_); (case side1 => repeat (first | exact (Kd.R_reads' HO_8.out).2.2 | (with_reducible refine Kd.C_alloc ?_ _) | (with_reducible refine Kd.C_drewN ?_ _) | (with_reducible refine Kd.C_drew ?_))); (case side2 => exact (Kd.R_reads' HO_8.out).2.1); rintro e w44 ⟨rfl, hb⟩; refine ⟨_, rfl, ?_⟩; have n0_ := Aside0.mk (Kd.V_below y39_ hb); have n1_ := Aside0.mk (Kd.R_below y9_ hb); have n2_ := Aside0.mk (Kd.V_below y38_ hb); have n3_ := Aside0.mk (below_step y1_ hb); clear HO_0; clear HO_8; clear HO_9; clear HB; have HO_0 := n0_; have HO_8 := n1_; have HO_9 := n2_; have HB := n3_; clear n0_ n1_ n2_ n3_; (try clear hb); (try clear hb2); (try clear hk); (try clear hi)))
         go_ret3
         exact ⟨_, y7_, y12_, y1_⟩
    ·rw [if_neg c6] at H
     exact absurd H (by simp)
   ·rw [if_neg c5] at H
    exact absurd H (by simp)
 ·rw [if_neg c3] at H
  have c3b0 : (t737 == 0) = false := beq_eq_false_iff_ne.mpr c3
  have c3b1 : (t737 != 0) = true := bne_iff_ne.mpr c3
  simp only [Option.some.injEq, Prod.mk.injEq] at H
  obtain ⟨rfl, rfl, rfl⟩ := H
  go_enter Tryd.func52, Tryd.ntmps52
  go_wp2_with (first | ((with_reducible refine gate_callee (f := 77) rfl ?_); refine goesL_ (some 14) rfl rfl Tryd.func77 (by kernel_rfl) rfl #[.slice A0 l0.length c0] rfl y2_ ?_; (with_reducible refine (manometerref01_Uvarint.calls k _ _ l0 t735 t736 t737 _ ?side1 ?side2 A2.out).mono ?_); (case side1 => repeat (first | exact (Kd.V_reads' HO0.out).2.2 | (with_reducible refine Kd.C_alloc ?_ _) | (with_reducible refine Kd.C_drewN ?_ _) | (with_reducible refine Kd.C_drew ?_))); (case side2 => exact (Kd.V_reads' HO0.out).2.1); rintro e w' ⟨rfl, ⟨nd, rfl⟩⟩; refine ⟨_, rfl, ?_⟩))
  go_ret3
  exact ⟨_, y7_, y12_, y1_⟩
end Go.Proofs.YtdhmabofncbohaaDoor.PLC
