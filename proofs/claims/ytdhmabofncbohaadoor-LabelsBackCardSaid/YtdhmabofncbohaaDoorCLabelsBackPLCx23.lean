import Derived.Test.YtdhmabofncbohaaDoorCLabelsBackH19
import Derived.Test.YtdhmabofncbohaaDoorCLabelsBackPLCx14
import Derived.Test.YtdhmabofncbohaaDoorCLabelsBackPLCx8
namespace Go.Proofs.YtdhmabofncbohaaDoor.PLC
open Go.RowKit Go.Proofs.YtdhmabofncbohaaDoorW.PrintWords Go.Proofs.YtdhmabofncbohaaDoorW.PrintLast Go.Proofs.YtdhmabofncbohaaDoorW.PrintMore
attribute [local go_sem] max2_int min2_int max_two min_two max_three min_three max_four min_four
set_option linter.unusedVariables false
set_option linter.unusedSimpArgs false
mutual
def bits_Uvarint.l0 : Nat → List Int → Int → Int → Option (Int × Int × Int)
 | 0, _, _, _ => none
 | k + 1, x0, x5, x6 => if x6 < 10 then (if x6 ≥ (x0.length : Int) then (some (0, 0, 6)) else (if x6 = 9 then (if 0 ≤ x6 then (if x6 < (x0.length : Int) then (if (rd x0 x6) > 1 then (some (0, 0, 9)) else (bits_Uvarint.j1 k x0 x5 x6)) else (none)) else (none)) else (bits_Uvarint.j1 k x0 x5 x6))) else (some (0, 0, 9))
def bits_Uvarint.j1 : Nat → List Int → Int → Int → Option (Int × Int × Int)
 | 0, _, _, _ => none
 | k + 1, x0, x5, x6 => if 0 ≤ x6 then (if x6 < (x0.length : Int) then (if 0 ≤ (IntKind.u64.wrap (wrap64 (7 * x6))) then (if (rd x0 x6) < 128 then (if x6 > 0 then (if (rd x0 x6) = 0 then (some (0, 0, 8)) else (some (Go.bits .or .u64 x5 (shl .u64 (IntKind.u64.wrap (Go.bits .and .u8 (rd x0 x6) 127)) (IntKind.u64.wrap (wrap64 (7 * x6)))), wrap64 (x6 + 1), 0))) else (some (Go.bits .or .u64 x5 (shl .u64 (IntKind.u64.wrap (Go.bits .and .u8 (rd x0 x6) 127)) (IntKind.u64.wrap (wrap64 (7 * x6)))), wrap64 (x6 + 1), 0))) else (bits_Uvarint.l0 k x0 (Go.bits .or .u64 x5 (shl .u64 (IntKind.u64.wrap (Go.bits .and .u8 (rd x0 x6) 127)) (IntKind.u64.wrap (wrap64 (7 * x6))))) (wrap64 (x6 + 1)))) else (none)) else (none)) else (none)
end
def bits_Uvarint.f (k : Nat) (l0 : List Int) : Option (Int × Int × Int) := bits_Uvarint.l0 k l0 0 0
set_option maxHeartbeats 8000000 in
set_option maxRecDepth 100000 in
theorem bits_Uvarint.calls (k : Nat) (A0 : Option Addr) (c0 : Nat) (l0 : List Int) (r1 : Int) (r2 : Int) (r3 : Int) (w : World) (hr0 : Kd.C (Kd.int .u8) w A0 l0.length l0) (hc0 : l0.length ≤ c0) (h : bits_Uvarint.f k l0 = some (r1, r2, r3)) :
  Calls Tryd.prog 75 #[.slice A0 l0.length c0] w fun e w' => e = .returned (.tuple #[.int .u64 r1, .int .i64 r2, .int .i64 r3]) ∧ Drawn0 w w' := by
 have HR0 := Aside0.mk hr0
 have HC0 := Aside0.mk hc0
 clear hr0 hc0
 have H : (bits_Uvarint.l0 k l0 0 0) = some (r1, r2, r3) := h
 clear h
 have H' := Aside0.mk H
 clear H
 go_enter Tryd.func75, Tryd.ntmps75
 go_wp2
 go_step3
 go_wp2
 go_step3
 go_wp2
 go_loopg [5, 6] k (fun kq v5 v6 w' => ∃ (x5_1 : Int) (x6_1 : Int), v5 = .int .u64 x5_1 ∧ v6 = .int .i64 x6_1 ∧ Aside0 (bits_Uvarint.l0 kq l0 x5_1 x6_1 = some (r1, r2, r3)) ∧ Aside0 (kq ≤ k) ∧ Drawn0 w w')
 case atStart => exact ⟨(0), (0), y6_, y6_, H', ⟨Nat.le_refl _⟩, y8_⟩
 case round =>
  clear H'
  obtain ⟨x5_1, x6_1, rfl, rfl, HA, HK1, ⟨m1, rfl⟩⟩ := hrel
  cases gk with
  | zero => exact absurd HA.out (by simp [bits_Uvarint.l0])
  | succ k1 =>
   have H := HA.out
   clear HA
   simp only [bits_Uvarint.l0] at H
   by_cases c2 : x6_1 < 10
   ·rw [if_pos c2] at H
    have c2b0 : decide (x6_1 < 10) = true := decide_eq_true c2
    clear c2
    have HC3 := Aside0.mk H
    clear H
    go_upto_block 2 with (fail)
    go_cut [] (fun wc => ∃ (kq : Nat), Aside0 (bits_Uvarint.j1 kq l0 x5_1 x6_1 = some (r1, r2, r3)) ∧ Aside0 (kq ≤ k1) ∧ Drawn0 w wc)
    case first =>
     have H := HC3.out
     clear HC3
     by_cases c4 : x6_1 ≥ (l0.length : Int)
     ·rw [if_pos c4] at H
      have c4b0 : decide ((l0.length : Int) ≤ x6_1) = true := decide_eq_true c4
      clear c4
      (first | rw [c4b0] | (simp only [i64_w, i32_w]; rw [c4b0]) | skip)
      simp only [Option.some.injEq, Prod.mk.injEq] at H
      obtain ⟨rfl, rfl, rfl⟩ := H
      go_wp2
      (try rw [Exit.noGoto_ret])
      go_ret3
      exact ⟨y13_, y8_⟩
     ·rw [if_neg c4] at H
      have c4b0 : decide ((l0.length : Int) ≤ x6_1) = false := decide_eq_false c4
      clear c4
      (first | rw [c4b0] | (simp only [i64_w, i32_w]; rw [c4b0]) | skip)
      by_cases c5 : x6_1 = 9
      ·rw [if_pos c5] at H
       have c5b0 : (x6_1 == 9) = true := beq_iff_eq.mpr c5
       have c5b1 : (x6_1 != 9) = false := bne_eq_false_iff_eq.mpr c5
       clear c5
       by_cases c6 : 0 ≤ x6_1
       ·rw [if_pos c6] at H
        have c6b0 : decide (0 ≤ x6_1) = true := decide_eq_true c6
        clear c6
        by_cases c7 : x6_1 < (l0.length : Int)
        ·rw [if_pos c7] at H
         have c7b0 : decide (x6_1 < (l0.length : Int)) = true := decide_eq_true c7
         clear c7
         by_cases c8 : (rd l0 x6_1) > 1
         ·rw [if_pos c8] at H
          have c8b0 : decide (1 < (rd l0 x6_1)) = true := decide_eq_true c8
          clear c8
          simp only [Option.some.injEq, Prod.mk.injEq] at H
          obtain ⟨rfl, rfl, rfl⟩ := H
          have p694 : 0 ≤ (x6_1 : Int) := of_decide_eq_true y3_
          have q694 : x6_1 < (l0.length : Int) := of_decide_eq_true y3_
          obtain ⟨ad694, e694, hx694_0⟩ := Kd.at_int HR0.out x6_1 p694 q694
          cases e694
          replace p694 := eq_true p694
          replace q694 := eq_true q694
          go_wp2
          (try rw [Exit.noGoto_ret])
          go_ret3
          exact ⟨y13_, y8_⟩
         ·rw [if_neg c8] at H
          have c8b0 : decide (1 < (rd l0 x6_1)) = false := decide_eq_false c8
          clear c8
          have H' := Aside0.mk H
          clear H
          have p694 : 0 ≤ (x6_1 : Int) := of_decide_eq_true y3_
          have q694 : x6_1 < (l0.length : Int) := of_decide_eq_true y3_
          obtain ⟨ad694, e694, hx694_0⟩ := Kd.at_int HR0.out x6_1 p694 q694
          cases e694
          replace p694 := eq_true p694
          replace q694 := eq_true q694
          go_wp2
          go_meet
          case rel => exact ⟨_, H', ⟨y44_⟩, y8_⟩
        ·rw [if_neg c7] at H
         exact absurd H (by simp)
       ·rw [if_neg c6] at H
        exact absurd H (by simp)
      ·rw [if_neg c5] at H
       have c5b0 : (x6_1 == 9) = false := beq_eq_false_iff_ne.mpr c5
       have c5b1 : (x6_1 != 9) = true := bne_iff_ne.mpr c5
       have H' := Aside0.mk H
       clear H
       go_wp2
       go_meet
       case rel => exact ⟨_, H', ⟨y44_⟩, y8_⟩
    case rest =>
     clear HC3
     try clear c2
     try clear c2b0
     try clear p2
     try clear c4
     try clear c4b0
     try clear c5
     try clear c5b0
     try clear c5b1
     try clear c6
     try clear c6b0
     try clear p6
     try clear q6
     try clear hx6
     try clear c7
     try clear c7b0
     try clear c8
     try clear c8b0
     try clear hx694_0
     try clear p694
     try clear q694
     obtain ⟨kq, HA, HJ2, ⟨mc2, rfl⟩⟩ := hcut
     cases kq with
     | zero => exact absurd HA.out (by simp [bits_Uvarint.j1])
     | succ kj2 =>
      have H := HA.out
      clear HA
      simp only [bits_Uvarint.j1] at H
      by_cases c9 : 0 ≤ x6_1
      ·rw [if_pos c9] at H
       have c9b0 : decide (0 ≤ x6_1) = true := decide_eq_true c9
       clear c9
       by_cases c10 : x6_1 < (l0.length : Int)
       ·rw [if_pos c10] at H
        have c10b0 : decide (x6_1 < (l0.length : Int)) = true := decide_eq_true c10
        clear c10
        obtain ⟨ji11, hji11⟩ : ∃ j_ : Int, (IntKind.u64.wrap (wrap64 (7 * x6_1))) = j_ := ⟨_, rfl⟩
        replace H : (if 0 ≤ (ji11) then (if (rd l0 x6_1) < 128 then (if x6_1 > 0 then (if (rd l0 x6_1) = 0 then (some (0, 0, 8)) else (some (Go.bits .or .u64 x5_1 (shl .u64 (IntKind.u64.wrap (Go.bits .and .u8 (rd l0 x6_1) 127)) (ji11)), wrap64 (x6_1 + 1), 0))) else (some (Go.bits .or .u64 x5_1 (shl .u64 (IntKind.u64.wrap (Go.bits .and .u8 (rd l0 x6_1) 127)) (ji11)), wrap64 (x6_1 + 1), 0))) else (bits_Uvarint.l0 kj2 l0 (Go.bits .or .u64 x5_1 (shl .u64 (IntKind.u64.wrap (Go.bits .and .u8 (rd l0 x6_1) 127)) (ji11))) (wrap64 (x6_1 + 1)))) else (none)) = some (r1, r2, r3) := by first | (rw [hji11] at H; exact H) | (simp only [hji11] at H ⊢; exact H)
        by_cases c12 : 0 ≤ (ji11)
        ·rw [if_pos c12] at H
         have c12b0 := eq_true c12
         have c12b1 : decide (0 ≤ (ji11)) = true := decide_eq_true c12
         clear c12
         obtain ⟨ji13, hji13⟩ : ∃ j_ : Int, (shl .u64 (IntKind.u64.wrap (Go.bits .and .u8 (rd l0 x6_1) 127)) (ji11)) = j_ := ⟨_, rfl⟩
         replace H : (if (rd l0 x6_1) < 128 then (if x6_1 > 0 then (if (rd l0 x6_1) = 0 then (some (0, 0, 8)) else (some (Go.bits .or .u64 x5_1 (ji13), wrap64 (x6_1 + 1), 0))) else (some (Go.bits .or .u64 x5_1 (ji13), wrap64 (x6_1 + 1), 0))) else (bits_Uvarint.l0 kj2 l0 (Go.bits .or .u64 x5_1 (ji13)) (wrap64 (x6_1 + 1)))) = some (r1, r2, r3) := by first | (rw [hji13] at H; exact H) | (simp only [hji13] at H ⊢; exact H)
         have hji13_ : (IntKind.u64.wrap ((IntKind.u64.wrap (Go.bits .and .u8 (rd l0 x6_1) 127)) * 2 ^ min (ji11).toNat 64)) = ji13 := hji13
         have hji13z : (ji11) ≤ 64 → (IntKind.u64.wrap ((IntKind.u64.wrap (Go.bits .and .u8 (rd l0 x6_1) 127)) * 2 ^ (ji11).toNat)) = ji13 := shl_small hji13
         by_cases c14 : (rd l0 x6_1) < 128
         ·rw [if_pos c14] at H
          have c14b0 : decide ((rd l0 x6_1) < 128) = true := decide_eq_true c14
          clear c14
          by_cases c15 : x6_1 > 0
          ·rw [if_pos c15] at H
           have c15b0 : decide (0 < x6_1) = true := decide_eq_true c15
           clear c15
           by_cases c16 : (rd l0 x6_1) = 0
           ·rw [if_pos c16] at H
            have c16b0 : ((rd l0 x6_1) == 0) = true := beq_iff_eq.mpr c16
            have c16b1 : ((rd l0 x6_1) != 0) = false := bne_eq_false_iff_eq.mpr c16
            clear c16
            simp only [Option.some.injEq, Prod.mk.injEq] at H
            obtain ⟨rfl, rfl, rfl⟩ := H
            have p695 : 0 ≤ (x6_1 : Int) := of_decide_eq_true y3_
            have q695 : x6_1 < (l0.length : Int) := of_decide_eq_true y3_
            obtain ⟨ad695, e695, hx695_0⟩ := Kd.at_int HR0.out x6_1 p695 q695
            cases e695
            replace p695 := eq_true p695
            replace q695 := eq_true q695
            have p696 : 0 ≤ (x6_1 : Int) := of_decide_eq_true y3_
            have q696 : x6_1 < (l0.length : Int) := of_decide_eq_true y3_
            obtain ⟨ad696, e696, hx696_0⟩ := Kd.at_int HR0.out x6_1 p696 q696
            obtain rfl : ad695 = ad696 := (by injection e696)
            replace p696 := eq_true p696
            replace q696 := eq_true q696
            have p697 : 0 ≤ (x6_1 : Int) := of_decide_eq_true y3_
            have q697 : x6_1 < (l0.length : Int) := of_decide_eq_true y3_
            obtain ⟨ad697, e697, hx697_0⟩ := Kd.at_int HR0.out x6_1 p697 q697
            obtain rfl : ad695 = ad697 := (by injection e697)
            replace p697 := eq_true p697
            replace q697 := eq_true q697
            go_wp2
            (try rw [Exit.noGoto_ret])
            go_ret3
            exact ⟨y49_, y8_⟩
           ·rw [if_neg c16] at H
            have c16b0 : ((rd l0 x6_1) == 0) = false := beq_eq_false_iff_ne.mpr c16
            have c16b1 : ((rd l0 x6_1) != 0) = true := bne_iff_ne.mpr c16
            simp only [Option.some.injEq, Prod.mk.injEq] at H
            obtain ⟨rfl, rfl, rfl⟩ := H
            have p695 : 0 ≤ (x6_1 : Int) := of_decide_eq_true y3_
            have q695 : x6_1 < (l0.length : Int) := of_decide_eq_true y3_
            obtain ⟨ad695, e695, hx695_0⟩ := Kd.at_int HR0.out x6_1 p695 q695
            cases e695
            replace p695 := eq_true p695
            replace q695 := eq_true q695
            have p696 : 0 ≤ (x6_1 : Int) := of_decide_eq_true y3_
            have q696 : x6_1 < (l0.length : Int) := of_decide_eq_true y3_
            obtain ⟨ad696, e696, hx696_0⟩ := Kd.at_int HR0.out x6_1 p696 q696
            obtain rfl : ad695 = ad696 := (by injection e696)
            replace p696 := eq_true p696
            replace q696 := eq_true q696
            have p697 : 0 ≤ (x6_1 : Int) := of_decide_eq_true y3_
            have q697 : x6_1 < (l0.length : Int) := of_decide_eq_true y3_
            obtain ⟨ad697, e697, hx697_0⟩ := Kd.at_int HR0.out x6_1 p697 q697
            obtain rfl : ad695 = ad697 := (by injection e697)
            replace p697 := eq_true p697
            replace q697 := eq_true q697
            go_wp2
            (try rw [Exit.noGoto_ret])
            go_ret3
            exact ⟨y49_, y8_⟩
          ·rw [if_neg c15] at H
           have c15b0 : decide (0 < x6_1) = false := decide_eq_false c15
           clear c15
           simp only [Option.some.injEq, Prod.mk.injEq] at H
           obtain ⟨rfl, rfl, rfl⟩ := H
           have p695 : 0 ≤ (x6_1 : Int) := of_decide_eq_true y3_
           have q695 : x6_1 < (l0.length : Int) := of_decide_eq_true y3_
           obtain ⟨ad695, e695, hx695_0⟩ := Kd.at_int HR0.out x6_1 p695 q695
           cases e695
           replace p695 := eq_true p695
           replace q695 := eq_true q695
           have p696 : 0 ≤ (x6_1 : Int) := of_decide_eq_true y3_
           have q696 : x6_1 < (l0.length : Int) := of_decide_eq_true y3_
           obtain ⟨ad696, e696, hx696_0⟩ := Kd.at_int HR0.out x6_1 p696 q696
           obtain rfl : ad695 = ad696 := (by injection e696)
           replace p696 := eq_true p696
           replace q696 := eq_true q696
           go_wp2
           (try rw [Exit.noGoto_ret])
           go_ret3
           exact ⟨y49_, y8_⟩
         ·rw [if_neg c14] at H
          have c14b0 : decide ((rd l0 x6_1) < 128) = false := decide_eq_false c14
          clear c14
          have H' := Aside0.mk H
          clear H
          have p695 : 0 ≤ (x6_1 : Int) := of_decide_eq_true y3_
          have q695 : x6_1 < (l0.length : Int) := of_decide_eq_true y3_
          obtain ⟨ad695, e695, hx695_0⟩ := Kd.at_int HR0.out x6_1 p695 q695
          cases e695
          replace p695 := eq_true p695
          replace q695 := eq_true q695
          have p696 : 0 ≤ (x6_1 : Int) := of_decide_eq_true y3_
          have q696 : x6_1 < (l0.length : Int) := of_decide_eq_true y3_
          obtain ⟨ad696, e696, hx696_0⟩ := Kd.at_int HR0.out x6_1 p696 q696
          obtain rfl : ad695 = ad696 := (by injection e696)
          replace p696 := eq_true p696
          replace q696 := eq_true q696
          go_wp2
          go_roundg kj2
          case measure => have := HK1.out; have := HJ2.out; omega
          case rel => exact ⟨(Go.bits .or .u64 x5_1 (ji13)), (wrap64 (x6_1 + 1)), (by first | rfl | (simp; done) | ((simp only [← hji13] <;> (first | rfl | simp)); done) | (congr 1; first | assumption | (symm; assumption)) | (simp [*]; done)), y6_, H', ⟨by have := HK1.out; have := HJ2.out; omega⟩, y8_⟩
        ·rw [if_neg c12] at H
         exact absurd H (by simp)
       ·rw [if_neg c10] at H
        exact absurd H (by simp)
      ·rw [if_neg c9] at H
       exact absurd H (by simp)
   ·rw [if_neg c2] at H
    have c2b0 : decide (x6_1 < 10) = false := decide_eq_false c2
    clear c2
    simp only [Option.some.injEq, Prod.mk.injEq] at H
    obtain ⟨rfl, rfl, rfl⟩ := H
    go_wp2
    (try rw [Exit.noGoto_ret])
    go_ret3
    exact ⟨y13_, y8_⟩
def labels_text.f (k : Nat) (l0 : List Int) (a1 : Int) (a2 : Int) : Option (ByteArray × Int × Int) := if 0 ≤ a1 then (if a1 ≤ (l0.length : Int) then ((bits_Uvarint.f k (l0.drop (a1 : Int).toNat)).bind fun bt699 => (if bt699.2.2 = 0 then (if bt699.1 > (IntKind.u64.wrap (a2)) then (some ((⟨#[]⟩ : ByteArray), 0, 3)) else (if (wrap64 ((wrap64 (a1 + bt699.2.1)) + (wrap64 (bt699.1)))) > (l0.length : Int) then (some ((⟨#[]⟩ : ByteArray), 0, 6)) else (if 0 ≤ (wrap64 (a1 + bt699.2.1)) then (if (wrap64 (a1 + bt699.2.1)) ≤ (wrap64 ((wrap64 (a1 + bt699.2.1)) + (wrap64 (bt699.1)))) then (if (wrap64 ((wrap64 (a1 + bt699.2.1)) + (wrap64 (bt699.1)))) ≤ (l0.length : Int) then (some (strOfNums ((l0.take ((wrap64 ((wrap64 (a1 + bt699.2.1)) + (wrap64 (bt699.1)))) : Int).toNat).drop ((wrap64 (a1 + bt699.2.1)) : Int).toNat), wrap64 ((wrap64 (a1 + bt699.2.1)) + (wrap64 (bt699.1))), 0)) else (none)) else (none)) else (none)))) else (some ((⟨#[]⟩ : ByteArray), 0, bt699.2.2)))) else (none)) else (none)
set_option maxHeartbeats 8000000 in
set_option maxRecDepth 100000 in
theorem labels_text.calls (k : Nat) (A0 : Option Addr) (c0 : Nat) (l0 : List Int) (a1 : Int) (a2 : Int) (r1 : ByteArray) (r2 : Int) (r3 : Int) (w : World) (hr0 : Kd.C (Kd.int .u8) w A0 l0.length l0) (hc0 : l0.length ≤ c0) (h : labels_text.f k l0 a1 a2 = some (r1, r2, r3)) :
  Calls Tryd.prog 76 #[.slice A0 l0.length c0, .int .i64 a1, .int .i64 a2] w fun e w' => e = .returned (.tuple #[.string r1, .int .i64 r2, .int .i64 r3]) ∧ Drawn0 w w' := by
 have HR0 := Aside0.mk hr0
 have HC0 := Aside0.mk hc0
 clear hr0 hc0
 have H : (if 0 ≤ a1 then (if a1 ≤ (l0.length : Int) then ((bits_Uvarint.f k (l0.drop (a1 : Int).toNat)).bind fun bt699 => (if bt699.2.2 = 0 then (if bt699.1 > (IntKind.u64.wrap (a2)) then (some ((⟨#[]⟩ : ByteArray), 0, 3)) else (if (wrap64 ((wrap64 (a1 + bt699.2.1)) + (wrap64 (bt699.1)))) > (l0.length : Int) then (some ((⟨#[]⟩ : ByteArray), 0, 6)) else (if 0 ≤ (wrap64 (a1 + bt699.2.1)) then (if (wrap64 (a1 + bt699.2.1)) ≤ (wrap64 ((wrap64 (a1 + bt699.2.1)) + (wrap64 (bt699.1)))) then (if (wrap64 ((wrap64 (a1 + bt699.2.1)) + (wrap64 (bt699.1)))) ≤ (l0.length : Int) then (some (strOfNums ((l0.take ((wrap64 ((wrap64 (a1 + bt699.2.1)) + (wrap64 (bt699.1)))) : Int).toNat).drop ((wrap64 (a1 + bt699.2.1)) : Int).toNat), wrap64 ((wrap64 (a1 + bt699.2.1)) + (wrap64 (bt699.1))), 0)) else (none)) else (none)) else (none)))) else (some ((⟨#[]⟩ : ByteArray), 0, bt699.2.2)))) else (none)) else (none)) = some (r1, r2, r3) := h
 clear h
 by_cases c4 : 0 ≤ a1
 ·rw [if_pos c4] at H
  have c4b0 := eq_true c4
  have c4b1 : decide (0 ≤ a1) = true := decide_eq_true c4
  clear c4
  by_cases c5 : a1 ≤ (l0.length : Int)
  ·rw [if_pos c5] at H
   have c5b0 := eq_true c5
   have c5b1 : decide (a1 ≤ (l0.length : Int)) = true := decide_eq_true c5
   clear c5
   replace H := Option.bind_eq_some_iff.mp H
   obtain ⟨⟨t699, t700, t701⟩, A60, H⟩ := H
   replace H : (if t701 = 0 then (if t699 > (IntKind.u64.wrap (a2)) then (some ((⟨#[]⟩ : ByteArray), 0, 3)) else (if (wrap64 ((wrap64 (a1 + t700)) + (wrap64 (t699)))) > (l0.length : Int) then (some ((⟨#[]⟩ : ByteArray), 0, 6)) else (if 0 ≤ (wrap64 (a1 + t700)) then (if (wrap64 (a1 + t700)) ≤ (wrap64 ((wrap64 (a1 + t700)) + (wrap64 (t699)))) then (if (wrap64 ((wrap64 (a1 + t700)) + (wrap64 (t699)))) ≤ (l0.length : Int) then (some (strOfNums ((l0.take ((wrap64 ((wrap64 (a1 + t700)) + (wrap64 (t699)))) : Int).toNat).drop ((wrap64 (a1 + t700)) : Int).toNat), wrap64 ((wrap64 (a1 + t700)) + (wrap64 (t699))), 0)) else (none)) else (none)) else (none)))) else (some ((⟨#[]⟩ : ByteArray), 0, t701))) = some (r1, r2, r3) := H
   have A6 := Aside0.mk A60
   clear A60
   by_cases c7 : t701 = 0
   ·rw [if_pos c7] at H
    have c7b0 : (t701 == 0) = true := beq_iff_eq.mpr c7
    have c7b1 : (t701 != 0) = false := bne_eq_false_iff_eq.mpr c7
    clear c7
    by_cases c8 : t699 > (IntKind.u64.wrap (a2))
    ·rw [if_pos c8] at H
     have c8b0 : decide ((IntKind.u64.wrap (a2)) < t699) = true := decide_eq_true c8
     clear c8
     simp only [Option.some.injEq, Prod.mk.injEq] at H
     obtain ⟨rfl, rfl, rfl⟩ := H
     obtain ⟨i09, hi09, _, hsz9, _⟩ := info_parts info5
     obtain ⟨A9, hcut9, hA9, hC9⟩ := print_drop_of (P := Tryd.prog) (Value.int .u8) 0 53 5 .i64 Tryd.underlying53 hi09 hsz9 A0 c0 l0 a1 (of_decide_eq_true y3_) (of_decide_eq_true y3_) HC0.out
     have HR698 := Aside0.mk (Kd.C_of_reads (h1 := fun _ => rfl) (hA9 _ (Kd.reads_of_C HR0.out)))
     have HC698 := Aside0.mk hC9
     clear hA9 hC9 hi09 hsz9
     go_enter Tryd.func76, Tryd.ntmps76
     go_wp2_with (first | ((with_reducible refine gate_callee (f := 75) rfl ?_); refine goesL_ (some 17) rfl rfl Tryd.func75 (by kernel_rfl) rfl #[.slice A9 (l0.drop (a1 : Int).toNat).length (c0 - a1.toNat)] rfl y33_ ?_; (with_reducible refine (bits_Uvarint.calls k _ _ (l0.drop (a1 : Int).toNat) t699 t700 t701 _ ?side1 ?side2 A6.out).mono ?_); (case side1 => repeat (first | exact HR698.out | (with_reducible refine Kd.C_alloc ?_ _) | (with_reducible refine Kd.C_drewN ?_ _) | (with_reducible refine Kd.C_drew ?_))); (case side2 => exact HC698.out); rintro e w' ⟨rfl, ⟨nd, rfl⟩⟩; refine ⟨_, rfl, ?_⟩))
     go_ret3
     exact ⟨y13_, y8_⟩
    ·rw [if_neg c8] at H
     have c8b0 : decide ((IntKind.u64.wrap (a2)) < t699) = false := decide_eq_false c8
     clear c8
     by_cases c10 : (wrap64 ((wrap64 (a1 + t700)) + (wrap64 (t699)))) > (l0.length : Int)
     ·rw [if_pos c10] at H
      have c10b0 : decide ((l0.length : Int) < (wrap64 ((wrap64 (a1 + t700)) + (wrap64 (t699))))) = true := decide_eq_true c10
      clear c10
      simp only [Option.some.injEq, Prod.mk.injEq] at H
      obtain ⟨rfl, rfl, rfl⟩ := H
      obtain ⟨i011, hi011, _, hsz11, _⟩ := info_parts info5
      obtain ⟨A11, hcut11, hA11, hC11⟩ := print_drop_of (P := Tryd.prog) (Value.int .u8) 0 53 5 .i64 Tryd.underlying53 hi011 hsz11 A0 c0 l0 a1 (of_decide_eq_true y3_) (of_decide_eq_true y3_) HC0.out
      have HR698 := Aside0.mk (Kd.C_of_reads (h1 := fun _ => rfl) (hA11 _ (Kd.reads_of_C HR0.out)))
      have HC698 := Aside0.mk hC11
      clear hA11 hC11 hi011 hsz11
      go_enter Tryd.func76, Tryd.ntmps76
      go_wp2_with (first | ((with_reducible refine gate_callee (f := 75) rfl ?_); refine goesL_ (some 17) rfl rfl Tryd.func75 (by kernel_rfl) rfl #[.slice A11 (l0.drop (a1 : Int).toNat).length (c0 - a1.toNat)] rfl y33_ ?_; (with_reducible refine (bits_Uvarint.calls k _ _ (l0.drop (a1 : Int).toNat) t699 t700 t701 _ ?side1 ?side2 A6.out).mono ?_); (case side1 => repeat (first | exact HR698.out | (with_reducible refine Kd.C_alloc ?_ _) | (with_reducible refine Kd.C_drewN ?_ _) | (with_reducible refine Kd.C_drew ?_))); (case side2 => exact HC698.out); rintro e w' ⟨rfl, ⟨nd, rfl⟩⟩; refine ⟨_, rfl, ?_⟩))
      go_ret3
      exact ⟨y13_, y8_⟩
     ·rw [if_neg c10] at H
      have c10b0 : decide ((l0.length : Int) < (wrap64 ((wrap64 (a1 + t700)) + (wrap64 (t699))))) = false := decide_eq_false c10
      clear c10
      obtain ⟨ji12, hji12⟩ : ∃ j_ : Int, (wrap64 (a1 + t700)) = j_ := ⟨_, rfl⟩
      replace H : (if 0 ≤ (ji12) then (if (ji12) ≤ (wrap64 ((ji12) + (wrap64 (t699)))) then (if (wrap64 ((ji12) + (wrap64 (t699)))) ≤ (l0.length : Int) then (some (strOfNums ((l0.take ((wrap64 ((ji12) + (wrap64 (t699)))) : Int).toNat).drop ((ji12) : Int).toNat), wrap64 ((ji12) + (wrap64 (t699))), 0)) else (none)) else (none)) else (none)) = some (r1, r2, r3) := by first | (rw [hji12] at H; exact H) | (simp only [hji12] at H ⊢; exact H)
      (try rw [hji12] at c10b0)
      (try rw [hji12] at A6)
      have hji12w : (IntKind.i64.wrap (a1 + t700)) = ji12 := (i64_w _).trans hji12
      by_cases c13 : 0 ≤ (ji12)
      ·rw [if_pos c13] at H
       have c13b0 := eq_true c13
       have c13b1 : decide (0 ≤ (ji12)) = true := decide_eq_true c13
       clear c13
       by_cases c14 : (ji12) ≤ (wrap64 ((ji12) + (wrap64 (t699))))
       ·rw [if_pos c14] at H
        have c14b0 := eq_true c14
        have c14b1 : decide ((ji12) ≤ (wrap64 ((ji12) + (wrap64 (t699))))) = true := decide_eq_true c14
        by_cases c15 : (wrap64 ((ji12) + (wrap64 (t699)))) ≤ (l0.length : Int)
        ·rw [if_pos c15] at H
         have c15b0 := eq_true c15
         have c15b1 : decide ((wrap64 ((ji12) + (wrap64 (t699)))) ≤ (l0.length : Int)) = true := decide_eq_true c15
         simp only [Option.some.injEq, Prod.mk.injEq] at H
         obtain ⟨rfl, rfl, rfl⟩ := H
         obtain ⟨i016, hi016, _, hsz16, _⟩ := info_parts info5
         obtain ⟨A16, hcut16, hA16, hC16⟩ := print_drop_of (P := Tryd.prog) (Value.int .u8) 0 53 5 .i64 Tryd.underlying53 hi016 hsz16 A0 c0 l0 a1 (of_decide_eq_true y3_) (of_decide_eq_true y3_) HC0.out
         have HR698 := Aside0.mk (Kd.C_of_reads (h1 := fun _ => rfl) (hA16 _ (Kd.reads_of_C HR0.out)))
         have HC698 := Aside0.mk hC16
         clear hA16 hC16 hi016 hsz16
         go_enter Tryd.func76, Tryd.ntmps76
         go_wp2_with (first | ((with_reducible refine gate_callee (f := 75) rfl ?_); refine goesL_ (some 17) rfl rfl Tryd.func75 (by kernel_rfl) rfl #[.slice A16 (l0.drop (a1 : Int).toNat).length (c0 - a1.toNat)] rfl y33_ ?_; (with_reducible refine (bits_Uvarint.calls k _ _ (l0.drop (a1 : Int).toNat) t699 t700 t701 _ ?side1 ?side2 A6.out).mono ?_); (case side1 => repeat (first | exact HR698.out | (with_reducible refine Kd.C_alloc ?_ _) | (with_reducible refine Kd.C_drewN ?_ _) | (with_reducible refine Kd.C_drew ?_))); (case side2 => exact HC698.out); rintro e w' ⟨rfl, ⟨nd, rfl⟩⟩; refine ⟨_, rfl, ?_⟩; obtain ⟨i017, hi017, _, hsz17, _⟩ := info_parts info5; obtain ⟨A17, hcut17, hA17, hC17⟩ := print_mid_of (P := Tryd.prog) (Value.int .u8) 0 53 5 .i64 .i64 Tryd.underlying53 hi017 hsz17 A0 c0 l0 (ji12) (wrap64 ((ji12) + (wrap64 (t699)))) (of_decide_eq_true y3_) (by first | omega | exact of_decide_eq_true y3_) (of_decide_eq_true y3_) HC0.out; have HR702 := Aside0.mk (Kd.C_of_reads (h1 := fun _ => rfl) (hA17 _ (Kd.reads_of_C HR0.out))); have HC702 := Aside0.mk hC17; clear hA17 hC17 hi017 hsz17; have hcv18 := Kd.C_string (P := Tryd.prog) (A := A17) (c := (c0 - (ji12).toNat)) Tryd.underlying53 Tryd.underlying5 Tryd.underlying9 HR702.out; have hcv18n := fun m_ : Nat => Kd.C_string (P := Tryd.prog) (A := A17) (c := (c0 - (ji12).toNat)) Tryd.underlying53 Tryd.underlying5 Tryd.underlying9 (Kd.C_drewN (HR702.out) m_); (try simp only [List.length_drop, List.length_take] at hcv18n); (try rw [Nat.min_eq_left (by omega)] at hcv18n)))
         go_ret3
         exact ⟨by first | rfl | (simp; done) | ((simp only [← hji12] <;> (first | rfl | simp)); done) | (congr 1; first | assumption | (symm; assumption)) | (simp [*]; done), y8_⟩
        ·rw [if_neg c15] at H
         exact absurd H (by simp)
       ·rw [if_neg c14] at H
        exact absurd H (by simp)
      ·rw [if_neg c13] at H
       exact absurd H (by simp)
   ·rw [if_neg c7] at H
    have c7b0 : (t701 == 0) = false := beq_eq_false_iff_ne.mpr c7
    have c7b1 : (t701 != 0) = true := bne_iff_ne.mpr c7
    simp only [Option.some.injEq, Prod.mk.injEq] at H
    obtain ⟨rfl, rfl, rfl⟩ := H
    obtain ⟨i019, hi019, _, hsz19, _⟩ := info_parts info5
    obtain ⟨A19, hcut19, hA19, hC19⟩ := print_drop_of (P := Tryd.prog) (Value.int .u8) 0 53 5 .i64 Tryd.underlying53 hi019 hsz19 A0 c0 l0 a1 (of_decide_eq_true y3_) (of_decide_eq_true y3_) HC0.out
    have HR698 := Aside0.mk (Kd.C_of_reads (h1 := fun _ => rfl) (hA19 _ (Kd.reads_of_C HR0.out)))
    have HC698 := Aside0.mk hC19
    clear hA19 hC19 hi019 hsz19
    go_enter Tryd.func76, Tryd.ntmps76
    go_wp2_with (first | ((with_reducible refine gate_callee (f := 75) rfl ?_); refine goesL_ (some 17) rfl rfl Tryd.func75 (by kernel_rfl) rfl #[.slice A19 (l0.drop (a1 : Int).toNat).length (c0 - a1.toNat)] rfl y33_ ?_; (with_reducible refine (bits_Uvarint.calls k _ _ (l0.drop (a1 : Int).toNat) t699 t700 t701 _ ?side1 ?side2 A6.out).mono ?_); (case side1 => repeat (first | exact HR698.out | (with_reducible refine Kd.C_alloc ?_ _) | (with_reducible refine Kd.C_drewN ?_ _) | (with_reducible refine Kd.C_drew ?_))); (case side2 => exact HC698.out); rintro e w' ⟨rfl, ⟨nd, rfl⟩⟩; refine ⟨_, rfl, ?_⟩))
    go_ret3
    exact ⟨y13_, y8_⟩
  ·rw [if_neg c5] at H
   exact absurd H (by simp)
 ·rw [if_neg c4] at H
  exact absurd H (by simp)
def labels_Take.l0 : Nat → List Int → Int → List (S44) → Int → Int → Option ((List (S44)) × Int × Int)
 | 0, _, _, _, _, _ => none
 | k + 1, x0, x6, x8, x25, x26 => if x26 < x25 then ((labels_text.f k x0 x6 64).bind fun bt710 => (if 0 ≤ x26 then (if x26 < (x8.length : Int) then ((some (x8.set (x26 : Int).toNat (⟨bt710.1, (rd_T44 x8 x26).f1⟩ : S44) : List (S44))).bind fun y713 => (if bt710.2.2 = 0 then ((labels_text.f k x0 bt710.2.1 128).bind fun bt714 => (if bt714.2.2 = 0 then (labels_Take.l0 k x0 bt714.2.1 (y713.set (x26 : Int).toNat (⟨(rd_T44 y713 x26).f0, bt714.1⟩ : S44)) x25 (wrap64 (x26 + 1))) else (some (([] : List (S44)), 0, bt714.2.2)))) else (some (([] : List (S44)), 0, bt710.2.2)))) else (none)) else (none))) else ((labels_Right.f k x8).bind fun t709 => (if t709 = 0 then (some (x8, x6, 0)) else (some (([] : List (S44)), 0, t709))))
def labels_Take.f (k : Nat) (l0 : List Int) : Option ((List (S44)) × Int × Int) := (bits_Uvarint.f k l0).bind fun bt703 => (if bt703.2.2 = 0 then (if bt703.1 > 16 then (some (([] : List (S44)), 0, 3)) else (if 0 ≤ bt703.1 then (if (bt703.1 : Int).toNat ≤ 8796093022208 then ((some (List.replicate (bt703.1 : Int).toNat z44 : List (S44))).bind fun y706 => (labels_Take.l0 k l0 bt703.2.1 y706 (y706.length : Int) 0)) else (none)) else (none))) else (some (([] : List (S44)), 0, bt703.2.2)))
set_option maxHeartbeats 8000000 in
set_option maxRecDepth 100000 in
theorem labels_Take.calls (k : Nat) (A0 : Option Addr) (c0 : Nat) (l0 : List Int) (r1 : List (S44)) (r2 : Int) (r3 : Int) (w : World) (hT : Aside0 (Tab w)) (hr0 : Kd.C (Kd.int .u8) w A0 l0.length l0) (hc0 : l0.length ≤ c0) (h : labels_Take.f k l0 = some (r1, r2, r3)) :
  Calls Tryd.prog 51 #[.slice A0 l0.length c0] w fun e w' => ∃ v0_ : Value, e = .returned (.tuple #[v0_, .int .i64 r2, .int .i64 r3]) ∧ Kd.R k44 44 w' w.heap.size (fun _ => True) v0_ r1 ∧ Below w.heap.size w w' := by
 have HR0 := Aside0.mk hr0
 have HC0 := Aside0.mk hc0
 clear hr0 hc0
 have HB := Aside0.mk (Below.refl w.heap.size w)
 have H : ((bits_Uvarint.f k l0).bind fun bt703 => (if bt703.2.2 = 0 then (if bt703.1 > 16 then (some (([] : List (S44)), 0, 3)) else (if 0 ≤ bt703.1 then (if (bt703.1 : Int).toNat ≤ 8796093022208 then ((some (List.replicate (bt703.1 : Int).toNat z44 : List (S44))).bind fun y706 => (labels_Take.l0 k l0 bt703.2.1 y706 (y706.length : Int) 0)) else (none)) else (none))) else (some (([] : List (S44)), 0, bt703.2.2)))) = some (r1, r2, r3) := h
 clear h
 replace H := Option.bind_eq_some_iff.mp H
 obtain ⟨⟨t703, t704, t705⟩, A20, H⟩ := H
 replace H : (if t705 = 0 then (if t703 > 16 then (some (([] : List (S44)), 0, 3)) else (if 0 ≤ t703 then (if (t703 : Int).toNat ≤ 8796093022208 then ((some (List.replicate (t703 : Int).toNat z44 : List (S44))).bind fun y706 => (labels_Take.l0 k l0 t704 y706 (y706.length : Int) 0)) else (none)) else (none))) else (some (([] : List (S44)), 0, t705))) = some (r1, r2, r3) := H
 have A2 := Aside0.mk A20
 clear A20
 by_cases c3 : t705 = 0
 ·rw [if_pos c3] at H
  have c3b0 : (t705 == 0) = true := beq_iff_eq.mpr c3
  have c3b1 : (t705 != 0) = false := bne_eq_false_iff_eq.mpr c3
  clear c3
  by_cases c4 : t703 > 16
  ·rw [if_pos c4] at H
   have c4b0 : decide (16 < t703) = true := decide_eq_true c4
   clear c4
   simp only [Option.some.injEq, Prod.mk.injEq] at H
   obtain ⟨rfl, rfl, rfl⟩ := H
   go_enter Tryd.func51, Tryd.ntmps51
   go_wp2_with (first | ((with_reducible refine gate_callee (f := 75) rfl ?_); refine goesL_ (some 13) rfl rfl Tryd.func75 (by kernel_rfl) rfl #[.slice A0 l0.length c0] rfl y2_ ?_; (with_reducible refine (bits_Uvarint.calls k _ _ l0 t703 t704 t705 _ ?side1 ?side2 A2.out).mono ?_); (case side1 => repeat (first | exact HR0.out | (with_reducible refine Kd.C_alloc ?_ _) | (with_reducible refine Kd.C_drewN ?_ _) | (with_reducible refine Kd.C_drew ?_))); (case side2 => exact HC0.out); rintro e w' ⟨rfl, ⟨nd, rfl⟩⟩; refine ⟨_, rfl, ?_⟩))
   go_ret3
   exact ⟨_, y7_, y11_, y1_⟩
  ·rw [if_neg c4] at H
   have c4b0 : decide (16 < t703) = false := decide_eq_false c4
   clear c4
   by_cases c5 : 0 ≤ t703
   ·rw [if_pos c5] at H
    have c5b0 := eq_true c5
    have c5b1 : decide (0 ≤ t703) = true := decide_eq_true c5
    clear c5
    by_cases c6 : (t703 : Int).toNat ≤ 8796093022208
    ·rw [if_pos c6] at H
     have c6b0 := eq_true c6
     have c6b1 : decide ((t703 : Int).toNat ≤ 8796093022208) = true := decide_eq_true c6
     clear c6
     obtain ⟨y706, hy706⟩ : ∃ y_ : List (S44), y_ = (List.replicate (t703 : Int).toNat z44) := ⟨_, rfl⟩
     replace H : (labels_Take.l0 k l0 t704 y706 (y706.length : Int) 0) = some (r1, r2, r3) := by first | (rw [hy706]; with_reducible exact H) | (have H2_ := (Option.bind_some _ _).symm.trans H; rw [hy706]; with_reducible exact H2_) | (have H2_ := (Option.bind_some _ _).symm.trans H; with_reducible exact H2_) | with_reducible exact H | (rw [hy706]; exact H) | exact H
     have Ny706 := Aside0.mk hy706
     clear hy706
     have H' := Aside0.mk H
     clear H
     go_enter Tryd.func51, Tryd.ntmps51
     go_wp2_with (first | ((with_reducible refine gate_callee (f := 75) rfl ?_); refine goesL_ (some 13) rfl rfl Tryd.func75 (by kernel_rfl) rfl #[.slice A0 l0.length c0] rfl y2_ ?_; (with_reducible refine (bits_Uvarint.calls k _ _ l0 t703 t704 t705 _ ?side1 ?side2 A2.out).mono ?_); (case side1 => repeat (first | exact HR0.out | (with_reducible refine Kd.C_alloc ?_ _) | (with_reducible refine Kd.C_drewN ?_ _) | (with_reducible refine Kd.C_drew ?_))); (case side2 => exact HC0.out); rintro e w' ⟨rfl, ⟨nd, rfl⟩⟩; refine ⟨_, rfl, ?_⟩) | ((with_reducible refine gate_dst (N := 23) rfl ?_); refine Kd.R_makeU k44 _ 44 rfl (N := 23) rfl 29 _ _ rfl t703 rfl rfl Tryd.underlying29 (.agg #[(.string ⟨#[]⟩), (.string ⟨#[]⟩)]) 32 info44 rfl (by decide) (by omega) z44 (ok := fun _ => True) (okp := fun _ => True) (k44_mkM _ _ _ z44 ) (fun _ hk => hk) trivial (of_decide_eq_true y3_) (Nat.le_trans (Nat.mul_le_mul_right _ (of_decide_eq_true y3_ : t703.toNat ≤ 8796093022208)) (by omega)) (Below.refl _ _) (Nat.le_refl _) ?_; intro v707 w7 ho8 hb hg_ hnew_; clear hg_ hnew_; (first | rw [← Ny706.out] at ho8 | (simp only [Int.reduceToNat] at ho8; rw [← Ny706.out] at ho8)); have n0_ := Aside0.mk (Kd.R_lower ho8 (below_size y1_)); have n1_ := Aside0.mk (below_step y1_ hb); clear HB; have HO708 := n0_; have HB := n1_; clear n0_ n1_; clear hb ho8; obtain ⟨Ao9, co9, eo9⟩ := Kd.R_slice HO708.out; subst eo9))
     go_loopg [6, 26] k (fun kq v6 v26 w' => ∃ (x6_1 : Int) (x8_1 : List (S44)) (x26_1 : Int), v6 = .int .i64 x6_1 ∧ v26 = .int .i64 x26_1 ∧ Aside0 (labels_Take.l0 kq l0 x6_1 x8_1 (y706.length : Int) x26_1 = some (r1, r2, r3)) ∧ Aside0 (kq ≤ k) ∧ Aside0 (Kd.R k44 44 w' w.heap.size (fun _ => True) (.slice Ao9 y706.length co9) x8_1) ∧ Aside0 (Below w.heap.size w w'))
     case atStart => exact ⟨(t704), (y706), (0), y6_, y6_, H', ⟨Nat.le_refl _⟩, ⟨by (with_reducible repeat (first | apply Kd.R_alloc | apply Kd.R_drewN | apply Kd.R_drew)); exact HO708.out⟩, ⟨y1_⟩⟩
     case round =>
      clear H'
      try clear p2
      try clear c3
      try clear c3b0
      try clear c3b1
      try clear c4
      try clear c4b0
      try clear c5
      try clear c5b0
      try clear c5b1
      try clear c6
      try clear c6b0
      try clear c6b1
      try clear c7
      obtain ⟨x6_1, x8_1, x26_1, rfl, rfl, HA, HK1, HO_8, HB⟩ := hrel
      have hl8_1 := (Kd.R_reads' HO_8.out).1
      rw [hl8_1] at HO_8
      (try simp only [hl8_1])
      cases gk with
      | zero => exact absurd HA.out (by simp [labels_Take.l0])
      | succ k1 =>
       have H := HA.out
       clear HA
       simp only [labels_Take.l0] at H
       by_cases c10 : x26_1 < (y706.length : Int)
       ·rw [if_pos c10] at H
        have c10b0 : decide (x26_1 < (y706.length : Int)) = true := decide_eq_true c10
        try (have c10b0l_ := c10b0; rw [hl8_1] at c10b0l_)
        clear c10
        replace H := Option.bind_eq_some_iff.mp H
        obtain ⟨⟨t710, t711, t712⟩, A110, H⟩ := H
        replace H : (if 0 ≤ x26_1 then (if x26_1 < (x8_1.length : Int) then ((some (x8_1.set (x26_1 : Int).toNat (⟨t710, (rd_T44 x8_1 x26_1).f1⟩ : S44) : List (S44))).bind fun y713 => (if t712 = 0 then ((labels_text.f k1 l0 t711 128).bind fun bt714 => (if bt714.2.2 = 0 then (labels_Take.l0 k1 l0 bt714.2.1 (y713.set (x26_1 : Int).toNat (⟨(rd_T44 y713 x26_1).f0, bt714.1⟩ : S44)) (y706.length : Int) (wrap64 (x26_1 + 1))) else (some (([] : List (S44)), 0, bt714.2.2)))) else (some (([] : List (S44)), 0, t712)))) else (none)) else (none)) = some (r1, r2, r3) := H
        have A11 := Aside0.mk A110
        clear A110
        by_cases c12 : 0 ≤ x26_1
        ·rw [if_pos c12] at H
         have c12b0 : decide (0 ≤ x26_1) = true := decide_eq_true c12
         clear c12
         by_cases c13 : x26_1 < (x8_1.length : Int)
         ·rw [if_pos c13] at H
          have c13b0 : decide (x26_1 < (x8_1.length : Int)) = true := decide_eq_true c13
          clear c13
          obtain ⟨y713, hy713⟩ : ∃ y_ : List (S44), y_ = (x8_1.set (x26_1 : Int).toNat (⟨t710, (rd_T44 x8_1 x26_1).f1⟩ : S44)) := ⟨_, rfl⟩
          replace H : (if t712 = 0 then ((labels_text.f k1 l0 t711 128).bind fun bt714 => (if bt714.2.2 = 0 then (labels_Take.l0 k1 l0 bt714.2.1 (y713.set (x26_1 : Int).toNat (⟨(rd_T44 y713 x26_1).f0, bt714.1⟩ : S44)) (y706.length : Int) (wrap64 (x26_1 + 1))) else (some (([] : List (S44)), 0, bt714.2.2)))) else (some (([] : List (S44)), 0, t712))) = some (r1, r2, r3) := by first | (rw [hy713]; with_reducible exact H) | (have H2_ := (Option.bind_some _ _).symm.trans H; rw [hy713]; with_reducible exact H2_) | (have H2_ := (Option.bind_some _ _).symm.trans H; with_reducible exact H2_) | with_reducible exact H | (rw [hy713]; exact H) | exact H
          have Ny713 := Aside0.mk hy713
          clear hy713
          by_cases c15 : t712 = 0
          ·rw [if_pos c15] at H
           have c15b0 : (t712 == 0) = true := beq_iff_eq.mpr c15
           have c15b1 : (t712 != 0) = false := bne_eq_false_iff_eq.mpr c15
           clear c15
           replace H := Option.bind_eq_some_iff.mp H
           obtain ⟨⟨t714, t715, t716⟩, A160, H⟩ := H
           replace H : (if t716 = 0 then (labels_Take.l0 k1 l0 t715 (y713.set (x26_1 : Int).toNat (⟨(rd_T44 y713 x26_1).f0, t714⟩ : S44)) (y706.length : Int) (wrap64 (x26_1 + 1))) else (some (([] : List (S44)), 0, t716))) = some (r1, r2, r3) := H
           have A16 := Aside0.mk A160
           clear A160
           obtain ⟨y717, hy717⟩ : ∃ y_ : List (S44), y_ = (y713.set (x26_1 : Int).toNat (⟨(rd_T44 y713 x26_1).f0, t714⟩ : S44)) := ⟨_, rfl⟩
           replace H : (if t716 = 0 then (labels_Take.l0 k1 l0 t715 y717 (y706.length : Int) (wrap64 (x26_1 + 1))) else (some (([] : List (S44)), 0, t716))) = some (r1, r2, r3) := by first | (rw [hy717]; with_reducible exact H) | (have H2_ := (Option.bind_some _ _).symm.trans H; rw [hy717]; with_reducible exact H2_) | (have H2_ := (Option.bind_some _ _).symm.trans H; with_reducible exact H2_) | with_reducible exact H | (rw [hy717]; exact H) | exact H
           have Ny717 := Aside0.mk hy717
           clear hy717
           by_cases c18 : t716 = 0
           ·rw [if_pos c18] at H
            have c18b0 : (t716 == 0) = true := beq_iff_eq.mpr c18
            have c18b1 : (t716 != 0) = false := bne_eq_false_iff_eq.mpr c18
            clear c18
            have H' := Aside0.mk H
            clear H
            go_wp2_with (first | ((with_reducible refine gate_callee (f := 76) rfl ?_); refine goesL_ (some 34) rfl rfl Tryd.func76 (by kernel_rfl) rfl #[.slice A0 l0.length c0, .int .i64 x6_1, .int .i64 64] rfl y2_ ?_; (with_reducible refine (labels_text.calls k1 _ _ l0 x6_1 64 t710 t711 t712 _ ?side1 ?side2 A11.out).mono ?_); (case side1 => repeat (first | exact (Kd.C_below HR0.out HB.out) | (with_reducible refine Kd.C_alloc ?_ _) | (with_reducible refine Kd.C_drewN ?_ _) | (with_reducible refine Kd.C_drew ?_))); (case side2 => exact HC0.out); rintro e w' ⟨rfl, ⟨nd, rfl⟩⟩; refine ⟨_, rfl, ?_⟩; (try (rw [drewN_self wr]; generalize hq_ : World.drewN wr _ = wr; have n0_ : Aside0 (Kd.R k44 44 wr w.heap.size (fun _ => True) (.slice Ao9 x8_1.length co9) x8_1) := ⟨by rw [← hq_]; exact y14_⟩; have n1_ : Aside0 (Below w.heap.size w wr) := ⟨by rw [← hq_]; exact y1_⟩; clear HO_8 HB hq_; have HO_8 := n0_; have HB := n1_; clear n0_ n1_)); have p14 : 0 ≤ (x26_1 : Int) := of_decide_eq_true y3_; have q14 : (x26_1 : Int) < ((x8_1.length : Int) : Int) := of_decide_eq_true y3_; obtain ⟨go14, co14, eo14, gb14, gl14, cl14, HG14⟩ := Kd.R_form HO_8.out (by omega); (first | cases eo14 | (injection eo14 with ea_ en_ ec_; (first | subst ea_ | (injection ea_ with ea_; subst ea_)); subst ec_; clear en_)); have GB14 := Aside0.mk gb14; have GG14 := Aside0.mk HG14; clear gb14 gl14 HG14; obtain ⟨ce14, hcl14, hM14, hcc14, hfr14⟩ := Kd.R_elem HO_8.out z44 (x26_1 : Int) p14 q14; obtain rfl := k44_openM hM14; have hx14_0 : wr.cell? ⟨go14, (x26_1 : Int).toNat * 2, none⟩ = some (.string ((rd_T44 x8_1 x26_1).f0)) := hcc14 0 _ rfl; have hx14_1 : wr.cell? ⟨go14, (x26_1 : Int).toNat * 2 + 1, none⟩ = some (.string ((rd_T44 x8_1 x26_1).f1)) := hcc14 1 _ rfl; have hf14_0 : wr.frozen? ⟨go14, (x26_1 : Int).toNat * 2, none⟩ = false := hfr14 0; have hf14_1 : wr.frozen? ⟨go14, (x26_1 : Int).toNat * 2 + 1, none⟩ = false := hfr14 1; clear hcl14 hcc14 hfr14 hM14; replace p14 := eq_true p14; replace q14 := eq_true q14; have HX19 := Aside0.mk (show Kd.R k44 44 wr w.heap.size (fun _ => True) (.slice (some ⟨go14, 0, none⟩) x8_1.length co9) x8_1 from y14_); obtain ⟨ce19, hcl19, hM19, hcc19, hfr19⟩ := Kd.R_elem HX19.out z44 (x26_1 : Int) (of_decide_eq_true y3_) y20_; obtain rfl := k44_openM hM19; have HP19 := Kd.R_seg HX19.out (x26_1 : Int) (of_decide_eq_true y3_) y20_ (seg := [.string t710]) (j := 0) hcl19 hcc19 (show 1 ≤ 2 from by decide) (x' := (⟨t710, (rd_T44 x8_1 x26_1).f1⟩ : S44)) (k44_mkM _ _ _ (⟨t710, (rd_T44 x8_1 x26_1).f1⟩ : S44) ) (fun _ hk => hk); have hx19_0 := hcc19 0 _ rfl; (try simp only [show (k44).sz = 2 from rfl, Nat.mul_one, Nat.add_zero] at hx19_0); have hf19_0 := hfr19 0; (try simp only [show (k44).sz = 2 from rfl, Nat.mul_one, Nat.add_zero] at hf19_0); clear hcl19 hcc19 hfr19 hM19) | ((with_reducible refine gate_store (t := 9) (p := 39) rfl ?_); refine store_event (t := 9) (p := 39) (v := ?vo_w20) (w1 := (wr.setCell ⟨go14, (x26_1 : Int).toNat * 2, none⟩ (.string t710))) ?hg ?ho ?hn ?hr ?_; (case ho => rfl); (case hg => rfl); (case hn => rfl); (case hr => first | (go_simp; done) | (go_simp; rfl)); intro w20 hw; have hg : wr.grownBy w20 (some go14) := (by rw [hw]; exact HP19.2); have hp_ : Kd.R k44 44 w20 w.heap.size (fun _ => True) (.slice (some ⟨go14, 0, none⟩) x8_1.length co9) y713 := (by rw [hw, Ny713.out]; exact HP19.1); clear HP19; have n0_ := Aside0.mk (hp_); have n1_ := Aside0.mk ((by rw [hw]; exact below_set (HB.out) GB14.out : Below w.heap.size w w20)); clear HO_8; clear HB; have HO_8 := n0_; have HB := n1_; clear n0_ n1_; clear hg hw hp_) | ((with_reducible refine gate_callee (f := 76) rfl ?_); refine goesL_ (some 48) rfl rfl Tryd.func76 (by kernel_rfl) rfl #[.slice A0 l0.length c0, .int .i64 t711, .int .i64 128] rfl y2_ ?_; (with_reducible refine (labels_text.calls k1 _ _ l0 t711 128 t714 t715 t716 _ ?side1 ?side2 A16.out).mono ?_); (case side1 => repeat (first | exact (Kd.C_below HR0.out HB.out) | (with_reducible refine Kd.C_alloc ?_ _) | (with_reducible refine Kd.C_drewN ?_ _) | (with_reducible refine Kd.C_drew ?_))); (case side2 => exact HC0.out); rintro e w' ⟨rfl, ⟨nd, rfl⟩⟩; refine ⟨_, rfl, ?_⟩; (try (rw [drewN_self w20]; generalize hq_ : World.drewN w20 _ = w20; have n0_ : Aside0 (Kd.R k44 44 w20 w.heap.size (fun _ => True) (.slice (some ⟨go14, 0, none⟩) x8_1.length co9) y713) := ⟨by rw [← hq_]; exact y14_⟩; have n1_ : Aside0 (Below w.heap.size w w20) := ⟨by rw [← hq_]; exact y1_⟩; clear HO_8 HB hq_; have HO_8 := n0_; have HB := n1_; clear n0_ n1_)); have p17 : 0 ≤ (x26_1 : Int) := of_decide_eq_true y3_; have q17 : (x26_1 : Int) < ((x8_1.length : Int) : Int) := of_decide_eq_true y3_; obtain ⟨ce17, hcl17, hM17, hcc17, hfr17⟩ := Kd.R_elem HO_8.out z44 (x26_1 : Int) p17 q17; obtain rfl := k44_openM hM17; have hx17_0 : w20.cell? ⟨go14, (x26_1 : Int).toNat * 2, none⟩ = some (.string ((rd_T44 y713 x26_1).f0)) := hcc17 0 _ rfl; have hx17_1 : w20.cell? ⟨go14, (x26_1 : Int).toNat * 2 + 1, none⟩ = some (.string ((rd_T44 y713 x26_1).f1)) := hcc17 1 _ rfl; have hf17_0 : w20.frozen? ⟨go14, (x26_1 : Int).toNat * 2, none⟩ = false := hfr17 0; have hf17_1 : w20.frozen? ⟨go14, (x26_1 : Int).toNat * 2 + 1, none⟩ = false := hfr17 1; clear hcl17 hcc17 hfr17 hM17; replace p17 := eq_true p17; replace q17 := eq_true q17; have HX21 := Aside0.mk (show Kd.R k44 44 w20 w.heap.size (fun _ => True) (.slice (some ⟨go14, 0, none⟩) x8_1.length co9) y713 from y14_); obtain ⟨ce21, hcl21, hM21, hcc21, hfr21⟩ := Kd.R_elem HX21.out z44 (x26_1 : Int) (of_decide_eq_true y3_) y20_; obtain rfl := k44_openM hM21; have HP21 := Kd.R_seg HX21.out (x26_1 : Int) (of_decide_eq_true y3_) y20_ (seg := [.string t714]) (j := 1) hcl21 hcc21 (show 2 ≤ 2 from by decide) (x' := (⟨(rd_T44 y713 x26_1).f0, t714⟩ : S44)) (k44_mkM _ _ _ (⟨(rd_T44 y713 x26_1).f0, t714⟩ : S44) ) (fun _ hk => hk); have hx21_1 := hcc21 1 _ rfl; (try simp only [show (k44).sz = 2 from rfl, Nat.mul_one, Nat.add_zero] at hx21_1); have hf21_1 := hfr21 1; (try simp only [show (k44).sz = 2 from rfl, Nat.mul_one, Nat.add_zero] at hf21_1); clear hcl21 hcc21 hfr21 hM21) | ((with_reducible refine gate_store (t := 9) (p := 53) rfl ?_); refine store_event (t := 9) (p := 53) (v := ?vo_w22) (w1 := (w20.setCell ⟨go14, (x26_1 : Int).toNat * 2 + 1, none⟩ (.string t714))) ?hg ?ho ?hn ?hr ?_; (case ho => rfl); (case hg => rfl); (case hn => rfl); (case hr => first | (go_simp; done) | (go_simp; rfl)); intro w22 hw; have hg : w20.grownBy w22 (some go14) := (by rw [hw]; exact HP21.2); have hp_ : Kd.R k44 44 w22 w.heap.size (fun _ => True) (.slice (some ⟨go14, 0, none⟩) x8_1.length co9) y717 := (by rw [hw, Ny717.out]; exact HP21.1); clear HP21; have n0_ := Aside0.mk (hp_); have n1_ := Aside0.mk ((by rw [hw]; exact below_set (HB.out) GB14.out : Below w.heap.size w w22)); clear HO_8; clear HB; have HO_8 := n0_; have HB := n1_; clear n0_ n1_; clear hg hw hp_))
            (try simp only [← hl8_1])
            go_roundg k1
            case measure => have := HK1.out; omega
            case rel => exact ⟨(t715), (y717), (wrap64 (x26_1 + 1)), y6_, y6_, H', ⟨y53_⟩, ⟨by (try simp only [hl8_1]); (with_reducible repeat (first | apply Kd.R_alloc | apply Kd.R_drewN | apply Kd.R_drew)); exact HO_8.out⟩, ⟨y1_⟩⟩
           ·rw [if_neg c18] at H
            have c18b0 : (t716 == 0) = false := beq_eq_false_iff_ne.mpr c18
            have c18b1 : (t716 != 0) = true := bne_iff_ne.mpr c18
            simp only [Option.some.injEq, Prod.mk.injEq] at H
            obtain ⟨rfl, rfl, rfl⟩ := H
            go_wp2_with (first | ((with_reducible refine gate_callee (f := 76) rfl ?_); refine goesL_ (some 34) rfl rfl Tryd.func76 (by kernel_rfl) rfl #[.slice A0 l0.length c0, .int .i64 x6_1, .int .i64 64] rfl y2_ ?_; (with_reducible refine (labels_text.calls k1 _ _ l0 x6_1 64 t710 t711 t712 _ ?side1 ?side2 A11.out).mono ?_); (case side1 => repeat (first | exact (Kd.C_below HR0.out HB.out) | (with_reducible refine Kd.C_alloc ?_ _) | (with_reducible refine Kd.C_drewN ?_ _) | (with_reducible refine Kd.C_drew ?_))); (case side2 => exact HC0.out); rintro e w' ⟨rfl, ⟨nd, rfl⟩⟩; refine ⟨_, rfl, ?_⟩; (try (rw [drewN_self wr]; generalize hq_ : World.drewN wr _ = wr; have n0_ : Aside0 (Kd.R k44 44 wr w.heap.size (fun _ => True) (.slice Ao9 x8_1.length co9) x8_1) := ⟨by rw [← hq_]; exact y14_⟩; have n1_ : Aside0 (Below w.heap.size w wr) := ⟨by rw [← hq_]; exact y1_⟩; clear HO_8 HB hq_; have HO_8 := n0_; have HB := n1_; clear n0_ n1_)); have p14 : 0 ≤ (x26_1 : Int) := of_decide_eq_true y3_; have q14 : (x26_1 : Int) < ((x8_1.length : Int) : Int) := of_decide_eq_true y3_; obtain ⟨go14, co14, eo14, gb14, gl14, cl14, HG14⟩ := Kd.R_form HO_8.out (by omega); (first | cases eo14 | (injection eo14 with ea_ en_ ec_; (first | subst ea_ | (injection ea_ with ea_; subst ea_)); subst ec_; clear en_)); have GB14 := Aside0.mk gb14; have GG14 := Aside0.mk HG14; clear gb14 gl14 HG14; obtain ⟨ce14, hcl14, hM14, hcc14, hfr14⟩ := Kd.R_elem HO_8.out z44 (x26_1 : Int) p14 q14; obtain rfl := k44_openM hM14; have hx14_0 : wr.cell? ⟨go14, (x26_1 : Int).toNat * 2, none⟩ = some (.string ((rd_T44 x8_1 x26_1).f0)) := hcc14 0 _ rfl; have hx14_1 : wr.cell? ⟨go14, (x26_1 : Int).toNat * 2 + 1, none⟩ = some (.string ((rd_T44 x8_1 x26_1).f1)) := hcc14 1 _ rfl; have hf14_0 : wr.frozen? ⟨go14, (x26_1 : Int).toNat * 2, none⟩ = false := hfr14 0; have hf14_1 : wr.frozen? ⟨go14, (x26_1 : Int).toNat * 2 + 1, none⟩ = false := hfr14 1; clear hcl14 hcc14 hfr14 hM14; replace p14 := eq_true p14; replace q14 := eq_true q14; have HX23 := Aside0.mk (show Kd.R k44 44 wr w.heap.size (fun _ => True) (.slice (some ⟨go14, 0, none⟩) x8_1.length co9) x8_1 from y14_); obtain ⟨ce23, hcl23, hM23, hcc23, hfr23⟩ := Kd.R_elem HX23.out z44 (x26_1 : Int) (of_decide_eq_true y3_) y20_; obtain rfl := k44_openM hM23; have HP23 := Kd.R_seg HX23.out (x26_1 : Int) (of_decide_eq_true y3_) y20_ (seg := [.string t710]) (j := 0) hcl23 hcc23 (show 1 ≤ 2 from by decide) (x' := (⟨t710, (rd_T44 x8_1 x26_1).f1⟩ : S44)) (k44_mkM _ _ _ (⟨t710, (rd_T44 x8_1 x26_1).f1⟩ : S44) ) (fun _ hk => hk); have hx23_0 := hcc23 0 _ rfl; (try simp only [show (k44).sz = 2 from rfl, Nat.mul_one, Nat.add_zero] at hx23_0); have hf23_0 := hfr23 0; (try simp only [show (k44).sz = 2 from rfl, Nat.mul_one, Nat.add_zero] at hf23_0); clear hcl23 hcc23 hfr23 hM23) | ((with_reducible refine gate_store (t := 9) (p := 39) rfl ?_); refine store_event (t := 9) (p := 39) (v := ?vo_w24) (w1 := (wr.setCell ⟨go14, (x26_1 : Int).toNat * 2, none⟩ (.string t710))) ?hg ?ho ?hn ?hr ?_; (case ho => rfl); (case hg => rfl); (case hn => rfl); (case hr => first | (go_simp; done) | (go_simp; rfl)); intro w24 hw; have hg : wr.grownBy w24 (some go14) := (by rw [hw]; exact HP23.2); have hp_ : Kd.R k44 44 w24 w.heap.size (fun _ => True) (.slice (some ⟨go14, 0, none⟩) x8_1.length co9) y713 := (by rw [hw, Ny713.out]; exact HP23.1); clear HP23; have n0_ := Aside0.mk (hp_); have n1_ := Aside0.mk ((by rw [hw]; exact below_set (HB.out) GB14.out : Below w.heap.size w w24)); clear HO_8; clear HB; have HO_8 := n0_; have HB := n1_; clear n0_ n1_; clear hg hw hp_) | ((with_reducible refine gate_callee (f := 76) rfl ?_); refine goesL_ (some 48) rfl rfl Tryd.func76 (by kernel_rfl) rfl #[.slice A0 l0.length c0, .int .i64 t711, .int .i64 128] rfl y2_ ?_; (with_reducible refine (labels_text.calls k1 _ _ l0 t711 128 t714 t715 t716 _ ?side1 ?side2 A16.out).mono ?_); (case side1 => repeat (first | exact (Kd.C_below HR0.out HB.out) | (with_reducible refine Kd.C_alloc ?_ _) | (with_reducible refine Kd.C_drewN ?_ _) | (with_reducible refine Kd.C_drew ?_))); (case side2 => exact HC0.out); rintro e w' ⟨rfl, ⟨nd, rfl⟩⟩; refine ⟨_, rfl, ?_⟩; (try (rw [drewN_self w24]; generalize hq_ : World.drewN w24 _ = w24; have n0_ : Aside0 (Kd.R k44 44 w24 w.heap.size (fun _ => True) (.slice (some ⟨go14, 0, none⟩) x8_1.length co9) y713) := ⟨by rw [← hq_]; exact y14_⟩; have n1_ : Aside0 (Below w.heap.size w w24) := ⟨by rw [← hq_]; exact y1_⟩; clear HO_8 HB hq_; have HO_8 := n0_; have HB := n1_; clear n0_ n1_)); have p17 : 0 ≤ (x26_1 : Int) := of_decide_eq_true y3_; have q17 : (x26_1 : Int) < ((x8_1.length : Int) : Int) := of_decide_eq_true y3_; obtain ⟨ce17, hcl17, hM17, hcc17, hfr17⟩ := Kd.R_elem HO_8.out z44 (x26_1 : Int) p17 q17; obtain rfl := k44_openM hM17; have hx17_0 : w24.cell? ⟨go14, (x26_1 : Int).toNat * 2, none⟩ = some (.string ((rd_T44 y713 x26_1).f0)) := hcc17 0 _ rfl; have hx17_1 : w24.cell? ⟨go14, (x26_1 : Int).toNat * 2 + 1, none⟩ = some (.string ((rd_T44 y713 x26_1).f1)) := hcc17 1 _ rfl; have hf17_0 : w24.frozen? ⟨go14, (x26_1 : Int).toNat * 2, none⟩ = false := hfr17 0; have hf17_1 : w24.frozen? ⟨go14, (x26_1 : Int).toNat * 2 + 1, none⟩ = false := hfr17 1; clear hcl17 hcc17 hfr17 hM17; replace p17 := eq_true p17; replace q17 := eq_true q17; have HX25 := Aside0.mk (show Kd.R k44 44 w24 w.heap.size (fun _ => True) (.slice (some ⟨go14, 0, none⟩) x8_1.length co9) y713 from y14_); obtain ⟨ce25, hcl25, hM25, hcc25, hfr25⟩ := Kd.R_elem HX25.out z44 (x26_1 : Int) (of_decide_eq_true y3_) y20_; obtain rfl := k44_openM hM25; have HP25 := Kd.R_seg HX25.out (x26_1 : Int) (of_decide_eq_true y3_) y20_ (seg := [.string t714]) (j := 1) hcl25 hcc25 (show 2 ≤ 2 from by decide) (x' := (⟨(rd_T44 y713 x26_1).f0, t714⟩ : S44)) (k44_mkM _ _ _ (⟨(rd_T44 y713 x26_1).f0, t714⟩ : S44) ) (fun _ hk => hk); have hx25_1 := hcc25 1 _ rfl; (try simp only [show (k44).sz = 2 from rfl, Nat.mul_one, Nat.add_zero] at hx25_1); have hf25_1 := hfr25 1; (try simp only [show (k44).sz = 2 from rfl, Nat.mul_one, Nat.add_zero] at hf25_1); clear hcl25 hcc25 hfr25 hM25) | ((with_reducible refine gate_store (t := 9) (p := 53) rfl ?_); refine store_event (t := 9) (p := 53) (v := ?vo_w26) (w1 := (w24.setCell ⟨go14, (x26_1 : Int).toNat * 2 + 1, none⟩ (.string t714))) ?hg ?ho ?hn ?hr ?_; (case ho => rfl); (case hg => rfl); (case hn => rfl); (case hr => first | (go_simp; done) | (go_simp; rfl)); intro w26 hw; have hg : w24.grownBy w26 (some go14) := (by rw [hw]; exact HP25.2); have hp_ : Kd.R k44 44 w26 w.heap.size (fun _ => True) (.slice (some ⟨go14, 0, none⟩) x8_1.length co9) y717 := (by rw [hw, Ny717.out]; exact HP25.1); clear HP25; have n0_ := Aside0.mk (hp_); have n1_ := Aside0.mk ((by rw [hw]; exact below_set (HB.out) GB14.out : Below w.heap.size w w26)); clear HO_8; clear HB; have HO_8 := n0_; have HB := n1_; clear n0_ n1_; clear hg hw hp_))
            go_ret3
            exact ⟨_, y7_, y11_, y1_⟩
          ·rw [if_neg c15] at H
           have c15b0 : (t712 == 0) = false := beq_eq_false_iff_ne.mpr c15
           have c15b1 : (t712 != 0) = true := bne_iff_ne.mpr c15
           simp only [Option.some.injEq, Prod.mk.injEq] at H
           obtain ⟨rfl, rfl, rfl⟩ := H
           go_wp2_with (first | ((with_reducible refine gate_callee (f := 76) rfl ?_); refine goesL_ (some 34) rfl rfl Tryd.func76 (by kernel_rfl) rfl #[.slice A0 l0.length c0, .int .i64 x6_1, .int .i64 64] rfl y2_ ?_; (with_reducible refine (labels_text.calls k1 _ _ l0 x6_1 64 t710 t711 t712 _ ?side1 ?side2 A11.out).mono ?_); (case side1 => repeat (first | exact (Kd.C_below HR0.out HB.out) | (with_reducible refine Kd.C_alloc ?_ _) | (with_reducible refine Kd.C_drewN ?_ _) | (with_reducible refine Kd.C_drew ?_))); (case side2 => exact HC0.out); rintro e w' ⟨rfl, ⟨nd, rfl⟩⟩; refine ⟨_, rfl, ?_⟩; (try (rw [drewN_self wr]; generalize hq_ : World.drewN wr _ = wr; have n0_ : Aside0 (Kd.R k44 44 wr w.heap.size (fun _ => True) (.slice Ao9 x8_1.length co9) x8_1) := ⟨by rw [← hq_]; exact y14_⟩; have n1_ : Aside0 (Below w.heap.size w wr) := ⟨by rw [← hq_]; exact y1_⟩; clear HO_8 HB hq_; have HO_8 := n0_; have HB := n1_; clear n0_ n1_)); have p14 : 0 ≤ (x26_1 : Int) := of_decide_eq_true y3_; have q14 : (x26_1 : Int) < ((x8_1.length : Int) : Int) := of_decide_eq_true y3_; obtain ⟨go14, co14, eo14, gb14, gl14, cl14, HG14⟩ := Kd.R_form HO_8.out (by omega); (first | cases eo14 | (injection eo14 with ea_ en_ ec_; (first | subst ea_ | (injection ea_ with ea_; subst ea_)); subst ec_; clear en_)); have GB14 := Aside0.mk gb14; have GG14 := Aside0.mk HG14; clear gb14 gl14 HG14; obtain ⟨ce14, hcl14, hM14, hcc14, hfr14⟩ := Kd.R_elem HO_8.out z44 (x26_1 : Int) p14 q14; obtain rfl := k44_openM hM14; have hx14_0 : wr.cell? ⟨go14, (x26_1 : Int).toNat * 2, none⟩ = some (.string ((rd_T44 x8_1 x26_1).f0)) := hcc14 0 _ rfl; have hx14_1 : wr.cell? ⟨go14, (x26_1 : Int).toNat * 2 + 1, none⟩ = some (.string ((rd_T44 x8_1 x26_1).f1)) := hcc14 1 _ rfl; have hf14_0 : wr.frozen? ⟨go14, (x26_1 : Int).toNat * 2, none⟩ = false := hfr14 0; have hf14_1 : wr.frozen? ⟨go14, (x26_1 : Int).toNat * 2 + 1, none⟩ = false := hfr14 1; clear hcl14 hcc14 hfr14 hM14; replace p14 := eq_true p14; replace q14 := eq_true q14; have HX27 := Aside0.mk (show Kd.R k44 44 wr w.heap.size (fun _ => True) (.slice (some ⟨go14, 0, none⟩) x8_1.length co9) x8_1 from y14_); obtain ⟨ce27, hcl27, hM27, hcc27, hfr27⟩ := Kd.R_elem HX27.out z44 (x26_1 : Int) (of_decide_eq_true y3_) y20_; obtain rfl := k44_openM hM27; have HP27 := Kd.R_seg HX27.out (x26_1 : Int) (of_decide_eq_true y3_) y20_ (seg := [.string t710]) (j := 0) hcl27 hcc27 (show 1 ≤ 2 from by decide) (x' := (⟨t710, (rd_T44 x8_1 x26_1).f1⟩ : S44)) (k44_mkM _ _ _ (⟨t710, (rd_T44 x8_1 x26_1).f1⟩ : S44) ) (fun _ hk => hk); have hx27_0 := hcc27 0 _ rfl; (try simp only [show (k44).sz = 2 from rfl, Nat.mul_one, Nat.add_zero] at hx27_0); have hf27_0 := hfr27 0; (try simp only [show (k44).sz = 2 from rfl, Nat.mul_one, Nat.add_zero] at hf27_0); clear hcl27 hcc27 hfr27 hM27) | ((with_reducible refine gate_store (t := 9) (p := 39) rfl ?_); refine store_event (t := 9) (p := 39) (v := ?vo_w28) (w1 := (wr.setCell ⟨go14, (x26_1 : Int).toNat * 2, none⟩ (.string t710))) ?hg ?ho ?hn ?hr ?_; (case ho => rfl); (case hg => rfl); (case hn => rfl); (case hr => first | (go_simp; done) | (go_simp; rfl)); intro w28 hw; have hg : wr.grownBy w28 (some go14) := (by rw [hw]; exact HP27.2); have hp_ : Kd.R k44 44 w28 w.heap.size (fun _ => True) (.slice (some ⟨go14, 0, none⟩) x8_1.length co9) y713 := (by rw [hw, Ny713.out]; exact HP27.1); clear HP27; have n0_ := Aside0.mk (hp_); have n1_ := Aside0.mk ((by rw [hw]; exact below_set (HB.out) GB14.out : Below w.heap.size w w28)); clear HO_8; clear HB; have HO_8 := n0_; have HB := n1_; clear n0_ n1_; clear hg hw hp_))
           go_ret3
           exact ⟨_, y7_, y11_, y1_⟩
         ·rw [if_neg c13] at H
          exact absurd H (by simp)
        ·rw [if_neg c12] at H
         exact absurd H (by simp)
       ·rw [if_neg c10] at H
        have c10b0 : decide (x26_1 < (y706.length : Int)) = false := decide_eq_false c10
        try (have c10b0l_ := c10b0; rw [hl8_1] at c10b0l_)
        clear c10
        replace H := Option.bind_eq_some_iff.mp H
        obtain ⟨t709, A290, H⟩ := H
        replace H : (if t709 = 0 then (some (x8_1, x6_1, 0)) else (some (([] : List (S44)), 0, t709))) = some (r1, r2, r3) := H
        have A29 := Aside0.mk A290
        clear A290
        by_cases c30 : t709 = 0
        ·rw [if_pos c30] at H
         have c30b0 : (t709 == 0) = true := beq_iff_eq.mpr c30
         have c30b1 : (t709 != 0) = false := bne_eq_false_iff_eq.mpr c30
         clear c30
         simp only [Option.some.injEq, Prod.mk.injEq] at H
         obtain ⟨rfl, rfl, rfl⟩ := H
         go_wp2_with (first | ((with_reducible refine gate_callee (f := 36) rfl ?_); refine goesL_ (some 59) rfl rfl Tryd.func36 (by kernel_rfl) rfl #[.slice Ao9 x8_1.length co9] rfl y2_ ?_; (with_reducible refine (labels_Right.calls k1 _ _ x8_1 t709 _ ?side1 ?side2 ?side3 A29.out).mono ?_); (case side1 => exact ⟨Tab_below hT.out y1_⟩); (case side2 => repeat (first | exact (Kd.R_reads' HO_8.out).2.2 | (with_reducible refine Kd.C_alloc ?_ _) | (with_reducible refine Kd.C_drewN ?_ _) | (with_reducible refine Kd.C_drew ?_))); (case side3 => exact (Kd.R_reads' HO_8.out).2.1); rintro e w31 ⟨rfl, hb⟩; refine ⟨_, rfl, ?_⟩; have n0_ := Aside0.mk (Kd.R_below y14_ hb); have n1_ := Aside0.mk (below_step y1_ hb); clear HO_8; clear HB; have HO_8 := n0_; have HB := n1_; clear n0_ n1_; (try clear hb); (try clear hb2); (try clear hk); (try clear hi)))
         go_ret3
         exact ⟨_, y7_, y14_, y1_⟩
        ·rw [if_neg c30] at H
         have c30b0 : (t709 == 0) = false := beq_eq_false_iff_ne.mpr c30
         have c30b1 : (t709 != 0) = true := bne_iff_ne.mpr c30
         simp only [Option.some.injEq, Prod.mk.injEq] at H
         obtain ⟨rfl, rfl, rfl⟩ := H
         go_wp2_with (first | ((with_reducible refine gate_callee (f := 36) rfl ?_); refine goesL_ (some 59) rfl rfl Tryd.func36 (by kernel_rfl) rfl #[.slice Ao9 x8_1.length co9] rfl y2_ ?_; (with_reducible refine (labels_Right.calls k1 _ _ x8_1 t709 _ ?side1 ?side2 ?side3 A29.out).mono ?_); (case side1 => exact ⟨Tab_below hT.out y1_⟩); (case side2 => repeat (first | exact (Kd.R_reads' HO_8.out).2.2 | (with_reducible refine Kd.C_alloc ?_ _) | (with_reducible refine Kd.C_drewN ?_ _) | (with_reducible refine Kd.C_drew ?_))); (case side3 => exact (Kd.R_reads' HO_8.out).2.1); rintro e w32 ⟨rfl, hb⟩; refine ⟨_, rfl, ?_⟩; have n0_ := Aside0.mk (Kd.R_below y14_ hb); have n1_ := Aside0.mk (below_step y1_ hb); clear HO_8; clear HB; have HO_8 := n0_; have HB := n1_; clear n0_ n1_; (try clear hb); (try clear hb2); (try clear hk); (try clear hi)))
         go_ret3
         exact ⟨_, y7_, y11_, y1_⟩
    ·rw [if_neg c6] at H
     exact absurd H (by simp)
   ·rw [if_neg c5] at H
    exact absurd H (by simp)
 ·rw [if_neg c3] at H
  have c3b0 : (t705 == 0) = false := beq_eq_false_iff_ne.mpr c3
  have c3b1 : (t705 != 0) = true := bne_iff_ne.mpr c3
  simp only [Option.some.injEq, Prod.mk.injEq] at H
  obtain ⟨rfl, rfl, rfl⟩ := H
  go_enter Tryd.func51, Tryd.ntmps51
  go_wp2_with (first | ((with_reducible refine gate_callee (f := 75) rfl ?_); refine goesL_ (some 13) rfl rfl Tryd.func75 (by kernel_rfl) rfl #[.slice A0 l0.length c0] rfl y2_ ?_; (with_reducible refine (bits_Uvarint.calls k _ _ l0 t703 t704 t705 _ ?side1 ?side2 A2.out).mono ?_); (case side1 => repeat (first | exact HR0.out | (with_reducible refine Kd.C_alloc ?_ _) | (with_reducible refine Kd.C_drewN ?_ _) | (with_reducible refine Kd.C_drew ?_))); (case side2 => exact HC0.out); rintro e w' ⟨rfl, ⟨nd, rfl⟩⟩; refine ⟨_, rfl, ?_⟩))
  go_ret3
  exact ⟨_, y7_, y11_, y1_⟩
end Go.Proofs.YtdhmabofncbohaaDoor.PLC
