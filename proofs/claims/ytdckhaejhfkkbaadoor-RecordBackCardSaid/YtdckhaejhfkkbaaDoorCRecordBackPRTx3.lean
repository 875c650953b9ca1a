import Derived.Test.YtdckhaejhfkkbaaDoorCRecordBackPRTx0
import Derived.Test.YtdckhaejhfkkbaaDoorCRecordBackO2
import Derived.Test.YtdckhaejhfkkbaaDoorCRecordBackPRTx2
import Derived.Test.YtdckhaejhfkkbaaDoorCRecordBackY
namespace Go.Proofs.YtdckhaejhfkkbaaDoor.PRT
open Go.RowKit Go.Proofs.YtdckhaejhfkkbaaDoorW.PrintWords Go.Proofs.YtdckhaejhfkkbaaDoorW.PrintLast Go.Proofs.YtdckhaejhfkkbaaDoorW.PrintMore
attribute [local go_sem] max2_int min2_int max_two min_two max_three min_three max_four min_four
set_option linter.unusedVariables false
set_option linter.unusedSimpArgs false
mutual
def bits_Uvarint.l0 : Nat → List Int → Int → Int → Option (Int × Int × Int)
 | 0, _, _, _ => none
 | k + 1, x0, x5, x6 => if x6 < 10 then (if x6 ≥ (x0.length : Int) then (some (0, 0, 6)) else (if x6 = 9 then (if 0 ≤ x6 then (if x6 < (x0.length : Int) then (if (rd x0 x6) > 1 then (some (0, 0, 9)) else (bits_Uvarint.j1 k x0 x5 x6)) else (none)) else (none)) else (bits_Uvarint.j1 k x0 x5 x6))) else (some (0, 0, 9))
def bits_Uvarint.j1 : Nat → List Int → Int → Int → Option (Int × Int × Int)
 | 0, _, _, _ => none
 | k + 1, x0, x5, x6 => if 0 ≤ x6 then (if x6 < (x0.length : Int) then (if 0 ≤ (IntKind.u64.wrap (wrap64 (7 * x6))) then (if (rd x0 x6) < 128 then (if x6 > 0 then (if (rd x0 x6) = 0 then (some (0, 0, 8)) else (some (Go.bits .or .u64 x5 (shl .u64 (IntKind.u64.wrap (Go.bits .and .u8 (rd x0 x6) 127)) (IntKind.u64.wrap (wrap64 (7 * x6)))), wrap64 (x6 + 1), 0))) else (some (Go.bits .or .u64 x5 (shl .u64 (IntKind.u64.wrap (Go.bits .and .u8 (rd x0 x6) 127)) (IntKind.u64.wrap (wrap64 (7 * x6)))), wrap64 (x6 + 1), 0))) else (bits_Uvarint.l0 k x0 (Go.bits .or .u64 x5 (shl .u64 (IntKind.u64.wrap (Go.bits .and .u8 (rd x0 x6) 127)) (IntKind.u64.wrap (wrap64 (7 * x6))))) (wrap64 (x6 + 1)))) else (none)) else (none)) else (none)
end
def bits_Uvarint.f (k : Nat) (l0 : List Int) : Option (Int × Int × Int) := bits_Uvarint.l0 k l0 0 0
theorem bits_Uvarint.mono_l : ∀ k, (∀ y0 y1 y2, LeO (bits_Uvarint.l0 k y0 y1 y2) (bits_Uvarint.l0 (k + 1) y0 y1 y2)) ∧ (∀ y0 y1 y2, LeO (bits_Uvarint.j1 k y0 y1 y2) (bits_Uvarint.j1 (k + 1) y0 y1 y2))
 | 0 => ⟨fun _ _ _ r h => by simp [bits_Uvarint.l0] at h, fun _ _ _ r h => by simp [bits_Uvarint.j1] at h⟩
 | k + 1 => by
  obtain ⟨ih0, ih1⟩ := bits_Uvarint.mono_l k
  refine ⟨?_, ?_⟩
  ·intro y0 y1 y2
   unfold bits_Uvarint.l0
   repeat' first
   | (with_reducible exact ih0 _ _ _)
   | (with_reducible exact ih1 _ _ _)
   | (with_reducible exact LeO.refl _)
   | (with_reducible exact LeO.none _)
   | (with_reducible refine LeO.ite ?_ ?_)
   | (with_reducible refine LeO.bind ?_ (fun _ => ?_))
   | exact ih0 _ _ _
   | exact ih1 _ _ _
   | exact LeO.none _
   | refine LeO.ite ?_ ?_
   | refine LeO.bind ?_ (fun _ => ?_)
  ·intro y0 y1 y2
   unfold bits_Uvarint.j1
   repeat' first
   | (with_reducible exact ih0 _ _ _)
   | (with_reducible exact ih1 _ _ _)
   | (with_reducible exact LeO.refl _)
   | (with_reducible exact LeO.none _)
   | (with_reducible refine LeO.ite ?_ ?_)
   | (with_reducible refine LeO.bind ?_ (fun _ => ?_))
   | exact ih0 _ _ _
   | exact ih1 _ _ _
   | exact LeO.none _
   | refine LeO.ite ?_ ?_
   | refine LeO.bind ?_ (fun _ => ?_)
theorem bits_Uvarint.mono : ∀ a0 k, LeO (bits_Uvarint.f k a0) (bits_Uvarint.f (k + 1) a0) := by
 intro a0 k
 obtain ⟨ih0, ih1⟩ := bits_Uvarint.mono_l k
 unfold bits_Uvarint.f
 repeat' first
   | (with_reducible exact ih0 _ _ _)
   | (with_reducible exact ih1 _ _ _)
   | (with_reducible exact LeO.refl _)
   | (with_reducible exact LeO.none _)
   | (with_reducible refine LeO.ite ?_ ?_)
   | (with_reducible refine LeO.bind ?_ (fun _ => ?_))
   | exact ih0 _ _ _
   | exact ih1 _ _ _
   | exact LeO.none _
   | refine LeO.ite ?_ ?_
   | refine LeO.bind ?_ (fun _ => ?_)
set_option maxHeartbeats 8000000 in
set_option maxRecDepth 100000 in
theorem bits_Uvarint.calls (k : Nat) (A0 : Option Addr) (c0 : Nat) (l0 : List Int) (r1 : Int) (r2 : Int) (r3 : Int) (w : World) (hr0 : Kd.C (Kd.int .u8) w A0 l0.length l0) (hc0 : l0.length ≤ c0) (h : bits_Uvarint.f k l0 = some (r1, r2, r3)) :
  Calls Tryd.prog 38 #[.slice A0 l0.length c0] w fun e w' => e = .returned (.tuple #[.int .u64 r1, .int .i64 r2, .int .i64 r3]) ∧ Drawn0 w w' := by
 have HR0 := Aside0.mk hr0
 have HC0 := Aside0.mk hc0
 clear hr0 hc0
 have H : (bits_Uvarint.l0 k l0 0 0) = some (r1, r2, r3) := h
 clear h
 have H' := Aside0.mk H
 clear H
 go_enter Tryd.func38, Tryd.ntmps38
 go_wp2
 go_step3
 go_wp2
 go_step3
 go_wp2
 go_loopg [5, 6] k (fun kq v5 v6 w' => ∃ (x5_1 : Int) (x6_1 : Int), v5 = .int .u64 x5_1 ∧ v6 = .int .i64 x6_1 ∧ Aside0 (bits_Uvarint.l0 kq l0 x5_1 x6_1 = some (r1, r2, r3)) ∧ Aside0 (kq ≤ k) ∧ Drawn0 w w')
 case atStart => exact ⟨(0), (0), y15_, y15_, H', ⟨Nat.le_refl _⟩, y30_⟩
 case round =>
  clear H'
  obtain ⟨x5_1, x6_1, rfl, rfl, HA, HK1, ⟨m1, rfl⟩⟩ := hrel
  cases gk with
  | zero => exact absurd HA.out (by simp [bits_Uvarint.l0])
  | succ k1 =>
   have H := HA.out
   clear HA
   simp only [bits_Uvarint.l0] at H
   by_cases c2 : x6_1 < 10
   ·rw [if_pos c2] at H
    have c2b0 : decide (x6_1 < 10) = true := decide_eq_true c2
    clear c2
    have HC3 := Aside0.mk H
    clear H
    go_upto_block 2 with (fail)
    go_cut [] (fun wc => ∃ (kq : Nat), Aside0 (bits_Uvarint.j1 kq l0 x5_1 x6_1 = some (r1, r2, r3)) ∧ Aside0 (kq ≤ k1) ∧ Drawn0 w wc)
    case first =>
     have H := HC3.out
     clear HC3
     by_cases c4 : x6_1 ≥ (l0.length : Int)
     ·rw [if_pos c4] at H
      have c4b0 : decide ((l0.length : Int) ≤ x6_1) = true := decide_eq_true c4
      clear c4
      (first | rw [c4b0] | (simp only [i64_w, i32_w]; rw [c4b0]) | skip)
      simp only [Option.some.injEq, Prod.mk.injEq] at H
      obtain ⟨rfl, rfl, rfl⟩ := H
      go_wp2
      (try rw [Exit.noGoto_ret])
      go_ret3
      exact ⟨y42_, y30_⟩
     ·rw [if_neg c4] at H
      have c4b0 : decide ((l0.length : Int) ≤ x6_1) = false := decide_eq_false c4
      clear c4
      (first | rw [c4b0] | (simp only [i64_w, i32_w]; rw [c4b0]) | skip)
      by_cases c5 : x6_1 = 9
      ·rw [if_pos c5] at H
       have c5b0 : (x6_1 == 9) = true := beq_iff_eq.mpr c5
       have c5b1 : (x6_1 != 9) = false := bne_eq_false_iff_eq.mpr c5
       clear c5
       by_cases c6 : 0 ≤ x6_1
       ·rw [if_pos c6] at H
        have c6b0 : decide (0 ≤ x6_1) = true := decide_eq_true c6
        clear c6
        by_cases c7 : x6_1 < (l0.length : Int)
        ·rw [if_pos c7] at H
         have c7b0 : decide (x6_1 < (l0.length : Int)) = true := decide_eq_true c7
         clear c7
         by_cases c8 : (rd l0 x6_1) > 1
         ·rw [if_pos c8] at H
          have c8b0 : decide (1 < (rd l0 x6_1)) = true := decide_eq_true c8
          clear c8
          simp only [Option.some.injEq, Prod.mk.injEq] at H
          obtain ⟨rfl, rfl, rfl⟩ := H
          have p101 : 0 ≤ (x6_1 : Int) := of_decide_eq_true y7_
          have q101 : x6_1 < (l0.length : Int) := of_decide_eq_true y7_
          obtain ⟨ad101, e101, hx101_0⟩ := Kd.at_int HR0.out x6_1 p101 q101
          cases e101
          replace p101 := eq_true p101
          replace q101 := eq_true q101
          go_wp2
          (try rw [Exit.noGoto_ret])
          go_ret3
          exact ⟨y42_, y30_⟩
         ·rw [if_neg c8] at H
          have c8b0 : decide (1 < (rd l0 x6_1)) = false := decide_eq_false c8
          clear c8
          have H' := Aside0.mk H
          clear H
          have p101 : 0 ≤ (x6_1 : Int) := of_decide_eq_true y7_
          have q101 : x6_1 < (l0.length : Int) := of_decide_eq_true y7_
          obtain ⟨ad101, e101, hx101_0⟩ := Kd.at_int HR0.out x6_1 p101 q101
          cases e101
          replace p101 := eq_true p101
          replace q101 := eq_true q101
          go_wp2
          go_meet
          case rel => exact ⟨_, H', ⟨by have := HK1.out; first | omega | exact Nat.le_refl _⟩, y30_⟩
        ·rw [if_neg c7] at H
         exact absurd H (by simp)
       ·rw [if_neg c6] at H
        exact absurd H (by simp)
      ·rw [if_neg c5] at H
       have c5b0 : (x6_1 == 9) = false := beq_eq_false_iff_ne.mpr c5
       have c5b1 : (x6_1 != 9) = true := bne_iff_ne.mpr c5
       have H' := Aside0.mk H
       clear H
       go_wp2
       go_meet
       case rel => exact ⟨_, H', ⟨by have := HK1.out; first | omega | exact Nat.le_refl _⟩, y30_⟩
    case rest =>
     clear HC3
     try clear p1
     try clear q1
     try clear hx1
     try clear c2
     try clear c2b0
     try clear p2
     try clear c3
     try clear c4
     try clear c4b0
     try clear c5
     try clear c5b0
     try clear c5b1
     try clear c6
     try clear c6b0
     try clear c7
     try clear c7b0
     try clear c8
     try clear c8b0
     try clear hx101_0
     try clear p101
     try clear q101
     obtain ⟨kq, HA, HJ2, ⟨mc2, rfl⟩⟩ := hcut
     cases kq with
     | zero => exact absurd HA.out (by simp [bits_Uvarint.j1])
     | succ kj2 =>
      have H := HA.out
      clear HA
      simp only [bits_Uvarint.j1] at H
      by_cases c9 : 0 ≤ x6_1
      ·rw [if_pos c9] at H
       have c9b0 : decide (0 ≤ x6_1) = true := decide_eq_true c9
       clear c9
       by_cases c10 : x6_1 < (l0.length : Int)
       ·rw [if_pos c10] at H
        have c10b0 : decide (x6_1 < (l0.length : Int)) = true := decide_eq_true c10
        clear c10
        obtain ⟨ji11, hji11⟩ : ∃ j_ : Int, (IntKind.u64.wrap (wrap64 (7 * x6_1))) = j_ := ⟨_, rfl⟩
        replace H : (if 0 ≤ (ji11) then (if (rd l0 x6_1) < 128 then (if x6_1 > 0 then (if (rd l0 x6_1) = 0 then (some (0, 0, 8)) else (some (Go.bits .or .u64 x5_1 (shl .u64 (IntKind.u64.wrap (Go.bits .and .u8 (rd l0 x6_1) 127)) (ji11)), wrap64 (x6_1 + 1), 0))) else (some (Go.bits .or .u64 x5_1 (shl .u64 (IntKind.u64.wrap (Go.bits .and .u8 (rd l0 x6_1) 127)) (ji11)), wrap64 (x6_1 + 1), 0))) else (bits_Uvarint.l0 kj2 l0 (Go.bits .or .u64 x5_1 (shl .u64 (IntKind.u64.wrap (Go.bits .and .u8 (rd l0 x6_1) 127)) (ji11))) (wrap64 (x6_1 + 1)))) else (none)) = some (r1, r2, r3) := by first | (rw [hji11] at H; exact H) | (simp only [hji11] at H ⊢; exact H)
        by_cases c12 : 0 ≤ (ji11)
        ·rw [if_pos c12] at H
         have c12b0 := eq_true c12
         have c12b1 : decide (0 ≤ (ji11)) = true := decide_eq_true c12
         clear c12
         obtain ⟨ji13, hji13⟩ : ∃ j_ : Int, (shl .u64 (IntKind.u64.wrap (Go.bits .and .u8 (rd l0 x6_1) 127)) (ji11)) = j_ := ⟨_, rfl⟩
         replace H : (if (rd l0 x6_1) < 128 then (if x6_1 > 0 then (if (rd l0 x6_1) = 0 then (some (0, 0, 8)) else (some (Go.bits .or .u64 x5_1 (ji13), wrap64 (x6_1 + 1), 0))) else (some (Go.bits .or .u64 x5_1 (ji13), wrap64 (x6_1 + 1), 0))) else (bits_Uvarint.l0 kj2 l0 (Go.bits .or .u64 x5_1 (ji13)) (wrap64 (x6_1 + 1)))) = some (r1, r2, r3) := by first | (rw [hji13] at H; exact H) | (simp only [hji13] at H ⊢; exact H)
         have hji13_ : (IntKind.u64.wrap ((IntKind.u64.wrap (Go.bits .and .u8 (rd l0 x6_1) 127)) * 2 ^ min (ji11).toNat 64)) = ji13 := hji13
         have hji13z : (ji11) ≤ 64 → (IntKind.u64.wrap ((IntKind.u64.wrap (Go.bits .and .u8 (rd l0 x6_1) 127)) * 2 ^ (ji11).toNat)) = ji13 := shl_small hji13
         by_cases c14 : (rd l0 x6_1) < 128
         ·rw [if_pos c14] at H
          have c14b0 : decide ((rd l0 x6_1) < 128) = true := decide_eq_true c14
          clear c14
          by_cases c15 : x6_1 > 0
          ·rw [if_pos c15] at H
           have c15b0 : decide (0 < x6_1) = true := decide_eq_true c15
           clear c15
           by_cases c16 : (rd l0 x6_1) = 0
           ·rw [if_pos c16] at H
            have c16b0 : ((rd l0 x6_1) == 0) = true := beq_iff_eq.mpr c16
            have c16b1 : ((rd l0 x6_1) != 0) = false := bne_eq_false_iff_eq.mpr c16
            clear c16
            simp only [Option.some.injEq, Prod.mk.injEq] at H
            obtain ⟨rfl, rfl, rfl⟩ := H
            have p102 : 0 ≤ (x6_1 : Int) := of_decide_eq_true y7_
            have q102 : x6_1 < (l0.length : Int) := of_decide_eq_true y7_
            obtain ⟨ad102, e102, hx102_0⟩ := Kd.at_int HR0.out x6_1 p102 q102
            cases e102
            replace p102 := eq_true p102
            replace q102 := eq_true q102
            have p103 : 0 ≤ (x6_1 : Int) := of_decide_eq_true y7_
            have q103 : x6_1 < (l0.length : Int) := of_decide_eq_true y7_
            obtain ⟨ad103, e103, hx103_0⟩ := Kd.at_int HR0.out x6_1 p103 q103
            obtain rfl : ad102 = ad103 := (by injection e103)
            replace p103 := eq_true p103
            replace q103 := eq_true q103
            have p104 : 0 ≤ (x6_1 : Int) := of_decide_eq_true y7_
            have q104 : x6_1 < (l0.length : Int) := of_decide_eq_true y7_
            obtain ⟨ad104, e104, hx104_0⟩ := Kd.at_int HR0.out x6_1 p104 q104
            obtain rfl : ad102 = ad104 := (by injection e104)
            replace p104 := eq_true p104
            replace q104 := eq_true q104
            go_wp2
            (try rw [Exit.noGoto_ret])
            go_ret3
            exact ⟨y93_, y30_⟩
           ·rw [if_neg c16] at H
            have c16b0 : ((rd l0 x6_1) == 0) = false := beq_eq_false_iff_ne.mpr c16
            have c16b1 : ((rd l0 x6_1) != 0) = true := bne_iff_ne.mpr c16
            simp only [Option.some.injEq, Prod.mk.injEq] at H
            obtain ⟨rfl, rfl, rfl⟩ := H
            have p102 : 0 ≤ (x6_1 : Int) := of_decide_eq_true y7_
            have q102 : x6_1 < (l0.length : Int) := of_decide_eq_true y7_
            obtain ⟨ad102, e102, hx102_0⟩ := Kd.at_int HR0.out x6_1 p102 q102
            cases e102
            replace p102 := eq_true p102
            replace q102 := eq_true q102
            have p103 : 0 ≤ (x6_1 : Int) := of_decide_eq_true y7_
            have q103 : x6_1 < (l0.length : Int) := of_decide_eq_true y7_
            obtain ⟨ad103, e103, hx103_0⟩ := Kd.at_int HR0.out x6_1 p103 q103
            obtain rfl : ad102 = ad103 := (by injection e103)
            replace p103 := eq_true p103
            replace q103 := eq_true q103
            have p104 : 0 ≤ (x6_1 : Int) := of_decide_eq_true y7_
            have q104 : x6_1 < (l0.length : Int) := of_decide_eq_true y7_
            obtain ⟨ad104, e104, hx104_0⟩ := Kd.at_int HR0.out x6_1 p104 q104
            obtain rfl : ad102 = ad104 := (by injection e104)
            replace p104 := eq_true p104
            replace q104 := eq_true q104
            go_wp2
            (try rw [Exit.noGoto_ret])
            go_ret3
            exact ⟨y93_, y30_⟩
          ·rw [if_neg c15] at H
           have c15b0 : decide (0 < x6_1) = false := decide_eq_false c15
           clear c15
           simp only [Option.some.injEq, Prod.mk.injEq] at H
           obtain ⟨rfl, rfl, rfl⟩ := H
           have p102 : 0 ≤ (x6_1 : Int) := of_decide_eq_true y7_
           have q102 : x6_1 < (l0.length : Int) := of_decide_eq_true y7_
           obtain ⟨ad102, e102, hx102_0⟩ := Kd.at_int HR0.out x6_1 p102 q102
           cases e102
           replace p102 := eq_true p102
           replace q102 := eq_true q102
           have p103 : 0 ≤ (x6_1 : Int) := of_decide_eq_true y7_
           have q103 : x6_1 < (l0.length : Int) := of_decide_eq_true y7_
           obtain ⟨ad103, e103, hx103_0⟩ := Kd.at_int HR0.out x6_1 p103 q103
           obtain rfl : ad102 = ad103 := (by injection e103)
           replace p103 := eq_true p103
           replace q103 := eq_true q103
           go_wp2
           (try rw [Exit.noGoto_ret])
           go_ret3
           exact ⟨y93_, y30_⟩
         ·rw [if_neg c14] at H
          have c14b0 : decide ((rd l0 x6_1) < 128) = false := decide_eq_false c14
          clear c14
          have H' := Aside0.mk H
          clear H
          have p102 : 0 ≤ (x6_1 : Int) := of_decide_eq_true y7_
          have q102 : x6_1 < (l0.length : Int) := of_decide_eq_true y7_
          obtain ⟨ad102, e102, hx102_0⟩ := Kd.at_int HR0.out x6_1 p102 q102
          cases e102
          replace p102 := eq_true p102
          replace q102 := eq_true q102
          have p103 : 0 ≤ (x6_1 : Int) := of_decide_eq_true y7_
          have q103 : x6_1 < (l0.length : Int) := of_decide_eq_true y7_
          obtain ⟨ad103, e103, hx103_0⟩ := Kd.at_int HR0.out x6_1 p103 q103
          obtain rfl : ad102 = ad103 := (by injection e103)
          replace p103 := eq_true p103
          replace q103 := eq_true q103
          go_wp2
          go_roundg kj2
          case measure => have := HK1.out; have := HJ2.out; omega
          case rel => exact ⟨(Go.bits .or .u64 x5_1 (ji13)), (wrap64 (x6_1 + 1)), (by first | rfl | (simp; done) | ((simp only [← hji13] <;> (first | rfl | simp)); done) | (congr 1; first | assumption | (symm; assumption)) | (simp [*]; done)), y15_, H', ⟨by have := HK1.out; have := HJ2.out; omega⟩, y30_⟩
        ·rw [if_neg c12] at H
         exact absurd H (by simp)
       ·rw [if_neg c10] at H
        exact absurd H (by simp)
      ·rw [if_neg c9] at H
       exact absurd H (by simp)
   ·rw [if_neg c2] at H
    have c2b0 : decide (x6_1 < 10) = false := decide_eq_false c2
    clear c2
    simp only [Option.some.injEq, Prod.mk.injEq] at H
    obtain ⟨rfl, rfl, rfl⟩ := H
    go_wp2
    (try rw [Exit.noGoto_ret])
    go_ret3
    exact ⟨y42_, y30_⟩
def labels_Named.f (a0 : ByteArray) : Option (Bool) := if a0.size ≤ 9223372036854775807 then some (namedB a0.data.toList) else none
theorem labels_Named.calls (a0 : ByteArray) (r : Bool) (w : World) (h : labels_Named.f a0 = some r) :
  Calls Tryd.prog 60 #[.string a0] w fun e w' => e = .returned (.bool r) ∧ Below w.heap.size w w' := by
 unfold labels_Named.f at h
 split at h
 ·rename_i hs
  obtain rfl := Option.some.inj h
  exact named_calls a0 w hs
 ·cases h
def utf8_ValidString.f (a0 : ByteArray) : Option (Bool) := if a0.size ≤ 9223372036854775807 then some (Lib.validD a0.data.toList) else none
theorem utf8_ValidString.calls (a0 : ByteArray) (r : Bool) (w : World) (hT : Aside0 (Tab w)) (h : utf8_ValidString.f a0 = some r) :
  Calls Tryd.prog 65 #[.string a0] w fun e w' => e = .returned (.bool r) ∧ Below w.heap.size w w' := by
 unfold utf8_ValidString.f at h
 split at h
 ·rename_i hs
  obtain rfl := Option.some.inj h
  exact valid_calls a0 w hs hT.out
 ·cases h
def labels_Valued.f (a0 : ByteArray) : Option (Bool) := if (a0.size : Int) ≤ 128 then ((utf8_ValidString.f a0).bind fun t105 => (some t105)) else (some false)
set_option maxHeartbeats 8000000 in
set_option maxRecDepth 100000 in
theorem labels_Valued.calls (a0 : ByteArray) (r : Bool) (w : World) (hT : Aside0 (Tab w)) (h : labels_Valued.f a0 = some r) :
  Calls Tryd.prog 61 #[.string a0] w fun e w' => e = .returned (.bool r) ∧ Below w.heap.size w w' := by
 have HB := Aside0.mk (Below.refl w.heap.size w)
 have H : (if (a0.size : Int) ≤ 128 then ((utf8_ValidString.f a0).bind fun t105 => (some t105)) else (some false)) = some r := h
 clear h
 by_cases c2 : (a0.size : Int) ≤ 128
 ·rw [if_pos c2] at H
  have c2b0 : decide ((a0.size : Int) ≤ 128) = true := decide_eq_true c2
  have c2b1 : decide (a0.size ≤ 128) = true := decide_eq_true (by omega)
  clear c2
  replace H := Option.bind_eq_some_iff.mp H
  obtain ⟨t105, A30, H⟩ := H
  replace H : (some t105) = some r := H
  have A3 := Aside0.mk A30
  clear A30
  obtain rfl := Option.some.inj H
  go_enter Tryd.func61, Tryd.ntmps61
  go_wp2_with (first | (go_at_call 65; (with_reducible refine (utf8_ValidString.calls a0 t105 _ ?side1 A3.out).mono ?_); (case side1 => exact ⟨Tab_below hT.out y1_⟩); rintro e w4 ⟨rfl, hb⟩; have n0_ := Aside0.mk (below_step y1_ hb); clear HB; have HB := n0_; clear n0_; (try clear hb); (try clear hb2); (try clear hk); (try clear hi)))
  go_ret
  exact ⟨y8_, y1_⟩
 ·rw [if_neg c2] at H
  have c2b0 : decide ((a0.size : Int) ≤ 128) = false := decide_eq_false c2
  have c2b1 : decide (a0.size ≤ 128) = false := decide_eq_false (by omega)
  clear c2
  obtain rfl := Option.some.inj H
  go_enter Tryd.func61, Tryd.ntmps61
  go_wp2
  go_ret
  exact ⟨y8_, y1_⟩
def labels_wrong.f (a0_0 : ByteArray) (a0_1 : ByteArray) (a1 : Bool) : Option (Int) := (labels_Named.f a0_0).bind fun t107 => (if t107 = true then ((labels_Valued.f a0_1).bind fun t108 => (if t108 = true then (if a1 = true then (some 0) else (if a0_1.toList = ([] : List UInt8) then (some 51) else (some 0))) else (some 51))) else (some 50))
set_option maxHeartbeats 8000000 in
set_option maxRecDepth 100000 in
theorem labels_wrong.calls (a0_0 : ByteArray) (a0_1 : ByteArray) (a1 : Bool) (r : Int) (w : World) (hT : Aside0 (Tab w)) (h : labels_wrong.f a0_0 a0_1 a1 = some r) :
  Calls Tryd.prog 51 #[.agg #[.string a0_0, .string a0_1], .bool a1] w fun e w' => e = .returned (.int .i64 r) ∧ Below w.heap.size w w' := by
 have hu52 := Tryd.underlying52
 have HB := Aside0.mk (Below.refl w.heap.size w)
 have H : ((labels_Named.f a0_0).bind fun t107 => (if t107 = true then ((labels_Valued.f a0_1).bind fun t108 => (if t108 = true then (if a1 = true then (some 0) else (if a0_1.toList = ([] : List UInt8) then (some 51) else (some 0))) else (some 51))) else (some 50))) = some r := h
 clear h
 replace H := Option.bind_eq_some_iff.mp H
 obtain ⟨t107, A30, H⟩ := H
 replace H : (if t107 = true then ((labels_Valued.f a0_1).bind fun t108 => (if t108 = true then (if a1 = true then (some 0) else (if a0_1.toList = ([] : List UInt8) then (some 51) else (some 0))) else (some 51))) else (some 50)) = some r := H
 have A3 := Aside0.mk A30
 clear A30
 by_cases c4 : t107 = true
 ·subst c4
  have H1 : ((labels_Valued.f a0_1).bind fun t108 => (if t108 = true then (if a1 = true then (some 0) else (if a0_1.toList = ([] : List UInt8) then (some 51) else (some 0))) else (some 51))) = some r := by rw [if_pos rfl] at H; exact H
  clear H
  have H := H1
  clear H1
  replace H := Option.bind_eq_some_iff.mp H
  obtain ⟨t108, A50, H⟩ := H
  replace H : (if t108 = true then (if a1 = true then (some 0) else (if a0_1.toList = ([] : List UInt8) then (some 51) else (some 0))) else (some 51)) = some r := H
  have A5 := Aside0.mk A50
  clear A50
  by_cases c6 : t108 = true
  ·subst c6
   have H1 : (if a1 = true then (some 0) else (if a0_1.toList = ([] : List UInt8) then (some 51) else (some 0))) = some r := by rw [if_pos rfl] at H; exact H
   clear H
   have H := H1
   clear H1
   by_cases c7 : a1 = true
   ·subst c7
    have H1 : (some 0) = some r := by rw [if_pos rfl] at H; exact H
    clear H
    have H := H1
    clear H1
    obtain rfl := Option.some.inj H
    go_enter Tryd.func51, Tryd.ntmps51
    go_wp2_with (first | ((with_reducible refine gate_dst (N := 2) rfl ?_); refine box_event ?hg (N := 2) ?hd (cs := #[.string a0_0, .string a0_1]) (t := 52) ?hr ?_; (case hd => rfl); (case hg => rfl); (case hr => first | (go_simp; done) | (go_simp; rfl)); intro gb106 hg w8 hbox hb; have n0_ := Aside0.mk (below_step y1_ hb); have n1_ := Aside0.mk (hbox); have n2_ := Aside0.mk ((y29_ : w.heap.size ≤ gb106)); have n3_ := Aside0.mk ((y29_ : w.heap.size ≤ gb106)); clear HB; have HB := n0_; have BK106 := n1_; have GW106 := n2_; have GE106 := n3_; clear n0_ n1_ n2_ n3_; clear hb hbox hg; have hcz9_0 : w8.cell? ⟨gb106, 0, none⟩ = some (.string a0_0) := (blk_cell BK106.out 0).trans rfl; have hcz9_1 : w8.cell? ⟨gb106, 1, none⟩ = some (.string a0_1) := (blk_cell BK106.out 1).trans rfl; have hfz9_0 := blk_frozen BK106.out 0; have hfz9_1 := blk_frozen BK106.out 1) | ((with_reducible refine gate_callee (f := 60) rfl ?_); refine goesL_ (some 7) rfl rfl Tryd.func60 (by kernel_rfl) rfl #[.string a0_0] rfl y3_ ?_; (with_reducible refine (labels_Named.calls a0_0 true _ A3.out).mono ?_); rintro e w10 ⟨rfl, hb⟩; refine ⟨_, rfl, ?_⟩; have n0_ := Aside0.mk (blk_below (g := gb106) (o := .cells #[.string a0_0, .string a0_1] 52 (0, 0)) y51_ hb); have n1_ := Aside0.mk (below_step y22_ hb); clear BK106; clear HB; have BK106 := n0_; have HB := n1_; clear n0_ n1_; (try clear hb); (try clear hb2); (try clear hk); (try clear hi); have hcz11_0 : w10.cell? ⟨gb106, 0, none⟩ = some (.string a0_0) := (blk_cell BK106.out 0).trans rfl; have hcz11_1 : w10.cell? ⟨gb106, 1, none⟩ = some (.string a0_1) := (blk_cell BK106.out 1).trans rfl; have hfz11_0 := blk_frozen BK106.out 0; have hfz11_1 := blk_frozen BK106.out 1) | ((with_reducible refine gate_callee (f := 61) rfl ?_); refine goesL_ (some 11) rfl rfl Tryd.func61 (by kernel_rfl) rfl #[.string a0_1] rfl y3_ ?_; (with_reducible refine (labels_Valued.calls a0_1 true _ ?side1 A5.out).mono ?_); (case side1 => exact ⟨Tab_below hT.out y22_⟩); rintro e w12 ⟨rfl, hb⟩; refine ⟨_, rfl, ?_⟩; have n0_ := Aside0.mk (blk_below (g := gb106) (o := .cells #[.string a0_0, .string a0_1] 52 (0, 0)) y51_ hb); have n1_ := Aside0.mk (below_step y22_ hb); clear BK106; clear HB; have BK106 := n0_; have HB := n1_; clear n0_ n1_; (try clear hb); (try clear hb2); (try clear hk); (try clear hi)))
    go_ret
    exact ⟨y8_, y22_⟩
   ·replace c7 := Bool.eq_false_iff.mpr c7
    subst c7
    have H1 : (if a0_1.toList = ([] : List UInt8) then (some 51) else (some 0)) = some r := by rw [if_neg (show ¬ (false = true) by decide)] at H; exact H
    clear H
    have H := H1
    clear H1
    by_cases c13 : a0_1.toList = ([] : List UInt8)
    ·rw [if_pos c13] at H
     have c13b0 : (a0_1.toList == ([] : List UInt8)) = true := beq_iff_eq.mpr c13
     have c13b1 : (a0_1.toList != ([] : List UInt8)) = false := bne_eq_false_iff_eq.mpr c13
     clear c13
     obtain rfl := Option.some.inj H
     go_enter Tryd.func51, Tryd.ntmps51
     go_wp2_with (first | ((with_reducible refine gate_dst (N := 2) rfl ?_); refine box_event ?hg (N := 2) ?hd (cs := #[.string a0_0, .string a0_1]) (t := 52) ?hr ?_; (case hd => rfl); (case hg => rfl); (case hr => first | (go_simp; done) | (go_simp; rfl)); intro gb106 hg w14 hbox hb; have n0_ := Aside0.mk (below_step y1_ hb); have n1_ := Aside0.mk (hbox); have n2_ := Aside0.mk ((y29_ : w.heap.size ≤ gb106)); have n3_ := Aside0.mk ((y29_ : w.heap.size ≤ gb106)); clear HB; have HB := n0_; have BK106 := n1_; have GW106 := n2_; have GE106 := n3_; clear n0_ n1_ n2_ n3_; clear hb hbox hg; have hcz15_0 : w14.cell? ⟨gb106, 0, none⟩ = some (.string a0_0) := (blk_cell BK106.out 0).trans rfl; have hcz15_1 : w14.cell? ⟨gb106, 1, none⟩ = some (.string a0_1) := (blk_cell BK106.out 1).trans rfl; have hfz15_0 := blk_frozen BK106.out 0; have hfz15_1 := blk_frozen BK106.out 1) | ((with_reducible refine gate_callee (f := 60) rfl ?_); refine goesL_ (some 7) rfl rfl Tryd.func60 (by kernel_rfl) rfl #[.string a0_0] rfl y3_ ?_; (with_reducible refine (labels_Named.calls a0_0 true _ A3.out).mono ?_); rintro e w16 ⟨rfl, hb⟩; refine ⟨_, rfl, ?_⟩; have n0_ := Aside0.mk (blk_below (g := gb106) (o := .cells #[.string a0_0, .string a0_1] 52 (0, 0)) y51_ hb); have n1_ := Aside0.mk (below_step y22_ hb); clear BK106; clear HB; have BK106 := n0_; have HB := n1_; clear n0_ n1_; (try clear hb); (try clear hb2); (try clear hk); (try clear hi); have hcz17_0 : w16.cell? ⟨gb106, 0, none⟩ = some (.string a0_0) := (blk_cell BK106.out 0).trans rfl; have hcz17_1 : w16.cell? ⟨gb106, 1, none⟩ = some (.string a0_1) := (blk_cell BK106.out 1).trans rfl; have hfz17_0 := blk_frozen BK106.out 0; have hfz17_1 := blk_frozen BK106.out 1) | ((with_reducible refine gate_callee (f := 61) rfl ?_); refine goesL_ (some 11) rfl rfl Tryd.func61 (by kernel_rfl) rfl #[.string a0_1] rfl y3_ ?_; (with_reducible refine (labels_Valued.calls a0_1 true _ ?side1 A5.out).mono ?_); (case side1 => exact ⟨Tab_below hT.out y22_⟩); rintro e w18 ⟨rfl, hb⟩; refine ⟨_, rfl, ?_⟩; have n0_ := Aside0.mk (blk_below (g := gb106) (o := .cells #[.string a0_0, .string a0_1] 52 (0, 0)) y51_ hb); have n1_ := Aside0.mk (below_step y22_ hb); clear BK106; clear HB; have BK106 := n0_; have HB := n1_; clear n0_ n1_; (try clear hb); (try clear hb2); (try clear hk); (try clear hi); have hcz19_0 : w18.cell? ⟨gb106, 0, none⟩ = some (.string a0_0) := (blk_cell BK106.out 0).trans rfl; have hcz19_1 : w18.cell? ⟨gb106, 1, none⟩ = some (.string a0_1) := (blk_cell BK106.out 1).trans rfl; have hfz19_0 := blk_frozen BK106.out 0; have hfz19_1 := blk_frozen BK106.out 1))
     go_ret
     exact ⟨y8_, y22_⟩
    ·rw [if_neg c13] at H
     have c13b0 : (a0_1.toList == ([] : List UInt8)) = false := beq_eq_false_iff_ne.mpr c13
     have c13b1 : (a0_1.toList != ([] : List UInt8)) = true := bne_iff_ne.mpr c13
     obtain rfl := Option.some.inj H
     go_enter Tryd.func51, Tryd.ntmps51
     go_wp2_with (first | ((with_reducible refine gate_dst (N := 2) rfl ?_); refine box_event ?hg (N := 2) ?hd (cs := #[.string a0_0, .string a0_1]) (t := 52) ?hr ?_; (case hd => rfl); (case hg => rfl); (case hr => first | (go_simp; done) | (go_simp; rfl)); intro gb106 hg w20 hbox hb; have n0_ := Aside0.mk (below_step y1_ hb); have n1_ := Aside0.mk (hbox); have n2_ := Aside0.mk ((y29_ : w.heap.size ≤ gb106)); have n3_ := Aside0.mk ((y29_ : w.heap.size ≤ gb106)); clear HB; have HB := n0_; have BK106 := n1_; have GW106 := n2_; have GE106 := n3_; clear n0_ n1_ n2_ n3_; clear hb hbox hg; have hcz21_0 : w20.cell? ⟨gb106, 0, none⟩ = some (.string a0_0) := (blk_cell BK106.out 0).trans rfl; have hcz21_1 : w20.cell? ⟨gb106, 1, none⟩ = some (.string a0_1) := (blk_cell BK106.out 1).trans rfl; have hfz21_0 := blk_frozen BK106.out 0; have hfz21_1 := blk_frozen BK106.out 1) | ((with_reducible refine gate_callee (f := 60) rfl ?_); refine goesL_ (some 7) rfl rfl Tryd.func60 (by kernel_rfl) rfl #[.string a0_0] rfl y3_ ?_; (with_reducible refine (labels_Named.calls a0_0 true _ A3.out).mono ?_); rintro e w22 ⟨rfl, hb⟩; refine ⟨_, rfl, ?_⟩; have n0_ := Aside0.mk (blk_below (g := gb106) (o := .cells #[.string a0_0, .string a0_1] 52 (0, 0)) y51_ hb); have n1_ := Aside0.mk (below_step y22_ hb); clear BK106; clear HB; have BK106 := n0_; have HB := n1_; clear n0_ n1_; (try clear hb); (try clear hb2); (try clear hk); (try clear hi); have hcz23_0 : w22.cell? ⟨gb106, 0, none⟩ = some (.string a0_0) := (blk_cell BK106.out 0).trans rfl; have hcz23_1 : w22.cell? ⟨gb106, 1, none⟩ = some (.string a0_1) := (blk_cell BK106.out 1).trans rfl; have hfz23_0 := blk_frozen BK106.out 0; have hfz23_1 := blk_frozen BK106.out 1) | ((with_reducible refine gate_callee (f := 61) rfl ?_); refine goesL_ (some 11) rfl rfl Tryd.func61 (by kernel_rfl) rfl #[.string a0_1] rfl y3_ ?_; (with_reducible refine (labels_Valued.calls a0_1 true _ ?side1 A5.out).mono ?_); (case side1 => exact ⟨Tab_below hT.out y22_⟩); rintro e w24 ⟨rfl, hb⟩; refine ⟨_, rfl, ?_⟩; have n0_ := Aside0.mk (blk_below (g := gb106) (o := .cells #[.string a0_0, .string a0_1] 52 (0, 0)) y51_ hb); have n1_ := Aside0.mk (below_step y22_ hb); clear BK106; clear HB; have BK106 := n0_; have HB := n1_; clear n0_ n1_; (try clear hb); (try clear hb2); (try clear hk); (try clear hi); have hcz25_0 : w24.cell? ⟨gb106, 0, none⟩ = some (.string a0_0) := (blk_cell BK106.out 0).trans rfl; have hcz25_1 : w24.cell? ⟨gb106, 1, none⟩ = some (.string a0_1) := (blk_cell BK106.out 1).trans rfl; have hfz25_0 := blk_frozen BK106.out 0; have hfz25_1 := blk_frozen BK106.out 1))
     go_ret
     exact ⟨y8_, y22_⟩
  ·replace c6 := Bool.eq_false_iff.mpr c6
   subst c6
   have H1 : (some 51) = some r := by rw [if_neg (show ¬ (false = true) by decide)] at H; exact H
   clear H
   have H := H1
   clear H1
   obtain rfl := Option.some.inj H
   go_enter Tryd.func51, Tryd.ntmps51
   go_wp2_with (first | ((with_reducible refine gate_dst (N := 2) rfl ?_); refine box_event ?hg (N := 2) ?hd (cs := #[.string a0_0, .string a0_1]) (t := 52) ?hr ?_; (case hd => rfl); (case hg => rfl); (case hr => first | (go_simp; done) | (go_simp; rfl)); intro gb106 hg w26 hbox hb; have n0_ := Aside0.mk (below_step y1_ hb); have n1_ := Aside0.mk (hbox); have n2_ := Aside0.mk ((y29_ : w.heap.size ≤ gb106)); have n3_ := Aside0.mk ((y29_ : w.heap.size ≤ gb106)); clear HB; have HB := n0_; have BK106 := n1_; have GW106 := n2_; have GE106 := n3_; clear n0_ n1_ n2_ n3_; clear hb hbox hg; have hcz27_0 : w26.cell? ⟨gb106, 0, none⟩ = some (.string a0_0) := (blk_cell BK106.out 0).trans rfl; have hcz27_1 : w26.cell? ⟨gb106, 1, none⟩ = some (.string a0_1) := (blk_cell BK106.out 1).trans rfl; have hfz27_0 := blk_frozen BK106.out 0; have hfz27_1 := blk_frozen BK106.out 1) | ((with_reducible refine gate_callee (f := 60) rfl ?_); refine goesL_ (some 7) rfl rfl Tryd.func60 (by kernel_rfl) rfl #[.string a0_0] rfl y3_ ?_; (with_reducible refine (labels_Named.calls a0_0 true _ A3.out).mono ?_); rintro e w28 ⟨rfl, hb⟩; refine ⟨_, rfl, ?_⟩; have n0_ := Aside0.mk (blk_below (g := gb106) (o := .cells #[.string a0_0, .string a0_1] 52 (0, 0)) y51_ hb); have n1_ := Aside0.mk (below_step y22_ hb); clear BK106; clear HB; have BK106 := n0_; have HB := n1_; clear n0_ n1_; (try clear hb); (try clear hb2); (try clear hk); (try clear hi); have hcz29_0 : w28.cell? ⟨gb106, 0, none⟩ = some (.string a0_0) := (blk_cell BK106.out 0).trans rfl; have hcz29_1 : w28.cell? ⟨gb106, 1, none⟩ = some (.string a0_1) := (blk_cell BK106.out 1).trans rfl; have hfz29_0 := blk_frozen BK106.out 0; have hfz29_1 := blk_frozen BK106.out 1) | ((with_reducible refine gate_callee (f := 61) rfl ?_); refine goesL_ (some 11) rfl rfl Tryd.func61 (by kernel_rfl) rfl #[.string a0_1] rfl y3_ ?_; (with_reducible refine (labels_Valued.calls a0_1 false _ ?side1 A5.out).mono ?_); (case side1 => exact ⟨Tab_below hT.out y22_⟩); rintro e w30 ⟨rfl, hb⟩; refine ⟨_, rfl, ?_⟩; have n0_ := Aside0.mk (blk_below (g := gb106) (o := .cells #[.string a0_0, .string a0_1] 52 (0, 0)) y51_ hb); have n1_ := Aside0.mk (below_step y22_ hb); clear BK106; clear HB; have BK106 := n0_; have HB := n1_; clear n0_ n1_; (try clear hb); (try clear hb2); (try clear hk); (try clear hi)))
   go_ret
   exact ⟨y8_, y22_⟩
 ·replace c4 := Bool.eq_false_iff.mpr c4
  subst c4
  have H1 : (some 50) = some r := by rw [if_neg (show ¬ (false = true) by decide)] at H; exact H
  clear H
  have H := H1
  clear H1
  obtain rfl := Option.some.inj H
  go_enter Tryd.func51, Tryd.ntmps51
  go_wp2_with (first | ((with_reducible refine gate_dst (N := 2) rfl ?_); refine box_event ?hg (N := 2) ?hd (cs := #[.string a0_0, .string a0_1]) (t := 52) ?hr ?_; (case hd => rfl); (case hg => rfl); (case hr => first | (go_simp; done) | (go_simp; rfl)); intro gb106 hg w31 hbox hb; have n0_ := Aside0.mk (below_step y1_ hb); have n1_ := Aside0.mk (hbox); have n2_ := Aside0.mk ((y29_ : w.heap.size ≤ gb106)); have n3_ := Aside0.mk ((y29_ : w.heap.size ≤ gb106)); clear HB; have HB := n0_; have BK106 := n1_; have GW106 := n2_; have GE106 := n3_; clear n0_ n1_ n2_ n3_; clear hb hbox hg; have hcz32_0 : w31.cell? ⟨gb106, 0, none⟩ = some (.string a0_0) := (blk_cell BK106.out 0).trans rfl; have hcz32_1 : w31.cell? ⟨gb106, 1, none⟩ = some (.string a0_1) := (blk_cell BK106.out 1).trans rfl; have hfz32_0 := blk_frozen BK106.out 0; have hfz32_1 := blk_frozen BK106.out 1) | ((with_reducible refine gate_callee (f := 60) rfl ?_); refine goesL_ (some 7) rfl rfl Tryd.func60 (by kernel_rfl) rfl #[.string a0_0] rfl y3_ ?_; (with_reducible refine (labels_Named.calls a0_0 false _ A3.out).mono ?_); rintro e w33 ⟨rfl, hb⟩; refine ⟨_, rfl, ?_⟩; have n0_ := Aside0.mk (blk_below (g := gb106) (o := .cells #[.string a0_0, .string a0_1] 52 (0, 0)) y51_ hb); have n1_ := Aside0.mk (below_step y22_ hb); clear BK106; clear HB; have BK106 := n0_; have HB := n1_; clear n0_ n1_; (try clear hb); (try clear hb2); (try clear hk); (try clear hi)))
  go_ret
  exact ⟨y8_, y22_⟩
def labels_Right.l0 : Nat → List (S52) → List (S52) → Int → Int → Option (Int)
 | 0, _, _, _, _ => none
 | k + 1, x0, x9, x10, x11 => if x11 < x10 then (if 0 ≤ x11 then (if x11 < (x9.length : Int) then ((labels_wrong.f ((rd_T52 x9 x11).f0) ((rd_T52 x9 x11).f1) false).bind fun t111 => (if t111 = 0 then (if x11 > 0 then (if 0 ≤ (wrap64 (x11 - 1)) then (if (wrap64 (x11 - 1)) < (x0.length : Int) then (if (Op.bytesLess (((rd_T52 x9 x11).f0).toList) (((rd_T52 x0 (wrap64 (x11 - 1))).f0).toList)) = true then (some 53) else (if ((rd_T52 x9 x11).f0).toList = ((rd_T52 x0 (wrap64 (x11 - 1))).f0).toList then (some 53) else (labels_Right.l0 k x0 x9 x10 (wrap64 (x11 + 1))))) else (none)) else (none)) else (labels_Right.l0 k x0 x9 x10 (wrap64 (x11 + 1)))) else (some t111))) else (none)) else (none)) else (some 0)
def labels_Right.f (k : Nat) (l0 : List (S52)) : Option (Int) := if (l0.length : Int) > 16 then (some 3) else (labels_Right.l0 k l0 l0 (l0.length : Int) 0)
theorem labels_Right.mono_l : ∀ k, (∀ y0 y1 y2 y3, LeO (labels_Right.l0 k y0 y1 y2 y3) (labels_Right.l0 (k + 1) y0 y1 y2 y3))
 | 0 => fun _ _ _ _ r h => by simp [labels_Right.l0] at h
 | k + 1 => by
  have ih0 := labels_Right.mono_l k
  ·intro y0 y1 y2 y3
   unfold labels_Right.l0
   repeat' first
   | (with_reducible exact ih0 _ _ _ _)
   | (with_reducible exact LeO.refl _)
   | (with_reducible exact LeO.none _)
   | (with_reducible refine LeO.ite ?_ ?_)
   | (with_reducible refine LeO.bind ?_ (fun _ => ?_))
   | exact ih0 _ _ _ _
   | exact LeO.none _
   | refine LeO.ite ?_ ?_
   | refine LeO.bind ?_ (fun _ => ?_)
theorem labels_Right.mono : ∀ a0 k, LeO (labels_Right.f k a0) (labels_Right.f (k + 1) a0) := by
 intro a0 k
 have ih0 := labels_Right.mono_l k
 unfold labels_Right.f
 repeat' first
   | (with_reducible exact ih0 _ _ _ _)
   | (with_reducible exact LeO.refl _)
   | (with_reducible exact LeO.none _)
   | (with_reducible refine LeO.ite ?_ ?_)
   | (with_reducible refine LeO.bind ?_ (fun _ => ?_))
   | exact ih0 _ _ _ _
   | exact LeO.none _
   | refine LeO.ite ?_ ?_
   | refine LeO.bind ?_ (fun _ => ?_)
set_option maxHeartbeats 8000000 in
set_option maxRecDepth 100000 in
theorem labels_Right.calls (k : Nat) (A0 : Option Addr) (c0 : Nat) (l0 : List (S52)) (r : Int) (w : World) (hT : Aside0 (Tab w)) (hr0 : Kd.C k52 w A0 l0.length l0) (hc0 : l0.length ≤ c0) (h : labels_Right.f k l0 = some r) :
  Calls Tryd.prog 35 #[.slice A0 l0.length c0] w fun e w' => e = .returned (.int .i64 r) ∧ Below w.heap.size w w' := by
 have hu52 := Tryd.underlying52
 have HR0 := Aside0.mk hr0
 have HC0 := Aside0.mk hc0
 clear hr0 hc0
 have HB := Aside0.mk (Below.refl w.heap.size w)
 have H : (if (l0.length : Int) > 16 then (some 3) else (labels_Right.l0 k l0 l0 (l0.length : Int) 0)) = some r := h
 clear h
 by_cases c2 : (l0.length : Int) > 16
 ·rw [if_pos c2] at H
  have c2b0 : decide (16 < (l0.length : Int)) = true := decide_eq_true c2
  have c2b1 : decide (16 < l0.length) = true := decide_eq_true (by omega)
  clear c2
  obtain rfl := Option.some.inj H
  go_enter Tryd.func35, Tryd.ntmps35
  go_wp2
  repeat (go_quiet (fail); try go_wp2)
  go_ret
  exact ⟨y8_, y1_⟩
 ·rw [if_neg c2] at H
  have c2b0 : decide (16 < (l0.length : Int)) = false := decide_eq_false c2
  have c2b1 : decide (16 < l0.length) = false := decide_eq_false (by omega)
  clear c2
  have H' := Aside0.mk H
  clear H
  go_enter Tryd.func35, Tryd.ntmps35
  go_wp2
  repeat (go_quiet (fail); try go_wp2)
  go_loopg [11] k (fun kq v11 w' => ∃ (x11_1 : Int), v11 = .int .i64 x11_1 ∧ Aside0 (labels_Right.l0 kq l0 l0 (l0.length : Int) x11_1 = some r) ∧ Aside0 (kq ≤ k) ∧ Aside0 (Below w.heap.size w w'))
  case atStart => exact ⟨(0), y15_, H', ⟨Nat.le_refl _⟩, ⟨y1_⟩⟩
  case round =>
   clear H'
   try clear c2
   try clear c2b0
   try clear c2b1
   try clear p2
   obtain ⟨x11_1, rfl, HA, HK1, HB⟩ := hrel
   cases gk with
   | zero => exact absurd HA.out (by simp [labels_Right.l0])
   | succ k1 =>
    have H := HA.out
    clear HA
    simp only [labels_Right.l0] at H
    by_cases c3 : x11_1 < (l0.length : Int)
    ·rw [if_pos c3] at H
     have c3b0 : decide (x11_1 < (l0.length : Int)) = true := decide_eq_true c3
     clear c3
     by_cases c4 : 0 ≤ x11_1
     ·rw [if_pos c4] at H
      have c4b0 : decide (0 ≤ x11_1) = true := decide_eq_true c4
      clear c4
      by_cases c5 : x11_1 < (l0.length : Int)
      ·rw [if_pos c5] at H
       have c5b0 : decide (x11_1 < (l0.length : Int)) = true := decide_eq_true c5
       clear c5
       replace H := Option.bind_eq_some_iff.mp H
       obtain ⟨t111, A60, H⟩ := H
       replace H : (if t111 = 0 then (if x11_1 > 0 then (if 0 ≤ (wrap64 (x11_1 - 1)) then (if (wrap64 (x11_1 - 1)) < (l0.length : Int) then (if (Op.bytesLess (((rd_T52 l0 x11_1).f0).toList) (((rd_T52 l0 (wrap64 (x11_1 - 1))).f0).toList)) = true then (some 53) else (if ((rd_T52 l0 x11_1).f0).toList = ((rd_T52 l0 (wrap64 (x11_1 - 1))).f0).toList then (some 53) else (labels_Right.l0 k1 l0 l0 (l0.length : Int) (wrap64 (x11_1 + 1))))) else (none)) else (none)) else (labels_Right.l0 k1 l0 l0 (l0.length : Int) (wrap64 (x11_1 + 1)))) else (some t111)) = some r := H
       have A6 := Aside0.mk A60
       clear A60
       by_cases c7 : t111 = 0
       ·rw [if_pos c7] at H
        have c7b0 : (t111 == 0) = true := beq_iff_eq.mpr c7
        have c7b1 : (t111 != 0) = false := bne_eq_false_iff_eq.mpr c7
        clear c7
        by_cases c8 : x11_1 > 0
        ·rw [if_pos c8] at H
         have c8b0 : decide (0 < x11_1) = true := decide_eq_true c8
         clear c8
         obtain ⟨ji9, hji9⟩ : ∃ j_ : Int, (wrap64 (x11_1 - 1)) = j_ := ⟨_, rfl⟩
         replace H : (if 0 ≤ (ji9) then (if (ji9) < (l0.length : Int) then (if (Op.bytesLess (((rd_T52 l0 x11_1).f0).toList) (((rd_T52 l0 (ji9)).f0).toList)) = true then (some 53) else (if ((rd_T52 l0 x11_1).f0).toList = ((rd_T52 l0 (ji9)).f0).toList then (some 53) else (labels_Right.l0 k1 l0 l0 (l0.length : Int) (wrap64 (x11_1 + 1))))) else (none)) else (none)) = some r := by first | (rw [hji9] at H; exact H) | (simp only [hji9] at H ⊢; exact H)
         (try rw [hji9] at A6)
         have hji9w : (IntKind.i64.wrap (x11_1 - 1)) = ji9 := (i64_w _).trans hji9
         by_cases c10 : 0 ≤ (ji9)
         ·rw [if_pos c10] at H
          have c10b0 : decide (0 ≤ (ji9)) = true := decide_eq_true c10
          clear c10
          by_cases c11 : (ji9) < (l0.length : Int)
          ·rw [if_pos c11] at H
           have c11b0 : decide ((ji9) < (l0.length : Int)) = true := decide_eq_true c11
           clear c11
           by_cases c12 : (Op.bytesLess (((rd_T52 l0 x11_1).f0).toList) (((rd_T52 l0 (ji9)).f0).toList)) = true
           ·rw [if_pos c12] at H
            have c12b0 : (Op.bytesLess (((rd_T52 l0 x11_1).f0).toList) (((rd_T52 l0 (ji9)).f0).toList)) = true := c12
            clear c12
            obtain rfl := Option.some.inj H
            have p109 : 0 ≤ (x11_1 : Int) := of_decide_eq_true y7_
            have q109 : x11_1 < (l0.length : Int) := of_decide_eq_true y7_
            obtain ⟨ad109, e109, hx109_0, hx109_1⟩ := at_T52 HR0.out x11_1 p109 q109
            cases e109
            replace hx109_0 := (HB.out.cell (World.block_lt_of_cell? w _ hx109_0)).trans hx109_0
            replace hx109_1 := (HB.out.cell (World.block_lt_of_cell? w _ hx109_1)).trans hx109_1
            replace p109 := eq_true p109
            replace q109 := eq_true q109
            go_wp2_with (first | ((with_reducible refine gate_dst (N := 4) rfl ?_); refine box_event ?hg (N := 4) ?hd (cs := #[.string (⟨#[]⟩ : ByteArray), .string (⟨#[]⟩ : ByteArray)]) (t := 52) ?hr ?_; (case hd => rfl); (case hg => rfl); (case hr => first | (go_simp; done) | (go_simp; rfl)); intro gb110 hg w13 hbox hb; have n0_ := Aside0.mk (below_step y1_ hb); have n1_ := Aside0.mk (hbox); have n2_ := Aside0.mk ((y29_ : w.heap.size ≤ gb110)); have n3_ := Aside0.mk ((y29_ : w.heap.size ≤ gb110)); clear HB; have HB := n0_; have BK110 := n1_; have GW110 := n2_; have GE110 := n3_; clear n0_ n1_ n2_ n3_; clear hb hbox hg; have hcz14_0 : w13.cell? ⟨gb110, 0, none⟩ = some (.string (⟨#[]⟩ : ByteArray)) := (blk_cell BK110.out 0).trans rfl; have hcz14_1 : w13.cell? ⟨gb110, 1, none⟩ = some (.string (⟨#[]⟩ : ByteArray)) := (blk_cell BK110.out 1).trans rfl; have hfz14_0 := blk_frozen BK110.out 0; have hfz14_1 := blk_frozen BK110.out 1) | (go_at_call 51; (with_reducible refine (labels_wrong.calls ((rd_T52 l0 x11_1).f0) ((rd_T52 l0 x11_1).f1) false t111 _ ?side1 A6.out).mono ?_); (case side1 => exact ⟨Tab_below hT.out y10_⟩); rintro e w15 ⟨rfl, hb⟩; have n0_ := Aside0.mk (blk_below (g := gb110) (o := .cells #[.string ((rd_T52 l0 x11_1).f0), .string ((rd_T52 l0 x11_1).f1)] 52 (0, 0)) y5_ hb); have n1_ := Aside0.mk (below_step y10_ hb); clear BK110; clear HB; have BK110 := n0_; have HB := n1_; clear n0_ n1_; (try clear hb); (try clear hb2); (try clear hk); (try clear hi); have hcz16_0 : w15.cell? ⟨gb110, 0, none⟩ = some (.string ((rd_T52 l0 x11_1).f0)) := (blk_cell BK110.out 0).trans rfl; have hcz16_1 : w15.cell? ⟨gb110, 1, none⟩ = some (.string ((rd_T52 l0 x11_1).f1)) := (blk_cell BK110.out 1).trans rfl; have hfz16_0 := blk_frozen BK110.out 0; have hfz16_1 := blk_frozen BK110.out 1; have p112 : 0 ≤ ((ji9) : Int) := of_decide_eq_true y7_; have q112 : (ji9) < (l0.length : Int) := of_decide_eq_true y7_; obtain ⟨ad112, e112, hx112_0, hx112_1⟩ := at_T52 HR0.out (ji9) p112 q112; obtain rfl : ad109 = ad112 := (by injection e112); replace hx112_0 := (HB.out.cell (World.block_lt_of_cell? w _ hx112_0)).trans hx112_0; replace hx112_1 := (HB.out.cell (World.block_lt_of_cell? w _ hx112_1)).trans hx112_1; replace p112 := eq_true p112; replace q112 := eq_true q112))
            repeat (go_quiet (first | ((with_reducible refine gate_dst (N := 4) rfl ?_); refine box_event ?hg (N := 4) ?hd (cs := #[.string (⟨#[]⟩ : ByteArray), .string (⟨#[]⟩ : ByteArray)]) (t := 52) ?hr ?_; (case hd => rfl); (case hg => rfl); (case hr => first | (go_simp; done) | (go_simp; rfl)); intro gb110 hg w13 hbox hb; have n0_ := Aside0.mk (below_step y1_ hb); have n1_ := Aside0.mk (hbox); have n2_ := Aside0.mk ((y29_ : w.heap.size ≤ gb110)); have n3_ := Aside0.mk ((y29_ : w.heap.size ≤ gb110)); clear HB; have HB := n0_; have BK110 := n1_; have GW110 := n2_; have GE110 := n3_; clear n0_ n1_ n2_ n3_; clear hb hbox hg; have hcz14_0 : w13.cell? ⟨gb110, 0, none⟩ = some (.string (⟨#[]⟩ : ByteArray)) := (blk_cell BK110.out 0).trans rfl; have hcz14_1 : w13.cell? ⟨gb110, 1, none⟩ = some (.string (⟨#[]⟩ : ByteArray)) := (blk_cell BK110.out 1).trans rfl; have hfz14_0 := blk_frozen BK110.out 0; have hfz14_1 := blk_frozen BK110.out 1) | (go_at_call 51; (with_reducible refine (labels_wrong.calls ((rd_T52 l0 x11_1).f0) ((rd_T52 l0 x11_1).f1) false t111 _ ?side1 A6.out).mono ?_); (case side1 => exact ⟨Tab_below hT.out y10_⟩); rintro e w15 ⟨rfl, hb⟩; have n0_ := Aside0.mk (blk_below (g := gb110) (o := .cells #[.string ((rd_T52 l0 x11_1).f0), .string ((rd_T52 l0 x11_1).f1)] 52 (0, 0)) y5_ hb); have n1_ := Aside0.mk (below_step y10_ hb); clear BK110; clear HB; have BK110 := n0_; have HB := n1_; clear n0_ n1_; (try clear hb); (try clear hb2); (try clear hk); (try clear hi); have hcz16_0 : w15.cell? ⟨gb110, 0, none⟩ = some (.string ((rd_T52 l0 x11_1).f0)) := (blk_cell BK110.out 0).trans rfl; have hcz16_1 : w15.cell? ⟨gb110, 1, none⟩ = some (.string ((rd_T52 l0 x11_1).f1)) := (blk_cell BK110.out 1).trans rfl; have hfz16_0 := blk_frozen BK110.out 0; have hfz16_1 := blk_frozen BK110.out 1; have p112 : 0 ≤ ((ji9) : Int) := of_decide_eq_true y7_; have q112 : (ji9) < (l0.length : Int) := of_decide_eq_true y7_; obtain ⟨ad112, e112, hx112_0, hx112_1⟩ := at_T52 HR0.out (ji9) p112 q112; obtain rfl : ad109 = ad112 := (by injection e112); replace hx112_0 := (HB.out.cell (World.block_lt_of_cell? w _ hx112_0)).trans hx112_0; replace hx112_1 := (HB.out.cell (World.block_lt_of_cell? w _ hx112_1)).trans hx112_1; replace p112 := eq_true p112; replace q112 := eq_true q112)); try go_wp2_with (first | ((with_reducible refine gate_dst (N := 4) rfl ?_); refine box_event ?hg (N := 4) ?hd (cs := #[.string (⟨#[]⟩ : ByteArray), .string (⟨#[]⟩ : ByteArray)]) (t := 52) ?hr ?_; (case hd => rfl); (case hg => rfl); (case hr => first | (go_simp; done) | (go_simp; rfl)); intro gb110 hg w13 hbox hb; have n0_ := Aside0.mk (below_step y1_ hb); have n1_ := Aside0.mk (hbox); have n2_ := Aside0.mk ((y29_ : w.heap.size ≤ gb110)); have n3_ := Aside0.mk ((y29_ : w.heap.size ≤ gb110)); clear HB; have HB := n0_; have BK110 := n1_; have GW110 := n2_; have GE110 := n3_; clear n0_ n1_ n2_ n3_; clear hb hbox hg; have hcz14_0 : w13.cell? ⟨gb110, 0, none⟩ = some (.string (⟨#[]⟩ : ByteArray)) := (blk_cell BK110.out 0).trans rfl; have hcz14_1 : w13.cell? ⟨gb110, 1, none⟩ = some (.string (⟨#[]⟩ : ByteArray)) := (blk_cell BK110.out 1).trans rfl; have hfz14_0 := blk_frozen BK110.out 0; have hfz14_1 := blk_frozen BK110.out 1) | (go_at_call 51; (with_reducible refine (labels_wrong.calls ((rd_T52 l0 x11_1).f0) ((rd_T52 l0 x11_1).f1) false t111 _ ?side1 A6.out).mono ?_); (case side1 => exact ⟨Tab_below hT.out y10_⟩); rintro e w15 ⟨rfl, hb⟩; have n0_ := Aside0.mk (blk_below (g := gb110) (o := .cells #[.string ((rd_T52 l0 x11_1).f0), .string ((rd_T52 l0 x11_1).f1)] 52 (0, 0)) y5_ hb); have n1_ := Aside0.mk (below_step y10_ hb); clear BK110; clear HB; have BK110 := n0_; have HB := n1_; clear n0_ n1_; (try clear hb); (try clear hb2); (try clear hk); (try clear hi); have hcz16_0 : w15.cell? ⟨gb110, 0, none⟩ = some (.string ((rd_T52 l0 x11_1).f0)) := (blk_cell BK110.out 0).trans rfl; have hcz16_1 : w15.cell? ⟨gb110, 1, none⟩ = some (.string ((rd_T52 l0 x11_1).f1)) := (blk_cell BK110.out 1).trans rfl; have hfz16_0 := blk_frozen BK110.out 0; have hfz16_1 := blk_frozen BK110.out 1; have p112 : 0 ≤ ((ji9) : Int) := of_decide_eq_true y7_; have q112 : (ji9) < (l0.length : Int) := of_decide_eq_true y7_; obtain ⟨ad112, e112, hx112_0, hx112_1⟩ := at_T52 HR0.out (ji9) p112 q112; obtain rfl : ad109 = ad112 := (by injection e112); replace hx112_0 := (HB.out.cell (World.block_lt_of_cell? w _ hx112_0)).trans hx112_0; replace hx112_1 := (HB.out.cell (World.block_lt_of_cell? w _ hx112_1)).trans hx112_1; replace p112 := eq_true p112; replace q112 := eq_true q112)))
            go_ret
            exact ⟨by first | rfl | (simp [errW_none, errW_some] <;> rfl) | (simp only [← hji9]; first | rfl | (simp [errW_none, errW_some] <;> rfl)) | (simp [*, errW_none, errW_some] <;> rfl), y10_⟩
           ·rw [if_neg c12] at H
            have c12b0 : (Op.bytesLess (((rd_T52 l0 x11_1).f0).toList) (((rd_T52 l0 (ji9)).f0).toList)) = false := by simpa using c12
            clear c12
            by_cases c17 : ((rd_T52 l0 x11_1).f0).toList = ((rd_T52 l0 (ji9)).f0).toList
            ·rw [if_pos c17] at H
             have c17b0 : (((rd_T52 l0 x11_1).f0).toList == ((rd_T52 l0 (ji9)).f0).toList) = true := beq_iff_eq.mpr c17
             have c17b1 : (((rd_T52 l0 x11_1).f0).toList != ((rd_T52 l0 (ji9)).f0).toList) = false := bne_eq_false_iff_eq.mpr c17
             clear c17
             obtain rfl := Option.some.inj H
             have p109 : 0 ≤ (x11_1 : Int) := of_decide_eq_true y7_
             have q109 : x11_1 < (l0.length : Int) := of_decide_eq_true y7_
             obtain ⟨ad109, e109, hx109_0, hx109_1⟩ := at_T52 HR0.out x11_1 p109 q109
             cases e109
             replace hx109_0 := (HB.out.cell (World.block_lt_of_cell? w _ hx109_0)).trans hx109_0
             replace hx109_1 := (HB.out.cell (World.block_lt_of_cell? w _ hx109_1)).trans hx109_1
             replace p109 := eq_true p109
             replace q109 := eq_true q109
             go_wp2_with (first | ((with_reducible refine gate_dst (N := 4) rfl ?_); refine box_event ?hg (N := 4) ?hd (cs := #[.string (⟨#[]⟩ : ByteArray), .string (⟨#[]⟩ : ByteArray)]) (t := 52) ?hr ?_; (case hd => rfl); (case hg => rfl); (case hr => first | (go_simp; done) | (go_simp; rfl)); intro gb110 hg w18 hbox hb; have n0_ := Aside0.mk (below_step y1_ hb); have n1_ := Aside0.mk (hbox); have n2_ := Aside0.mk ((y29_ : w.heap.size ≤ gb110)); have n3_ := Aside0.mk ((y29_ : w.heap.size ≤ gb110)); clear HB; have HB := n0_; have BK110 := n1_; have GW110 := n2_; have GE110 := n3_; clear n0_ n1_ n2_ n3_; clear hb hbox hg; have hcz19_0 : w18.cell? ⟨gb110, 0, none⟩ = some (.string (⟨#[]⟩ : ByteArray)) := (blk_cell BK110.out 0).trans rfl; have hcz19_1 : w18.cell? ⟨gb110, 1, none⟩ = some (.string (⟨#[]⟩ : ByteArray)) := (blk_cell BK110.out 1).trans rfl; have hfz19_0 := blk_frozen BK110.out 0; have hfz19_1 := blk_frozen BK110.out 1) | (go_at_call 51; (with_reducible refine (labels_wrong.calls ((rd_T52 l0 x11_1).f0) ((rd_T52 l0 x11_1).f1) false t111 _ ?side1 A6.out).mono ?_); (case side1 => exact ⟨Tab_below hT.out y10_⟩); rintro e w20 ⟨rfl, hb⟩; have n0_ := Aside0.mk (blk_below (g := gb110) (o := .cells #[.string ((rd_T52 l0 x11_1).f0), .string ((rd_T52 l0 x11_1).f1)] 52 (0, 0)) y5_ hb); have n1_ := Aside0.mk (below_step y10_ hb); clear BK110; clear HB; have BK110 := n0_; have HB := n1_; clear n0_ n1_; (try clear hb); (try clear hb2); (try clear hk); (try clear hi); have hcz21_0 : w20.cell? ⟨gb110, 0, none⟩ = some (.string ((rd_T52 l0 x11_1).f0)) := (blk_cell BK110.out 0).trans rfl; have hcz21_1 : w20.cell? ⟨gb110, 1, none⟩ = some (.string ((rd_T52 l0 x11_1).f1)) := (blk_cell BK110.out 1).trans rfl; have hfz21_0 := blk_frozen BK110.out 0; have hfz21_1 := blk_frozen BK110.out 1; have p112 : 0 ≤ ((ji9) : Int) := of_decide_eq_true y7_; have q112 : (ji9) < (l0.length : Int) := of_decide_eq_true y7_; obtain ⟨ad112, e112, hx112_0, hx112_1⟩ := at_T52 HR0.out (ji9) p112 q112; obtain rfl : ad109 = ad112 := (by injection e112); replace hx112_0 := (HB.out.cell (World.block_lt_of_cell? w _ hx112_0)).trans hx112_0; replace hx112_1 := (HB.out.cell (World.block_lt_of_cell? w _ hx112_1)).trans hx112_1; replace p112 := eq_true p112; replace q112 := eq_true q112))
             repeat (go_quiet (first | ((with_reducible refine gate_dst (N := 4) rfl ?_); refine box_event ?hg (N := 4) ?hd (cs := #[.string (⟨#[]⟩ : ByteArray), .string (⟨#[]⟩ : ByteArray)]) (t := 52) ?hr ?_; (case hd => rfl); (case hg => rfl); (case hr => first | (go_simp; done) | (go_simp; rfl)); intro gb110 hg w18 hbox hb; have n0_ := Aside0.mk (below_step y1_ hb); have n1_ := Aside0.mk (hbox); have n2_ := Aside0.mk ((y29_ : w.heap.size ≤ gb110)); have n3_ := Aside0.mk ((y29_ : w.heap.size ≤ gb110)); clear HB; have HB := n0_; have BK110 := n1_; have GW110 := n2_; have GE110 := n3_; clear n0_ n1_ n2_ n3_; clear hb hbox hg; have hcz19_0 : w18.cell? ⟨gb110, 0, none⟩ = some (.string (⟨#[]⟩ : ByteArray)) := (blk_cell BK110.out 0).trans rfl; have hcz19_1 : w18.cell? ⟨gb110, 1, none⟩ = some (.string (⟨#[]⟩ : ByteArray)) := (blk_cell BK110.out 1).trans rfl; have hfz19_0 := blk_frozen BK110.out 0; have hfz19_1 := blk_frozen BK110.out 1) | (go_at_call 51; (with_reducible refine (labels_wrong.calls ((rd_T52 l0 x11_1).f0) ((rd_T52 l0 x11_1).f1) false t111 _ ?side1 A6.out).mono ?_); (case side1 => exact ⟨Tab_below hT.out y10_⟩); rintro e w20 ⟨rfl, hb⟩; have n0_ := Aside0.mk (blk_below (g := gb110) (o := .cells #[.string ((rd_T52 l0 x11_1).f0), .string ((rd_T52 l0 x11_1).f1)] 52 (0, 0)) y5_ hb); have n1_ := Aside0.mk (below_step y10_ hb); clear BK110; clear HB; have BK110 := n0_; have HB := n1_; clear n0_ n1_; (try clear hb); (try clear hb2); (try clear hk); (try clear hi); have hcz21_0 : w20.cell? ⟨gb110, 0, none⟩ = some (.string ((rd_T52 l0 x11_1).f0)) := (blk_cell BK110.out 0).trans rfl; have hcz21_1 : w20.cell? ⟨gb110, 1, none⟩ = some (.string ((rd_T52 l0 x11_1).f1)) := (blk_cell BK110.out 1).trans rfl; have hfz21_0 := blk_frozen BK110.out 0; have hfz21_1 := blk_frozen BK110.out 1; have p112 : 0 ≤ ((ji9) : Int) := of_decide_eq_true y7_; have q112 : (ji9) < (l0.length : Int) := of_decide_eq_true y7_; obtain ⟨ad112, e112, hx112_0, hx112_1⟩ := at_T52 HR0.out (ji9) p112 q112; obtain rfl : ad109 = ad112 := (by injection e112); replace hx112_0 := (HB.out.cell (World.block_lt_of_cell? w _ hx112_0)).trans hx112_0; replace hx112_1 := (HB.out.cell (World.block_lt_of_cell? w _ hx112_1)).trans hx112_1; replace p112 := eq_true p112; replace q112 := eq_true q112)); try go_wp2_with (first | ((with_reducible refine gate_dst (N := 4) rfl ?_); refine box_event ?hg (N := 4) ?hd (cs := #[.string (⟨#[]⟩ : ByteArray), .string (⟨#[]⟩ : ByteArray)]) (t := 52) ?hr ?_; (case hd => rfl); (case hg => rfl); (case hr => first | (go_simp; done) | (go_simp; rfl)); intro gb110 hg w18 hbox hb; have n0_ := Aside0.mk (below_step y1_ hb); have n1_ := Aside0.mk (hbox); have n2_ := Aside0.mk ((y29_ : w.heap.size ≤ gb110)); have n3_ := Aside0.mk ((y29_ : w.heap.size ≤ gb110)); clear HB; have HB := n0_; have BK110 := n1_; have GW110 := n2_; have GE110 := n3_; clear n0_ n1_ n2_ n3_; clear hb hbox hg; have hcz19_0 : w18.cell? ⟨gb110, 0, none⟩ = some (.string (⟨#[]⟩ : ByteArray)) := (blk_cell BK110.out 0).trans rfl; have hcz19_1 : w18.cell? ⟨gb110, 1, none⟩ = some (.string (⟨#[]⟩ : ByteArray)) := (blk_cell BK110.out 1).trans rfl; have hfz19_0 := blk_frozen BK110.out 0; have hfz19_1 := blk_frozen BK110.out 1) | (go_at_call 51; (with_reducible refine (labels_wrong.calls ((rd_T52 l0 x11_1).f0) ((rd_T52 l0 x11_1).f1) false t111 _ ?side1 A6.out).mono ?_); (case side1 => exact ⟨Tab_below hT.out y10_⟩); rintro e w20 ⟨rfl, hb⟩; have n0_ := Aside0.mk (blk_below (g := gb110) (o := .cells #[.string ((rd_T52 l0 x11_1).f0), .string ((rd_T52 l0 x11_1).f1)] 52 (0, 0)) y5_ hb); have n1_ := Aside0.mk (below_step y10_ hb); clear BK110; clear HB; have BK110 := n0_; have HB := n1_; clear n0_ n1_; (try clear hb); (try clear hb2); (try clear hk); (try clear hi); have hcz21_0 : w20.cell? ⟨gb110, 0, none⟩ = some (.string ((rd_T52 l0 x11_1).f0)) := (blk_cell BK110.out 0).trans rfl; have hcz21_1 : w20.cell? ⟨gb110, 1, none⟩ = some (.string ((rd_T52 l0 x11_1).f1)) := (blk_cell BK110.out 1).trans rfl; have hfz21_0 := blk_frozen BK110.out 0; have hfz21_1 := blk_frozen BK110.out 1; have p112 : 0 ≤ ((ji9) : Int) := of_decide_eq_true y7_; have q112 : (ji9) < (l0.length : Int) := of_decide_eq_true y7_; obtain ⟨ad112, e112, hx112_0, hx112_1⟩ := at_T52 HR0.out (ji9) p112 q112; obtain rfl : ad109 = ad112 := (by injection e112); replace hx112_0 := (HB.out.cell (World.block_lt_of_cell? w _ hx112_0)).trans hx112_0; replace hx112_1 := (HB.out.cell (World.block_lt_of_cell? w _ hx112_1)).trans hx112_1; replace p112 := eq_true p112; replace q112 := eq_true q112)))
             go_ret
             exact ⟨by first | rfl | (simp [errW_none, errW_some] <;> rfl) | (simp only [← hji9]; first | rfl | (simp [errW_none, errW_some] <;> rfl)) | (simp [*, errW_none, errW_some] <;> rfl), y10_⟩
            ·rw [if_neg c17] at H
             have c17b0 : (((rd_T52 l0 x11_1).f0).toList == ((rd_T52 l0 (ji9)).f0).toList) = false := beq_eq_false_iff_ne.mpr c17
             have c17b1 : (((rd_T52 l0 x11_1).f0).toList != ((rd_T52 l0 (ji9)).f0).toList) = true := bne_iff_ne.mpr c17
             have H' := Aside0.mk H
             clear H
             have p109 : 0 ≤ (x11_1 : Int) := of_decide_eq_true y7_
             have q109 : x11_1 < (l0.length : Int) := of_decide_eq_true y7_
             obtain ⟨ad109, e109, hx109_0, hx109_1⟩ := at_T52 HR0.out x11_1 p109 q109
             cases e109
             replace hx109_0 := (HB.out.cell (World.block_lt_of_cell? w _ hx109_0)).trans hx109_0
             replace hx109_1 := (HB.out.cell (World.block_lt_of_cell? w _ hx109_1)).trans hx109_1
             replace p109 := eq_true p109
             replace q109 := eq_true q109
             go_wp2_with (first | ((with_reducible refine gate_dst (N := 4) rfl ?_); refine box_event ?hg (N := 4) ?hd (cs := #[.string (⟨#[]⟩ : ByteArray), .string (⟨#[]⟩ : ByteArray)]) (t := 52) ?hr ?_; (case hd => rfl); (case hg => rfl); (case hr => first | (go_simp; done) | (go_simp; rfl)); intro gb110 hg w22 hbox hb; have n0_ := Aside0.mk (below_step y1_ hb); have n1_ := Aside0.mk (hbox); have n2_ := Aside0.mk ((y29_ : w.heap.size ≤ gb110)); have n3_ := Aside0.mk ((y29_ : w.heap.size ≤ gb110)); clear HB; have HB := n0_; have BK110 := n1_; have GW110 := n2_; have GE110 := n3_; clear n0_ n1_ n2_ n3_; clear hb hbox hg; have hcz23_0 : w22.cell? ⟨gb110, 0, none⟩ = some (.string (⟨#[]⟩ : ByteArray)) := (blk_cell BK110.out 0).trans rfl; have hcz23_1 : w22.cell? ⟨gb110, 1, none⟩ = some (.string (⟨#[]⟩ : ByteArray)) := (blk_cell BK110.out 1).trans rfl; have hfz23_0 := blk_frozen BK110.out 0; have hfz23_1 := blk_frozen BK110.out 1) | (go_at_call 51; (with_reducible refine (labels_wrong.calls ((rd_T52 l0 x11_1).f0) ((rd_T52 l0 x11_1).f1) false t111 _ ?side1 A6.out).mono ?_); (case side1 => exact ⟨Tab_below hT.out y10_⟩); rintro e w24 ⟨rfl, hb⟩; have n0_ := Aside0.mk (blk_below (g := gb110) (o := .cells #[.string ((rd_T52 l0 x11_1).f0), .string ((rd_T52 l0 x11_1).f1)] 52 (0, 0)) y5_ hb); have n1_ := Aside0.mk (below_step y10_ hb); clear BK110; clear HB; have BK110 := n0_; have HB := n1_; clear n0_ n1_; (try clear hb); (try clear hb2); (try clear hk); (try clear hi); have hcz25_0 : w24.cell? ⟨gb110, 0, none⟩ = some (.string ((rd_T52 l0 x11_1).f0)) := (blk_cell BK110.out 0).trans rfl; have hcz25_1 : w24.cell? ⟨gb110, 1, none⟩ = some (.string ((rd_T52 l0 x11_1).f1)) := (blk_cell BK110.out 1).trans rfl; have hfz25_0 := blk_frozen BK110.out 0; have hfz25_1 := blk_frozen BK110.out 1; have p112 : 0 ≤ ((ji9) : Int) := of_decide_eq_true y7_; have q112 : (ji9) < (l0.length : Int) := of_decide_eq_true y7_; obtain ⟨ad112, e112, hx112_0, hx112_1⟩ := at_T52 HR0.out (ji9) p112 q112; obtain rfl : ad109 = ad112 := (by injection e112); replace hx112_0 := (HB.out.cell (World.block_lt_of_cell? w _ hx112_0)).trans hx112_0; replace hx112_1 := (HB.out.cell (World.block_lt_of_cell? w _ hx112_1)).trans hx112_1; replace p112 := eq_true p112; replace q112 := eq_true q112))
             repeat (go_quiet (first | ((with_reducible refine gate_dst (N := 4) rfl ?_); refine box_event ?hg (N := 4) ?hd (cs := #[.string (⟨#[]⟩ : ByteArray), .string (⟨#[]⟩ : ByteArray)]) (t := 52) ?hr ?_; (case hd => rfl); (case hg => rfl); (case hr => first | (go_simp; done) | (go_simp; rfl)); intro gb110 hg w22 hbox hb; have n0_ := Aside0.mk (below_step y1_ hb); have n1_ := Aside0.mk (hbox); have n2_ := Aside0.mk ((y29_ : w.heap.size ≤ gb110)); have n3_ := Aside0.mk ((y29_ : w.heap.size ≤ gb110)); clear HB; have HB := n0_; have BK110 := n1_; have GW110 := n2_; have GE110 := n3_; clear n0_ n1_ n2_ n3_; clear hb hbox hg; have hcz23_0 : w22.cell? ⟨gb110, 0, none⟩ = some (.string (⟨#[]⟩ : ByteArray)) := (blk_cell BK110.out 0).trans rfl; have hcz23_1 : w22.cell? ⟨gb110, 1, none⟩ = some (.string (⟨#[]⟩ : ByteArray)) := (blk_cell BK110.out 1).trans rfl; have hfz23_0 := blk_frozen BK110.out 0; have hfz23_1 := blk_frozen BK110.out 1) | (go_at_call 51; (with_reducible refine (labels_wrong.calls ((rd_T52 l0 x11_1).f0) ((rd_T52 l0 x11_1).f1) false t111 _ ?side1 A6.out).mono ?_); (case side1 => exact ⟨Tab_below hT.out y10_⟩); rintro e w24 ⟨rfl, hb⟩; have n0_ := Aside0.mk (blk_below (g := gb110) (o := .cells #[.string ((rd_T52 l0 x11_1).f0), .string ((rd_T52 l0 x11_1).f1)] 52 (0, 0)) y5_ hb); have n1_ := Aside0.mk (below_step y10_ hb); clear BK110; clear HB; have BK110 := n0_; have HB := n1_; clear n0_ n1_; (try clear hb); (try clear hb2); (try clear hk); (try clear hi); have hcz25_0 : w24.cell? ⟨gb110, 0, none⟩ = some (.string ((rd_T52 l0 x11_1).f0)) := (blk_cell BK110.out 0).trans rfl; have hcz25_1 : w24.cell? ⟨gb110, 1, none⟩ = some (.string ((rd_T52 l0 x11_1).f1)) := (blk_cell BK110.out 1).trans rfl; have hfz25_0 := blk_frozen BK110.out 0; have hfz25_1 := blk_frozen BK110.out 1; have p112 : 0 ≤ ((ji9) : Int) := of_decide_eq_true y7_; have q112 : (ji9) < (l0.length : Int) := of_decide_eq_true y7_; obtain ⟨ad112, e112, hx112_0, hx112_1⟩ := at_T52 HR0.out (ji9) p112 q112; obtain rfl : ad109 = ad112 := (by injection e112); replace hx112_0 := (HB.out.cell (World.block_lt_of_cell? w _ hx112_0)).trans hx112_0; replace hx112_1 := (HB.out.cell (World.block_lt_of_cell? w _ hx112_1)).trans hx112_1; replace p112 := eq_true p112; replace q112 := eq_true q112)); try go_wp2_with (first | ((with_reducible refine gate_dst (N := 4) rfl ?_); refine box_event ?hg (N := 4) ?hd (cs := #[.string (⟨#[]⟩ : ByteArray), .string (⟨#[]⟩ : ByteArray)]) (t := 52) ?hr ?_; (case hd => rfl); (case hg => rfl); (case hr => first | (go_simp; done) | (go_simp; rfl)); intro gb110 hg w22 hbox hb; have n0_ := Aside0.mk (below_step y1_ hb); have n1_ := Aside0.mk (hbox); have n2_ := Aside0.mk ((y29_ : w.heap.size ≤ gb110)); have n3_ := Aside0.mk ((y29_ : w.heap.size ≤ gb110)); clear HB; have HB := n0_; have BK110 := n1_; have GW110 := n2_; have GE110 := n3_; clear n0_ n1_ n2_ n3_; clear hb hbox hg; have hcz23_0 : w22.cell? ⟨gb110, 0, none⟩ = some (.string (⟨#[]⟩ : ByteArray)) := (blk_cell BK110.out 0).trans rfl; have hcz23_1 : w22.cell? ⟨gb110, 1, none⟩ = some (.string (⟨#[]⟩ : ByteArray)) := (blk_cell BK110.out 1).trans rfl; have hfz23_0 := blk_frozen BK110.out 0; have hfz23_1 := blk_frozen BK110.out 1) | (go_at_call 51; (with_reducible refine (labels_wrong.calls ((rd_T52 l0 x11_1).f0) ((rd_T52 l0 x11_1).f1) false t111 _ ?side1 A6.out).mono ?_); (case side1 => exact ⟨Tab_below hT.out y10_⟩); rintro e w24 ⟨rfl, hb⟩; have n0_ := Aside0.mk (blk_below (g := gb110) (o := .cells #[.string ((rd_T52 l0 x11_1).f0), .string ((rd_T52 l0 x11_1).f1)] 52 (0, 0)) y5_ hb); have n1_ := Aside0.mk (below_step y10_ hb); clear BK110; clear HB; have BK110 := n0_; have HB := n1_; clear n0_ n1_; (try clear hb); (try clear hb2); (try clear hk); (try clear hi); have hcz25_0 : w24.cell? ⟨gb110, 0, none⟩ = some (.string ((rd_T52 l0 x11_1).f0)) := (blk_cell BK110.out 0).trans rfl; have hcz25_1 : w24.cell? ⟨gb110, 1, none⟩ = some (.string ((rd_T52 l0 x11_1).f1)) := (blk_cell BK110.out 1).trans rfl; have hfz25_0 := blk_frozen BK110.out 0; have hfz25_1 := blk_frozen BK110.out 1; have p112 : 0 ≤ ((ji9) : Int) := of_decide_eq_true y7_; have q112 : (ji9) < (l0.length : Int) := of_decide_eq_true y7_; obtain ⟨ad112, e112, hx112_0, hx112_1⟩ := at_T52 HR0.out (ji9) p112 q112; obtain rfl : ad109 = ad112 := (by injection e112); replace hx112_0 := (HB.out.cell (World.block_lt_of_cell? w _ hx112_0)).trans hx112_0; replace hx112_1 := (HB.out.cell (World.block_lt_of_cell? w _ hx112_1)).trans hx112_1; replace p112 := eq_true p112; replace q112 := eq_true q112)))
             go_roundg k1
             case measure => have := HK1.out; omega
             case rel => exact ⟨(wrap64 (x11_1 + 1)), y15_, H', ⟨by have := HK1.out; omega⟩, ⟨y10_⟩⟩
          ·rw [if_neg c11] at H
           exact absurd H (by simp)
         ·rw [if_neg c10] at H
          exact absurd H (by simp)
        ·rw [if_neg c8] at H
         have c8b0 : decide (0 < x11_1) = false := decide_eq_false c8
         clear c8
         have H' := Aside0.mk H
         clear H
         have p109 : 0 ≤ (x11_1 : Int) := of_decide_eq_true y7_
         have q109 : x11_1 < (l0.length : Int) := of_decide_eq_true y7_
         obtain ⟨ad109, e109, hx109_0, hx109_1⟩ := at_T52 HR0.out x11_1 p109 q109
         cases e109
         replace hx109_0 := (HB.out.cell (World.block_lt_of_cell? w _ hx109_0)).trans hx109_0
         replace hx109_1 := (HB.out.cell (World.block_lt_of_cell? w _ hx109_1)).trans hx109_1
         replace p109 := eq_true p109
         replace q109 := eq_true q109
         go_wp2_with (first | ((with_reducible refine gate_dst (N := 4) rfl ?_); refine box_event ?hg (N := 4) ?hd (cs := #[.string (⟨#[]⟩ : ByteArray), .string (⟨#[]⟩ : ByteArray)]) (t := 52) ?hr ?_; (case hd => rfl); (case hg => rfl); (case hr => first | (go_simp; done) | (go_simp; rfl)); intro gb110 hg w26 hbox hb; have n0_ := Aside0.mk (below_step y1_ hb); have n1_ := Aside0.mk (hbox); have n2_ := Aside0.mk ((y29_ : w.heap.size ≤ gb110)); have n3_ := Aside0.mk ((y29_ : w.heap.size ≤ gb110)); clear HB; have HB := n0_; have BK110 := n1_; have GW110 := n2_; have GE110 := n3_; clear n0_ n1_ n2_ n3_; clear hb hbox hg; have hcz27_0 : w26.cell? ⟨gb110, 0, none⟩ = some (.string (⟨#[]⟩ : ByteArray)) := (blk_cell BK110.out 0).trans rfl; have hcz27_1 : w26.cell? ⟨gb110, 1, none⟩ = some (.string (⟨#[]⟩ : ByteArray)) := (blk_cell BK110.out 1).trans rfl; have hfz27_0 := blk_frozen BK110.out 0; have hfz27_1 := blk_frozen BK110.out 1) | (go_at_call 51; (with_reducible refine (labels_wrong.calls ((rd_T52 l0 x11_1).f0) ((rd_T52 l0 x11_1).f1) false t111 _ ?side1 A6.out).mono ?_); (case side1 => exact ⟨Tab_below hT.out y10_⟩); rintro e w28 ⟨rfl, hb⟩; have n0_ := Aside0.mk (blk_below (g := gb110) (o := .cells #[.string ((rd_T52 l0 x11_1).f0), .string ((rd_T52 l0 x11_1).f1)] 52 (0, 0)) y5_ hb); have n1_ := Aside0.mk (below_step y10_ hb); clear BK110; clear HB; have BK110 := n0_; have HB := n1_; clear n0_ n1_; (try clear hb); (try clear hb2); (try clear hk); (try clear hi)))
         repeat (go_quiet (first | ((with_reducible refine gate_dst (N := 4) rfl ?_); refine box_event ?hg (N := 4) ?hd (cs := #[.string (⟨#[]⟩ : ByteArray), .string (⟨#[]⟩ : ByteArray)]) (t := 52) ?hr ?_; (case hd => rfl); (case hg => rfl); (case hr => first | (go_simp; done) | (go_simp; rfl)); intro gb110 hg w26 hbox hb; have n0_ := Aside0.mk (below_step y1_ hb); have n1_ := Aside0.mk (hbox); have n2_ := Aside0.mk ((y29_ : w.heap.size ≤ gb110)); have n3_ := Aside0.mk ((y29_ : w.heap.size ≤ gb110)); clear HB; have HB := n0_; have BK110 := n1_; have GW110 := n2_; have GE110 := n3_; clear n0_ n1_ n2_ n3_; clear hb hbox hg; have hcz27_0 : w26.cell? ⟨gb110, 0, none⟩ = some (.string (⟨#[]⟩ : ByteArray)) := (blk_cell BK110.out 0).trans rfl; have hcz27_1 : w26.cell? ⟨gb110, 1, none⟩ = some (.string (⟨#[]⟩ : ByteArray)) := (blk_cell BK110.out 1).trans rfl; have hfz27_0 := blk_frozen BK110.out 0; have hfz27_1 := blk_frozen BK110.out 1) | (go_at_call 51; (with_reducible refine (labels_wrong.calls ((rd_T52 l0 x11_1).f0) ((rd_T52 l0 x11_1).f1) false t111 _ ?side1 A6.out).mono ?_); (case side1 => exact ⟨Tab_below hT.out y10_⟩); rintro e w28 ⟨rfl, hb⟩; have n0_ := Aside0.mk (blk_below (g := gb110) (o := .cells #[.string ((rd_T52 l0 x11_1).f0), .string ((rd_T52 l0 x11_1).f1)] 52 (0, 0)) y5_ hb); have n1_ := Aside0.mk (below_step y10_ hb); clear BK110; clear HB; have BK110 := n0_; have HB := n1_; clear n0_ n1_; (try clear hb); (try clear hb2); (try clear hk); (try clear hi))); try go_wp2_with (first | ((with_reducible refine gate_dst (N := 4) rfl ?_); refine box_event ?hg (N := 4) ?hd (cs := #[.string (⟨#[]⟩ : ByteArray), .string (⟨#[]⟩ : ByteArray)]) (t := 52) ?hr ?_; (case hd => rfl); (case hg => rfl); (case hr => first | (go_simp; done) | (go_simp; rfl)); intro gb110 hg w26 hbox hb; have n0_ := Aside0.mk (below_step y1_ hb); have n1_ := Aside0.mk (hbox); have n2_ := Aside0.mk ((y29_ : w.heap.size ≤ gb110)); have n3_ := Aside0.mk ((y29_ : w.heap.size ≤ gb110)); clear HB; have HB := n0_; have BK110 := n1_; have GW110 := n2_; have GE110 := n3_; clear n0_ n1_ n2_ n3_; clear hb hbox hg; have hcz27_0 : w26.cell? ⟨gb110, 0, none⟩ = some (.string (⟨#[]⟩ : ByteArray)) := (blk_cell BK110.out 0).trans rfl; have hcz27_1 : w26.cell? ⟨gb110, 1, none⟩ = some (.string (⟨#[]⟩ : ByteArray)) := (blk_cell BK110.out 1).trans rfl; have hfz27_0 := blk_frozen BK110.out 0; have hfz27_1 := blk_frozen BK110.out 1) | (go_at_call 51; (with_reducible refine (labels_wrong.calls ((rd_T52 l0 x11_1).f0) ((rd_T52 l0 x11_1).f1) false t111 _ ?side1 A6.out).mono ?_); (case side1 => exact ⟨Tab_below hT.out y10_⟩); rintro e w28 ⟨rfl, hb⟩; have n0_ := Aside0.mk (blk_below (g := gb110) (o := .cells #[.string ((rd_T52 l0 x11_1).f0), .string ((rd_T52 l0 x11_1).f1)] 52 (0, 0)) y5_ hb); have n1_ := Aside0.mk (below_step y10_ hb); clear BK110; clear HB; have BK110 := n0_; have HB := n1_; clear n0_ n1_; (try clear hb); (try clear hb2); (try clear hk); (try clear hi))))
         go_roundg k1
         case measure => have := HK1.out; omega
         case rel => exact ⟨(wrap64 (x11_1 + 1)), y15_, H', ⟨by have := HK1.out; omega⟩, ⟨y10_⟩⟩
       ·rw [if_neg c7] at H
        have c7b0 : (t111 == 0) = false := beq_eq_false_iff_ne.mpr c7
        have c7b1 : (t111 != 0) = true := bne_iff_ne.mpr c7
        obtain rfl := Option.some.inj H
        have p109 : 0 ≤ (x11_1 : Int) := of_decide_eq_true y7_
        have q109 : x11_1 < (l0.length : Int) := of_decide_eq_true y7_
        obtain ⟨ad109, e109, hx109_0, hx109_1⟩ := at_T52 HR0.out x11_1 p109 q109
        cases e109
        replace hx109_0 := (HB.out.cell (World.block_lt_of_cell? w _ hx109_0)).trans hx109_0
        replace hx109_1 := (HB.out.cell (World.block_lt_of_cell? w _ hx109_1)).trans hx109_1
        replace p109 := eq_true p109
        replace q109 := eq_true q109
        go_wp2_with (first | ((with_reducible refine gate_dst (N := 4) rfl ?_); refine box_event ?hg (N := 4) ?hd (cs := #[.string (⟨#[]⟩ : ByteArray), .string (⟨#[]⟩ : ByteArray)]) (t := 52) ?hr ?_; (case hd => rfl); (case hg => rfl); (case hr => first | (go_simp; done) | (go_simp; rfl)); intro gb110 hg w29 hbox hb; have n0_ := Aside0.mk (below_step y1_ hb); have n1_ := Aside0.mk (hbox); have n2_ := Aside0.mk ((y29_ : w.heap.size ≤ gb110)); have n3_ := Aside0.mk ((y29_ : w.heap.size ≤ gb110)); clear HB; have HB := n0_; have BK110 := n1_; have GW110 := n2_; have GE110 := n3_; clear n0_ n1_ n2_ n3_; clear hb hbox hg; have hcz30_0 : w29.cell? ⟨gb110, 0, none⟩ = some (.string (⟨#[]⟩ : ByteArray)) := (blk_cell BK110.out 0).trans rfl; have hcz30_1 : w29.cell? ⟨gb110, 1, none⟩ = some (.string (⟨#[]⟩ : ByteArray)) := (blk_cell BK110.out 1).trans rfl; have hfz30_0 := blk_frozen BK110.out 0; have hfz30_1 := blk_frozen BK110.out 1) | (go_at_call 51; (with_reducible refine (labels_wrong.calls ((rd_T52 l0 x11_1).f0) ((rd_T52 l0 x11_1).f1) false t111 _ ?side1 A6.out).mono ?_); (case side1 => exact ⟨Tab_below hT.out y10_⟩); rintro e w31 ⟨rfl, hb⟩; have n0_ := Aside0.mk (blk_below (g := gb110) (o := .cells #[.string ((rd_T52 l0 x11_1).f0), .string ((rd_T52 l0 x11_1).f1)] 52 (0, 0)) y5_ hb); have n1_ := Aside0.mk (below_step y10_ hb); clear BK110; clear HB; have BK110 := n0_; have HB := n1_; clear n0_ n1_; (try clear hb); (try clear hb2); (try clear hk); (try clear hi)))
        repeat (go_quiet (first | ((with_reducible refine gate_dst (N := 4) rfl ?_); refine box_event ?hg (N := 4) ?hd (cs := #[.string (⟨#[]⟩ : ByteArray), .string (⟨#[]⟩ : ByteArray)]) (t := 52) ?hr ?_; (case hd => rfl); (case hg => rfl); (case hr => first | (go_simp; done) | (go_simp; rfl)); intro gb110 hg w29 hbox hb; have n0_ := Aside0.mk (below_step y1_ hb); have n1_ := Aside0.mk (hbox); have n2_ := Aside0.mk ((y29_ : w.heap.size ≤ gb110)); have n3_ := Aside0.mk ((y29_ : w.heap.size ≤ gb110)); clear HB; have HB := n0_; have BK110 := n1_; have GW110 := n2_; have GE110 := n3_; clear n0_ n1_ n2_ n3_; clear hb hbox hg; have hcz30_0 : w29.cell? ⟨gb110, 0, none⟩ = some (.string (⟨#[]⟩ : ByteArray)) := (blk_cell BK110.out 0).trans rfl; have hcz30_1 : w29.cell? ⟨gb110, 1, none⟩ = some (.string (⟨#[]⟩ : ByteArray)) := (blk_cell BK110.out 1).trans rfl; have hfz30_0 := blk_frozen BK110.out 0; have hfz30_1 := blk_frozen BK110.out 1) | (go_at_call 51; (with_reducible refine (labels_wrong.calls ((rd_T52 l0 x11_1).f0) ((rd_T52 l0 x11_1).f1) false t111 _ ?side1 A6.out).mono ?_); (case side1 => exact ⟨Tab_below hT.out y10_⟩); rintro e w31 ⟨rfl, hb⟩; have n0_ := Aside0.mk (blk_below (g := gb110) (o := .cells #[.string ((rd_T52 l0 x11_1).f0), .string ((rd_T52 l0 x11_1).f1)] 52 (0, 0)) y5_ hb); have n1_ := Aside0.mk (below_step y10_ hb); clear BK110; clear HB; have BK110 := n0_; have HB := n1_; clear n0_ n1_; (try clear hb); (try clear hb2); (try clear hk); (try clear hi))); try go_wp2_with (first | ((with_reducible refine gate_dst (N := 4) rfl ?_); refine box_event ?hg (N := 4) ?hd (cs := #[.string (⟨#[]⟩ : ByteArray), .string (⟨#[]⟩ : ByteArray)]) (t := 52) ?hr ?_; (case hd => rfl); (case hg => rfl); (case hr => first | (go_simp; done) | (go_simp; rfl)); intro gb110 hg w29 hbox hb; have n0_ := Aside0.mk (below_step y1_ hb); have n1_ := Aside0.mk (hbox); have n2_ := Aside0.mk ((y29_ : w.heap.size ≤ gb110)); have n3_ := Aside0.mk ((y29_ : w.heap.size ≤ gb110)); clear HB; have HB := n0_; have BK110 := n1_; have GW110 := n2_; have GE110 := n3_; clear n0_ n1_ n2_ n3_; clear hb hbox hg; have hcz30_0 : w29.cell? ⟨gb110, 0, none⟩ = some (.string (⟨#[]⟩ : ByteArray)) := (blk_cell BK110.out 0).trans rfl; have hcz30_1 : w29.cell? ⟨gb110, 1, none⟩ = some (.string (⟨#[]⟩ : ByteArray)) := (blk_cell BK110.out 1).trans rfl; have hfz30_0 := blk_frozen BK110.out 0; have hfz30_1 := blk_frozen BK110.out 1) | (go_at_call 51; (with_reducible refine (labels_wrong.calls ((rd_T52 l0 x11_1).f0) ((rd_T52 l0 x11_1).f1) false t111 _ ?side1 A6.out).mono ?_); (case side1 => exact ⟨Tab_below hT.out y10_⟩); rintro e w31 ⟨rfl, hb⟩; have n0_ := Aside0.mk (blk_below (g := gb110) (o := .cells #[.string ((rd_T52 l0 x11_1).f0), .string ((rd_T52 l0 x11_1).f1)] 52 (0, 0)) y5_ hb); have n1_ := Aside0.mk (below_step y10_ hb); clear BK110; clear HB; have BK110 := n0_; have HB := n1_; clear n0_ n1_; (try clear hb); (try clear hb2); (try clear hk); (try clear hi))))
        go_ret
        exact ⟨y8_, y10_⟩
      ·rw [if_neg c5] at H
       exact absurd H (by simp)
     ·rw [if_neg c4] at H
      exact absurd H (by simp)
    ·rw [if_neg c3] at H
     have c3b0 : decide (x11_1 < (l0.length : Int)) = false := decide_eq_false c3
     clear c3
     obtain rfl := Option.some.inj H
     go_wp2
     repeat (go_quiet (fail); try go_wp2)
     go_ret
     exact ⟨y8_, y1_⟩
def labels_text.f (k : Nat) (l0 : List Int) (a1 : Int) (a2 : Int) : Option (ByteArray × Int × Int) := if 0 ≤ a1 then (if a1 ≤ (l0.length : Int) then ((bits_Uvarint.f k (l0.drop (a1 : Int).toNat)).bind fun bt114 => (if bt114.2.2 = 0 then (if bt114.1 > (IntKind.u64.wrap (a2)) then (some ((⟨#[]⟩ : ByteArray), 0, 3)) else (if (wrap64 ((wrap64 (a1 + bt114.2.1)) + (wrap64 (bt114.1)))) > (l0.length : Int) then (some ((⟨#[]⟩ : ByteArray), 0, 6)) else (if 0 ≤ (wrap64 (a1 + bt114.2.1)) then (if (wrap64 (a1 + bt114.2.1)) ≤ (wrap64 ((wrap64 (a1 + bt114.2.1)) + (wrap64 (bt114.1)))) then (if (wrap64 ((wrap64 (a1 + bt114.2.1)) + (wrap64 (bt114.1)))) ≤ (l0.length : Int) then (some (strOfNums ((l0.take ((wrap64 ((wrap64 (a1 + bt114.2.1)) + (wrap64 (bt114.1)))) : Int).toNat).drop ((wrap64 (a1 + bt114.2.1)) : Int).toNat), wrap64 ((wrap64 (a1 + bt114.2.1)) + (wrap64 (bt114.1))), 0)) else (none)) else (none)) else (none)))) else (some ((⟨#[]⟩ : ByteArray), 0, bt114.2.2)))) else (none)) else (none)
theorem labels_text.mono : ∀ a0 a1 a2 k, LeO (labels_text.f k a0 a1 a2) (labels_text.f (k + 1) a0 a1 a2) := by
 intro a0 a1 a2 k
 unfold labels_text.f
 repeat' first
   | (with_reducible exact bits_Uvarint.mono _ _)
   | (with_reducible exact LeO.refl _)
   | (with_reducible exact LeO.none _)
   | (with_reducible refine LeO.ite ?_ ?_)
   | (with_reducible refine LeO.bind ?_ (fun _ => ?_))
   | exact bits_Uvarint.mono _ _
   | exact LeO.none _
   | refine LeO.ite ?_ ?_
   | refine LeO.bind ?_ (fun _ => ?_)
set_option maxHeartbeats 8000000 in
set_option maxRecDepth 100000 in
theorem labels_text.calls (k : Nat) (A0 : Option Addr) (c0 : Nat) (l0 : List Int) (a1 : Int) (a2 : Int) (r1 : ByteArray) (r2 : Int) (r3 : Int) (w : World) (hr0 : Kd.C (Kd.int .u8) w A0 l0.length l0) (hc0 : l0.length ≤ c0) (h : labels_text.f k l0 a1 a2 = some (r1, r2, r3)) :
  Calls Tryd.prog 54 #[.slice A0 l0.length c0, .int .i64 a1, .int .i64 a2] w fun e w' => e = .returned (.tuple #[.string r1, .int .i64 r2, .int .i64 r3]) ∧ Drawn0 w w' := by
 have HR0 := Aside0.mk hr0
 have HC0 := Aside0.mk hc0
 clear hr0 hc0
 have H : (if 0 ≤ a1 then (if a1 ≤ (l0.length : Int) then ((bits_Uvarint.f k (l0.drop (a1 : Int).toNat)).bind fun bt114 => (if bt114.2.2 = 0 then (if bt114.1 > (IntKind.u64.wrap (a2)) then (some ((⟨#[]⟩ : ByteArray), 0, 3)) else (if (wrap64 ((wrap64 (a1 + bt114.2.1)) + (wrap64 (bt114.1)))) > (l0.length : Int) then (some ((⟨#[]⟩ : ByteArray), 0, 6)) else (if 0 ≤ (wrap64 (a1 + bt114.2.1)) then (if (wrap64 (a1 + bt114.2.1)) ≤ (wrap64 ((wrap64 (a1 + bt114.2.1)) + (wrap64 (bt114.1)))) then (if (wrap64 ((wrap64 (a1 + bt114.2.1)) + (wrap64 (bt114.1)))) ≤ (l0.length : Int) then (some (strOfNums ((l0.take ((wrap64 ((wrap64 (a1 + bt114.2.1)) + (wrap64 (bt114.1)))) : Int).toNat).drop ((wrap64 (a1 + bt114.2.1)) : Int).toNat), wrap64 ((wrap64 (a1 + bt114.2.1)) + (wrap64 (bt114.1))), 0)) else (none)) else (none)) else (none)))) else (some ((⟨#[]⟩ : ByteArray), 0, bt114.2.2)))) else (none)) else (none)) = some (r1, r2, r3) := h
 clear h
 by_cases c4 : 0 ≤ a1
 ·rw [if_pos c4] at H
  have c4b0 := eq_true c4
  have c4b1 : decide (0 ≤ a1) = true := decide_eq_true c4
  clear c4
  by_cases c5 : a1 ≤ (l0.length : Int)
  ·rw [if_pos c5] at H
   have c5b0 := eq_true c5
   have c5b1 : decide (a1 ≤ (l0.length : Int)) = true := decide_eq_true c5
   clear c5
   replace H := Option.bind_eq_some_iff.mp H
   obtain ⟨⟨t114, t115, t116⟩, A60, H⟩ := H
   replace H : (if t116 = 0 then (if t114 > (IntKind.u64.wrap (a2)) then (some ((⟨#[]⟩ : ByteArray), 0, 3)) else (if (wrap64 ((wrap64 (a1 + t115)) + (wrap64 (t114)))) > (l0.length : Int) then (some ((⟨#[]⟩ : ByteArray), 0, 6)) else (if 0 ≤ (wrap64 (a1 + t115)) then (if (wrap64 (a1 + t115)) ≤ (wrap64 ((wrap64 (a1 + t115)) + (wrap64 (t114)))) then (if (wrap64 ((wrap64 (a1 + t115)) + (wrap64 (t114)))) ≤ (l0.length : Int) then (some (strOfNums ((l0.take ((wrap64 ((wrap64 (a1 + t115)) + (wrap64 (t114)))) : Int).toNat).drop ((wrap64 (a1 + t115)) : Int).toNat), wrap64 ((wrap64 (a1 + t115)) + (wrap64 (t114))), 0)) else (none)) else (none)) else (none)))) else (some ((⟨#[]⟩ : ByteArray), 0, t116))) = some (r1, r2, r3) := H
   have A6 := Aside0.mk A60
   clear A60
   by_cases c7 : t116 = 0
   ·rw [if_pos c7] at H
    have c7b0 : (t116 == 0) = true := beq_iff_eq.mpr c7
    have c7b1 : (t116 != 0) = false := bne_eq_false_iff_eq.mpr c7
    clear c7
    by_cases c8 : t114 > (IntKind.u64.wrap (a2))
    ·rw [if_pos c8] at H
     have c8b0 : decide ((IntKind.u64.wrap (a2)) < t114) = true := decide_eq_true c8
     clear c8
     simp only [Option.some.injEq, Prod.mk.injEq] at H
     obtain ⟨rfl, rfl, rfl⟩ := H
     obtain ⟨i09, hi09, _, hsz9, _⟩ := info_parts info5
     obtain ⟨A9, hcut9, hA9, hC9⟩ := print_drop_of (P := Tryd.prog) (Value.int .u8) 0 22 5 .i64 Tryd.underlying22 hi09 hsz9 A0 c0 l0 a1 (of_decide_eq_true y7_) (of_decide_eq_true y7_) HC0.out
     have HR113 := Aside0.mk (Kd.C_of_reads (h1 := fun _ => rfl) (hA9 _ (Kd.reads_of_C HR0.out)))
     have HC113 := Aside0.mk hC9
     clear hA9 hC9 hi09 hsz9
     go_enter Tryd.func54, Tryd.ntmps54
     go_wp2_with (first | ((with_reducible refine gate_callee (f := 38) rfl ?_); refine goesL_ (some 17) rfl rfl Tryd.func38 (by kernel_rfl) rfl #[.slice A9 (l0.drop (a1 : Int).toNat).length (c0 - a1.toNat)] rfl y58_ ?_; (with_reducible refine (bits_Uvarint.calls k _ _ (l0.drop (a1 : Int).toNat) t114 t115 t116 _ ?side1 ?side2 A6.out).mono ?_); (case side1 => repeat (first | exact HR113.out | (with_reducible refine Kd.C_alloc ?_ _) | (with_reducible refine Kd.C_drewN ?_ _) | (with_reducible refine Kd.C_drew ?_))); (case side2 => exact HC113.out); rintro e w' ⟨rfl, ⟨nd, rfl⟩⟩; refine ⟨_, rfl, ?_⟩))
     go_ret3
     exact ⟨y42_, y30_⟩
    ·rw [if_neg c8] at H
     have c8b0 : decide ((IntKind.u64.wrap (a2)) < t114) = false := decide_eq_false c8
     clear c8
     by_cases c10 : (wrap64 ((wrap64 (a1 + t115)) + (wrap64 (t114)))) > (l0.length : Int)
     ·rw [if_pos c10] at H
      have c10b0 : decide ((l0.length : Int) < (wrap64 ((wrap64 (a1 + t115)) + (wrap64 (t114))))) = true := decide_eq_true c10
      clear c10
      simp only [Option.some.injEq, Prod.mk.injEq] at H
      obtain ⟨rfl, rfl, rfl⟩ := H
      obtain ⟨i011, hi011, _, hsz11, _⟩ := info_parts info5
      obtain ⟨A11, hcut11, hA11, hC11⟩ := print_drop_of (P := Tryd.prog) (Value.int .u8) 0 22 5 .i64 Tryd.underlying22 hi011 hsz11 A0 c0 l0 a1 (of_decide_eq_true y7_) (of_decide_eq_true y7_) HC0.out
      have HR113 := Aside0.mk (Kd.C_of_reads (h1 := fun _ => rfl) (hA11 _ (Kd.reads_of_C HR0.out)))
      have HC113 := Aside0.mk hC11
      clear hA11 hC11 hi011 hsz11
      go_enter Tryd.func54, Tryd.ntmps54
      go_wp2_with (first | ((with_reducible refine gate_callee (f := 38) rfl ?_); refine goesL_ (some 17) rfl rfl Tryd.func38 (by kernel_rfl) rfl #[.slice A11 (l0.drop (a1 : Int).toNat).length (c0 - a1.toNat)] rfl y58_ ?_; (with_reducible refine (bits_Uvarint.calls k _ _ (l0.drop (a1 : Int).toNat) t114 t115 t116 _ ?side1 ?side2 A6.out).mono ?_); (case side1 => repeat (first | exact HR113.out | (with_reducible refine Kd.C_alloc ?_ _) | (with_reducible refine Kd.C_drewN ?_ _) | (with_reducible refine Kd.C_drew ?_))); (case side2 => exact HC113.out); rintro e w' ⟨rfl, ⟨nd, rfl⟩⟩; refine ⟨_, rfl, ?_⟩))
      go_ret3
      exact ⟨y42_, y30_⟩
     ·rw [if_neg c10] at H
      have c10b0 : decide ((l0.length : Int) < (wrap64 ((wrap64 (a1 + t115)) + (wrap64 (t114))))) = false := decide_eq_false c10
      clear c10
      obtain ⟨ji12, hji12⟩ : ∃ j_ : Int, (wrap64 (a1 + t115)) = j_ := ⟨_, rfl⟩
      replace H : (if 0 ≤ (ji12) then (if (ji12) ≤ (wrap64 ((ji12) + (wrap64 (t114)))) then (if (wrap64 ((ji12) + (wrap64 (t114)))) ≤ (l0.length : Int) then (some (strOfNums ((l0.take ((wrap64 ((ji12) + (wrap64 (t114)))) : Int).toNat).drop ((ji12) : Int).toNat), wrap64 ((ji12) + (wrap64 (t114))), 0)) else (none)) else (none)) else (none)) = some (r1, r2, r3) := by first | (rw [hji12] at H; exact H) | (simp only [hji12] at H ⊢; exact H)
      (try rw [hji12] at c10b0)
      (try rw [hji12] at A6)
      have hji12w : (IntKind.i64.wrap (a1 + t115)) = ji12 := (i64_w _).trans hji12
      by_cases c13 : 0 ≤ (ji12)
      ·rw [if_pos c13] at H
       have c13b0 := eq_true c13
       have c13b1 : decide (0 ≤ (ji12)) = true := decide_eq_true c13
       clear c13
       by_cases c14 : (ji12) ≤ (wrap64 ((ji12) + (wrap64 (t114))))
       ·rw [if_pos c14] at H
        have c14b0 := eq_true c14
        have c14b1 : decide ((ji12) ≤ (wrap64 ((ji12) + (wrap64 (t114))))) = true := decide_eq_true c14
        by_cases c15 : (wrap64 ((ji12) + (wrap64 (t114)))) ≤ (l0.length : Int)
        ·rw [if_pos c15] at H
         have c15b0 := eq_true c15
         have c15b1 : decide ((wrap64 ((ji12) + (wrap64 (t114)))) ≤ (l0.length : Int)) = true := decide_eq_true c15
         simp only [Option.some.injEq, Prod.mk.injEq] at H
         obtain ⟨rfl, rfl, rfl⟩ := H
         obtain ⟨i016, hi016, _, hsz16, _⟩ := info_parts info5
         obtain ⟨A16, hcut16, hA16, hC16⟩ := print_drop_of (P := Tryd.prog) (Value.int .u8) 0 22 5 .i64 Tryd.underlying22 hi016 hsz16 A0 c0 l0 a1 (of_decide_eq_true y7_) (of_decide_eq_true y7_) HC0.out
         have HR113 := Aside0.mk (Kd.C_of_reads (h1 := fun _ => rfl) (hA16 _ (Kd.reads_of_C HR0.out)))
         have HC113 := Aside0.mk hC16
         clear hA16 hC16 hi016 hsz16
         go_enter Tryd.func54, Tryd.ntmps54
         go_wp2_with (first | ((with_reducible refine gate_callee (f := 38) rfl ?_); refine goesL_ (some 17) rfl rfl Tryd.func38 (by kernel_rfl) rfl #[.slice A16 (l0.drop (a1 : Int).toNat).length (c0 - a1.toNat)] rfl y58_ ?_; (with_reducible refine (bits_Uvarint.calls k _ _ (l0.drop (a1 : Int).toNat) t114 t115 t116 _ ?side1 ?side2 A6.out).mono ?_); (case side1 => repeat (first | exact HR113.out | (with_reducible refine Kd.C_alloc ?_ _) | (with_reducible refine Kd.C_drewN ?_ _) | (with_reducible refine Kd.C_drew ?_))); (case side2 => exact HC113.out); rintro e w' ⟨rfl, ⟨nd, rfl⟩⟩; refine ⟨_, rfl, ?_⟩; obtain ⟨i017, hi017, _, hsz17, _⟩ := info_parts info5; obtain ⟨A17, hcut17, hA17, hC17⟩ := print_mid_of (P := Tryd.prog) (Value.int .u8) 0 22 5 .i64 .i64 Tryd.underlying22 hi017 hsz17 A0 c0 l0 (ji12) (wrap64 ((ji12) + (wrap64 (t114)))) (of_decide_eq_true y7_) (by first | omega | exact of_decide_eq_true y7_) (of_decide_eq_true y7_) HC0.out; have HR117 := Aside0.mk (Kd.C_of_reads (h1 := fun _ => rfl) (hA17 _ (Kd.reads_of_C HR0.out))); have HC117 := Aside0.mk hC17; clear hA17 hC17 hi017 hsz17; have hcv18 := Kd.C_string (P := Tryd.prog) (A := A17) (c := (c0 - (ji12).toNat)) Tryd.underlying22 Tryd.underlying5 Tryd.underlying9 HR117.out; have hcv18n := fun m_ : Nat => Kd.C_string (P := Tryd.prog) (A := A17) (c := (c0 - (ji12).toNat)) Tryd.underlying22 Tryd.underlying5 Tryd.underlying9 (Kd.C_drewN (HR117.out) m_); (try simp only [List.length_drop, List.length_take] at hcv18n); (try rw [Nat.min_eq_left (by omega)] at hcv18n)))
         go_ret3
         exact ⟨by first | rfl | (simp; done) | ((simp only [← hji12] <;> (first | rfl | simp)); done) | (congr 1; first | assumption | (symm; assumption)) | (simp [*]; done), y30_⟩
        ·rw [if_neg c15] at H
         exact absurd H (by simp)
       ·rw [if_neg c14] at H
        exact absurd H (by simp)
      ·rw [if_neg c13] at H
       exact absurd H (by simp)
   ·rw [if_neg c7] at H
    have c7b0 : (t116 == 0) = false := beq_eq_false_iff_ne.mpr c7
    have c7b1 : (t116 != 0) = true := bne_iff_ne.mpr c7
    simp only [Option.some.injEq, Prod.mk.injEq] at H
    obtain ⟨rfl, rfl, rfl⟩ := H
    obtain ⟨i019, hi019, _, hsz19, _⟩ := info_parts info5
    obtain ⟨A19, hcut19, hA19, hC19⟩ := print_drop_of (P := Tryd.prog) (Value.int .u8) 0 22 5 .i64 Tryd.underlying22 hi019 hsz19 A0 c0 l0 a1 (of_decide_eq_true y7_) (of_decide_eq_true y7_) HC0.out
    have HR113 := Aside0.mk (Kd.C_of_reads (h1 := fun _ => rfl) (hA19 _ (Kd.reads_of_C HR0.out)))
    have HC113 := Aside0.mk hC19
    clear hA19 hC19 hi019 hsz19
    go_enter Tryd.func54, Tryd.ntmps54
    go_wp2_with (first | ((with_reducible refine gate_callee (f := 38) rfl ?_); refine goesL_ (some 17) rfl rfl Tryd.func38 (by kernel_rfl) rfl #[.slice A19 (l0.drop (a1 : Int).toNat).length (c0 - a1.toNat)] rfl y58_ ?_; (with_reducible refine (bits_Uvarint.calls k _ _ (l0.drop (a1 : Int).toNat) t114 t115 t116 _ ?side1 ?side2 A6.out).mono ?_); (case side1 => repeat (first | exact HR113.out | (with_reducible refine Kd.C_alloc ?_ _) | (with_reducible refine Kd.C_drewN ?_ _) | (with_reducible refine Kd.C_drew ?_))); (case side2 => exact HC113.out); rintro e w' ⟨rfl, ⟨nd, rfl⟩⟩; refine ⟨_, rfl, ?_⟩))
    go_ret3
    exact ⟨y42_, y30_⟩
  ·rw [if_neg c5] at H
   exact absurd H (by simp)
 ·rw [if_neg c4] at H
  exact absurd H (by simp)
end Go.Proofs.YtdckhaejhfkkbaaDoor.PRT
