import Derived.Test.YtkkomfomjpcbfaaDoorSTokenVerifiesH14
import Derived.Laws.RangeAny
import Derived.Lib.OthersKept
import Derived.Test.YtkkomfomjpcbfaaDoorSTokenVerifiesE1
import Derived.Test.YtkkomfomjpcbfaaDoorSTokenVerifiesWGuard
import Derived.Test.YtkkomfomjpcbfaaDoorSTokenVerifiesTM
import Derived.Test.YtkkomfomjpcbfaaDoorSTokenVerifiesTT
import Derived.Test.YtkkomfomjpcbfaaDoorSTokenVerifiesY
set_option linter.unusedVariables false
set_option linter.unusedSimpArgs false
section
namespace Go.Proofs.YtkkomfomjpcbfaaDoor.PTS
open Go.RowKit Go.Proofs.YtkkomfomjpcbfaaDoorW.PrintWords Go.Proofs.YtkkomfomjpcbfaaDoorW.PrintLast Go.Proofs.YtkkomfomjpcbfaaDoorW.PrintMore
attribute [local go_sem] kQ kO kW kV kG kF kP kN
mutual
def bits_Uvarint.l0 : Nat → List Int → Int → Int → Option (Int × Int × Int)
 | 0, _, _, _ => none
 | k + 1, x0, x5, x6 => if x6 < 10 then (if x6 ≥ (x0.length : Int) then (some (0, 0, 6)) else (if x6 = 9 then (if 0 ≤ x6 then (if x6 < (x0.length : Int) then (if (rd x0 x6) > 1 then (some (0, 0, 9)) else (bits_Uvarint.j1 k x0 x5 x6)) else (none)) else (none)) else (bits_Uvarint.j1 k x0 x5 x6))) else (some (0, 0, 9))
def bits_Uvarint.j1 : Nat → List Int → Int → Int → Option (Int × Int × Int)
 | 0, _, _, _ => none
 | k + 1, x0, x5, x6 => if 0 ≤ x6 then (if x6 < (x0.length : Int) then (if 0 ≤ (IntKind.u64.wrap (wrap64 (7 * x6))) then (if (rd x0 x6) < 128 then (if x6 > 0 then (if (rd x0 x6) = 0 then (some (0, 0, 8)) else (some (Go.bits .or .u64 x5 (shl .u64 (IntKind.u64.wrap (Go.bits .and .u8 (rd x0 x6) 127)) (IntKind.u64.wrap (wrap64 (7 * x6)))), wrap64 (x6 + 1), 0))) else (some (Go.bits .or .u64 x5 (shl .u64 (IntKind.u64.wrap (Go.bits .and .u8 (rd x0 x6) 127)) (IntKind.u64.wrap (wrap64 (7 * x6)))), wrap64 (x6 + 1), 0))) else (bits_Uvarint.l0 k x0 (Go.bits .or .u64 x5 (shl .u64 (IntKind.u64.wrap (Go.bits .and .u8 (rd x0 x6) 127)) (IntKind.u64.wrap (wrap64 (7 * x6))))) (wrap64 (x6 + 1)))) else (none)) else (none)) else (none)
end
def bits_Uvarint.f (k : Nat) (l0 : List Int) : Option (Int × Int × Int) := bits_Uvarint.l0 k l0 0 0
theorem bits_Uvarint.mono_l : ∀ k, (∀ y0 y1 y2, LeO (bits_Uvarint.l0 k y0 y1 y2) (bits_Uvarint.l0 (k + 1) y0 y1 y2)) ∧ (∀ y0 y1 y2, LeO (bits_Uvarint.j1 k y0 y1 y2) (bits_Uvarint.j1 (k + 1) y0 y1 y2))
 | 0 => ⟨fun _ _ _ r h => by simp [bits_Uvarint.l0] at h, fun _ _ _ r h => by simp [bits_Uvarint.j1] at h⟩
 | k + 1 => by
  obtain ⟨ih0, ih1⟩ := bits_Uvarint.mono_l k; refine ⟨?_, ?_⟩
  ·intro y0 y1 y2
   unfold bits_Uvarint.l0
   repeat' first
   | (with_reducible exact ih0 _ _ _)
   | (with_reducible exact ih1 _ _ _)
   | (with_reducible exact LeO.refl _)
   | (with_reducible exact LeO.none _)
   | (with_reducible refine LeO.ite ?_ ?_)
   | (with_reducible refine LeO.bind ?_ (fun _ => ?_))
   | exact ih0 _ _ _
   | exact ih1 _ _ _
   | exact LeO.none _
   | refine LeO.ite ?_ ?_
   | refine LeO.bind ?_ (fun _ => ?_)
  ·intro y0 y1 y2
   unfold bits_Uvarint.j1
   repeat' first
   | (with_reducible exact ih0 _ _ _)
   | (with_reducible exact ih1 _ _ _)
   | (with_reducible exact LeO.refl _)
   | (with_reducible exact LeO.none _)
   | (with_reducible refine LeO.ite ?_ ?_)
   | (with_reducible refine LeO.bind ?_ (fun _ => ?_))
   | exact ih0 _ _ _
   | exact ih1 _ _ _
   | exact LeO.none _
   | refine LeO.ite ?_ ?_
   | refine LeO.bind ?_ (fun _ => ?_)
theorem bits_Uvarint.mono : ∀ a0 k, LeO (bits_Uvarint.f k a0) (bits_Uvarint.f (k + 1) a0) := by
 intro a0 k; obtain ⟨ih0, ih1⟩ := bits_Uvarint.mono_l k
 unfold bits_Uvarint.f
 repeat' first
   | (with_reducible exact ih0 _ _ _)
   | (with_reducible exact ih1 _ _ _)
   | (with_reducible exact LeO.refl _)
   | (with_reducible exact LeO.none _)
   | (with_reducible refine LeO.ite ?_ ?_)
   | (with_reducible refine LeO.bind ?_ (fun _ => ?_))
   | exact ih0 _ _ _
   | exact ih1 _ _ _
   | exact LeO.none _
   | refine LeO.ite ?_ ?_
   | refine LeO.bind ?_ (fun _ => ?_)
set_option maxHeartbeats 8000000 in
set_option maxRecDepth 100000 in
theorem bits_Uvarint.calls (k : Nat) (A0 : Option Addr) (c0 : Nat) (l0 : List Int) (r1 : Int) (r2 : Int) (r3 : Int) (w : World) (hr0 : Kd.C (Kd.int .u8) w A0 l0.length l0) (hc0 : l0.length ≤ c0) (h : bits_Uvarint.f k l0 = some (r1, r2, r3)) :
  Calls Tryd.prog 57 #[.slice A0 l0.length c0] w fun e w' => e = .returned (.tuple #[.int .u64 r1, .int .i64 r2, .int .i64 r3]) ∧ Drawn0 w w' := by
 have HR0 := Aside0.mk hr0; have HC0 := Aside0.mk hc0; clear hr0 hc0; have H : (bits_Uvarint.l0 k l0 0 0) = some (r1, r2, r3) := h; clear h; have H' := Aside0.mk H; clear H; go_enter Tryd.func57, Tryd.ntmps57
 go_wp2
 go_step3
 go_wp2
 go_step3
 go_wp2
 go_loopg [5, 6] k (fun kq v5 v6 w' => ∃ (x5_1 : Int) (x6_1 : Int), v5 = .int .u64 x5_1 ∧ v6 = .int .i64 x6_1 ∧ Aside0 (bits_Uvarint.l0 kq l0 x5_1 x6_1 = some (r1, r2, r3)) ∧ Aside0 (kq ≤ k) ∧ Drawn0 w w')
 case atStart => exact ⟨(0), (0), y3_, y3_, H', ⟨Nat.le_refl _⟩, y6_⟩
 case round =>
  clear H'; obtain ⟨x5_1, x6_1, rfl, rfl, HA, HK1, ⟨m1, rfl⟩⟩ := hrel
  cases gk with
  | zero => exact absurd HA.out (by simp [bits_Uvarint.l0])
  | succ k1 =>
   have H := HA.out; clear HA; simp only [bits_Uvarint.l0] at H
   by_cases c2 : x6_1 < 10
   ·rw [if_pos c2] at H; have c2b0 : decide (x6_1 < 10) = true := decide_eq_true c2; clear c2; have HC3 := Aside0.mk H; clear H
    go_upto_block 2 with (fail)
    go_cut [] (fun wc => ∃ (kq : Nat), Aside0 (bits_Uvarint.j1 kq l0 x5_1 x6_1 = some (r1, r2, r3)) ∧ Aside0 (kq ≤ k1) ∧ Drawn0 w wc)
    case first =>
     have H := HC3.out; clear HC3
     by_cases c4 : x6_1 ≥ (l0.length : Int)
     ·rw [if_pos c4] at H; have c4b0 : decide ((l0.length : Int) ≤ x6_1) = true := decide_eq_true c4; clear c4; (first | rw [c4b0] | (simp only [kT, i32_w]; rw [c4b0]) | skip); simp only [Option.some.injEq, Prod.mk.injEq] at H; obtain ⟨rfl, rfl, rfl⟩ := H
      go_wp2
      (try rw [Exit.noGoto_ret])
      go_ret3
      exact ⟨y24_, y6_⟩
     ·rw [if_neg c4] at H; have c4b0 : decide ((l0.length : Int) ≤ x6_1) = false := decide_eq_false c4; clear c4; (first | rw [c4b0] | (simp only [kT, i32_w]; rw [c4b0]) | skip)
      by_cases c5 : x6_1 = 9
      ·rw [if_pos c5] at H; have c5b0 : (x6_1 == 9) = true := beq_iff_eq.mpr c5; have c5b1 : (x6_1 != 9) = false := bne_eq_false_iff_eq.mpr c5; clear c5
       by_cases c6 : 0 ≤ x6_1
       ·rw [if_pos c6] at H; have c6b0 : decide (0 ≤ x6_1) = true := decide_eq_true c6; clear c6
        by_cases c7 : x6_1 < (l0.length : Int)
        ·rw [if_pos c7] at H; have c7b0 : decide (x6_1 < (l0.length : Int)) = true := decide_eq_true c7; clear c7
         by_cases c8 : (rd l0 x6_1) > 1
         ·rw [if_pos c8] at H; have c8b0 : decide (1 < (rd l0 x6_1)) = true := decide_eq_true c8; clear c8; simp only [Option.some.injEq, Prod.mk.injEq] at H; obtain ⟨rfl, rfl, rfl⟩ := H; have p146 : 0 ≤ (x6_1 : Int) := of_decide_eq_true y4_; have q146 : x6_1 < (l0.length : Int) := of_decide_eq_true y4_; obtain ⟨ad146, e146, hx146_0⟩ := Kd.at_int HR0.out x6_1 p146 q146
          cases e146
          replace p146 := eq_true p146; replace q146 := eq_true q146
          go_wp2
          (try rw [Exit.noGoto_ret])
          go_ret3
          exact ⟨y24_, y6_⟩
         ·rw [if_neg c8] at H; have c8b0 : decide (1 < (rd l0 x6_1)) = false := decide_eq_false c8; clear c8; have H' := Aside0.mk H; clear H; have p146 : 0 ≤ (x6_1 : Int) := of_decide_eq_true y4_; have q146 : x6_1 < (l0.length : Int) := of_decide_eq_true y4_; obtain ⟨ad146, e146, hx146_0⟩ := Kd.at_int HR0.out x6_1 p146 q146
          cases e146
          replace p146 := eq_true p146; replace q146 := eq_true q146
          go_wp2
          go_meet
          case rel => exact ⟨_, H', ⟨y123_⟩, y6_⟩
        ·rw [if_neg c7] at H
         exact absurd H (by simp)
       ·rw [if_neg c6] at H
        exact absurd H (by simp)
      ·rw [if_neg c5] at H; have c5b0 : (x6_1 == 9) = false := beq_eq_false_iff_ne.mpr c5; have c5b1 : (x6_1 != 9) = true := bne_iff_ne.mpr c5; have H' := Aside0.mk H; clear H
       go_wp2
       go_meet
       case rel => exact ⟨_, H', ⟨y123_⟩, y6_⟩
    case rest =>
     clear HC3
     try clear p1
     try clear q1
     try clear hx1
     try clear c2
     try clear c2b0
     try clear p2
     try clear c4
     try clear c4b0
     try clear c5
     try clear c5b0
     try clear c5b1
     try clear c6
     try clear c6b0
     try clear c7
     try clear c7b0
     try clear c8
     try clear c8b0
     try clear hx146_0
     try clear p146
     try clear q146
     obtain ⟨kq, HA, HJ2, ⟨mc2, rfl⟩⟩ := hcut
     cases kq with
     | zero => exact absurd HA.out (by simp [bits_Uvarint.j1])
     | succ kj2 =>
      have H := HA.out; clear HA; simp only [bits_Uvarint.j1] at H
      by_cases c9 : 0 ≤ x6_1
      ·rw [if_pos c9] at H; have c9b0 : decide (0 ≤ x6_1) = true := decide_eq_true c9; clear c9
       by_cases c10 : x6_1 < (l0.length : Int)
       ·rw [if_pos c10] at H; have c10b0 : decide (x6_1 < (l0.length : Int)) = true := decide_eq_true c10; clear c10; obtain ⟨ji11, hji11⟩ : ∃ j_ : Int, (IntKind.u64.wrap (wrap64 (7 * x6_1))) = j_ := ⟨_, rfl⟩
        replace H : (if 0 ≤ (ji11) then (if (rd l0 x6_1) < 128 then (if x6_1 > 0 then (if (rd l0 x6_1) = 0 then (some (0, 0, 8)) else (some (Go.bits .or .u64 x5_1 (shl .u64 (IntKind.u64.wrap (Go.bits .and .u8 (rd l0 x6_1) 127)) (ji11)), wrap64 (x6_1 + 1), 0))) else (some (Go.bits .or .u64 x5_1 (shl .u64 (IntKind.u64.wrap (Go.bits .and .u8 (rd l0 x6_1) 127)) (ji11)), wrap64 (x6_1 + 1), 0))) else (bits_Uvarint.l0 kj2 l0 (Go.bits .or .u64 x5_1 (shl .u64 (IntKind.u64.wrap (Go.bits .and .u8 (rd l0 x6_1) 127)) (ji11))) (wrap64 (x6_1 + 1)))) else (none)) = some (r1, r2, r3) := by first | (rw [hji11] at H; exact H) | (simp only [hji11] at H ⊢; exact H)
        by_cases c12 : 0 ≤ (ji11)
        ·rw [if_pos c12] at H; have c12b0 := eq_true c12; have c12b1 : decide (0 ≤ (ji11)) = true := decide_eq_true c12; clear c12; obtain ⟨ji13, hji13⟩ : ∃ j_ : Int, (shl .u64 (IntKind.u64.wrap (Go.bits .and .u8 (rd l0 x6_1) 127)) (ji11)) = j_ := ⟨_, rfl⟩
         replace H : (if (rd l0 x6_1) < 128 then (if x6_1 > 0 then (if (rd l0 x6_1) = 0 then (some (0, 0, 8)) else (some (Go.bits .or .u64 x5_1 (ji13), wrap64 (x6_1 + 1), 0))) else (some (Go.bits .or .u64 x5_1 (ji13), wrap64 (x6_1 + 1), 0))) else (bits_Uvarint.l0 kj2 l0 (Go.bits .or .u64 x5_1 (ji13)) (wrap64 (x6_1 + 1)))) = some (r1, r2, r3) := by first | (rw [hji13] at H; exact H) | (simp only [hji13] at H ⊢; exact H)
         have hji13_ : (IntKind.u64.wrap ((IntKind.u64.wrap (Go.bits .and .u8 (rd l0 x6_1) 127)) * 2 ^ min (ji11).toNat 64)) = ji13 := hji13; have hji13z : (ji11) ≤ 64 → (IntKind.u64.wrap ((IntKind.u64.wrap (Go.bits .and .u8 (rd l0 x6_1) 127)) * 2 ^ (ji11).toNat)) = ji13 := shl_small hji13
         by_cases c14 : (rd l0 x6_1) < 128
         ·rw [if_pos c14] at H; have c14b0 : decide ((rd l0 x6_1) < 128) = true := decide_eq_true c14; clear c14
          by_cases c15 : x6_1 > 0
          ·rw [if_pos c15] at H; have c15b0 : decide (0 < x6_1) = true := decide_eq_true c15; clear c15
           by_cases c16 : (rd l0 x6_1) = 0
           ·rw [if_pos c16] at H; have c16b0 : ((rd l0 x6_1) == 0) = true := beq_iff_eq.mpr c16; have c16b1 : ((rd l0 x6_1) != 0) = false := bne_eq_false_iff_eq.mpr c16; clear c16; simp only [Option.some.injEq, Prod.mk.injEq] at H; obtain ⟨rfl, rfl, rfl⟩ := H; have p147 : 0 ≤ (x6_1 : Int) := of_decide_eq_true y4_; have q147 : x6_1 < (l0.length : Int) := of_decide_eq_true y4_; obtain ⟨ad147, e147, hx147_0⟩ := Kd.at_int HR0.out x6_1 p147 q147
            cases e147
            replace p147 := eq_true p147; replace q147 := eq_true q147; have p148 : 0 ≤ (x6_1 : Int) := of_decide_eq_true y4_; have q148 : x6_1 < (l0.length : Int) := of_decide_eq_true y4_; obtain ⟨ad148, e148, hx148_0⟩ := Kd.at_int HR0.out x6_1 p148 q148; obtain rfl : ad147 = ad148 := (by injection e148); replace p148 := eq_true p148; replace q148 := eq_true q148; have p149 : 0 ≤ (x6_1 : Int) := of_decide_eq_true y4_; have q149 : x6_1 < (l0.length : Int) := of_decide_eq_true y4_; obtain ⟨ad149, e149, hx149_0⟩ := Kd.at_int HR0.out x6_1 p149 q149; obtain rfl : ad147 = ad149 := (by injection e149); replace p149 := eq_true p149; replace q149 := eq_true q149
            go_wp2
            (try rw [Exit.noGoto_ret])
            go_ret3
            exact ⟨y68_, y6_⟩
           ·rw [if_neg c16] at H; have c16b0 : ((rd l0 x6_1) == 0) = false := beq_eq_false_iff_ne.mpr c16; have c16b1 : ((rd l0 x6_1) != 0) = true := bne_iff_ne.mpr c16; simp only [Option.some.injEq, Prod.mk.injEq] at H; obtain ⟨rfl, rfl, rfl⟩ := H; have p147 : 0 ≤ (x6_1 : Int) := of_decide_eq_true y4_; have q147 : x6_1 < (l0.length : Int) := of_decide_eq_true y4_; obtain ⟨ad147, e147, hx147_0⟩ := Kd.at_int HR0.out x6_1 p147 q147
            cases e147
            replace p147 := eq_true p147; replace q147 := eq_true q147; have p148 : 0 ≤ (x6_1 : Int) := of_decide_eq_true y4_; have q148 : x6_1 < (l0.length : Int) := of_decide_eq_true y4_; obtain ⟨ad148, e148, hx148_0⟩ := Kd.at_int HR0.out x6_1 p148 q148; obtain rfl : ad147 = ad148 := (by injection e148); replace p148 := eq_true p148; replace q148 := eq_true q148; have p149 : 0 ≤ (x6_1 : Int) := of_decide_eq_true y4_; have q149 : x6_1 < (l0.length : Int) := of_decide_eq_true y4_; obtain ⟨ad149, e149, hx149_0⟩ := Kd.at_int HR0.out x6_1 p149 q149; obtain rfl : ad147 = ad149 := (by injection e149); replace p149 := eq_true p149; replace q149 := eq_true q149
            go_wp2
            (try rw [Exit.noGoto_ret])
            go_ret3
            exact ⟨y68_, y6_⟩
          ·rw [if_neg c15] at H; have c15b0 : decide (0 < x6_1) = false := decide_eq_false c15; clear c15; simp only [Option.some.injEq, Prod.mk.injEq] at H; obtain ⟨rfl, rfl, rfl⟩ := H; have p147 : 0 ≤ (x6_1 : Int) := of_decide_eq_true y4_; have q147 : x6_1 < (l0.length : Int) := of_decide_eq_true y4_; obtain ⟨ad147, e147, hx147_0⟩ := Kd.at_int HR0.out x6_1 p147 q147
           cases e147
           replace p147 := eq_true p147; replace q147 := eq_true q147; have p148 : 0 ≤ (x6_1 : Int) := of_decide_eq_true y4_; have q148 : x6_1 < (l0.length : Int) := of_decide_eq_true y4_; obtain ⟨ad148, e148, hx148_0⟩ := Kd.at_int HR0.out x6_1 p148 q148; obtain rfl : ad147 = ad148 := (by injection e148); replace p148 := eq_true p148; replace q148 := eq_true q148
           go_wp2
           (try rw [Exit.noGoto_ret])
           go_ret3
           exact ⟨y68_, y6_⟩
         ·rw [if_neg c14] at H; have c14b0 : decide ((rd l0 x6_1) < 128) = false := decide_eq_false c14; clear c14; have H' := Aside0.mk H; clear H; have p147 : 0 ≤ (x6_1 : Int) := of_decide_eq_true y4_; have q147 : x6_1 < (l0.length : Int) := of_decide_eq_true y4_; obtain ⟨ad147, e147, hx147_0⟩ := Kd.at_int HR0.out x6_1 p147 q147
          cases e147
          replace p147 := eq_true p147; replace q147 := eq_true q147; have p148 : 0 ≤ (x6_1 : Int) := of_decide_eq_true y4_; have q148 : x6_1 < (l0.length : Int) := of_decide_eq_true y4_; obtain ⟨ad148, e148, hx148_0⟩ := Kd.at_int HR0.out x6_1 p148 q148; obtain rfl : ad147 = ad148 := (by injection e148); replace p148 := eq_true p148; replace q148 := eq_true q148
          go_wp2
          go_roundg kj2
          case measure => have := HK1.out; have := HJ2.out; omega
          case rel => exact ⟨(Go.bits .or .u64 x5_1 (ji13)), (wrap64 (x6_1 + 1)), y92_, y3_, H', ⟨by have := HK1.out; have := HJ2.out; omega⟩, y6_⟩
        ·rw [if_neg c12] at H
         exact absurd H (by simp)
       ·rw [if_neg c10] at H
        exact absurd H (by simp)
      ·rw [if_neg c9] at H
       exact absurd H (by simp)
   ·rw [if_neg c2] at H; have c2b0 : decide (x6_1 < 10) = false := decide_eq_false c2; clear c2; simp only [Option.some.injEq, Prod.mk.injEq] at H; obtain ⟨rfl, rfl, rfl⟩ := H
    go_wp2
    (try rw [Exit.noGoto_ret])
    go_ret3
    exact ⟨y24_, y6_⟩
def bits_Zag.f (a0 : Int) : Option (Int) := some (Go.bits .xor .i64 (wrap64 (a0 / 2)) (wrap64 (-(wrap64 (Go.bits .and .u64 a0 1)))))
set_option maxHeartbeats 8000000 in
set_option maxRecDepth 100000 in
theorem bits_Zag.calls (a0 : Int) (r : Int) (w : World) (h : bits_Zag.f a0 = some r) :
  Calls Tryd.prog 71 #[.int .u64 a0] w fun e w' => e = .returned (.int .i64 r) ∧ Drawn0 w w' := by
 have H : (some (Go.bits .xor .i64 (wrap64 (a0 / 2)) (wrap64 (-(wrap64 (Go.bits .and .u64 a0 1)))))) = some r := h; clear h; obtain rfl := Option.some.inj H; go_enter Tryd.func71, Tryd.ntmps71
 go_wp2
 go_ret
 exact ⟨y24_, y6_⟩
def bits_Varint.f (k : Nat) (l0 : List Int) : Option (Int × Int × Int) := (bits_Uvarint.f k l0).bind fun bt150 => ((bits_Zag.f bt150.1).bind fun t153 => (some (t153, bt150.2.1, bt150.2.2)))
theorem bits_Varint.mono : ∀ a0 k, LeO (bits_Varint.f k a0) (bits_Varint.f (k + 1) a0) := by
 intro a0 k
 unfold bits_Varint.f
 repeat' first
   | (with_reducible exact bits_Uvarint.mono _ _)
   | (with_reducible exact LeO.refl _)
   | (with_reducible exact LeO.none _)
   | (with_reducible refine LeO.ite ?_ ?_)
   | (with_reducible refine LeO.bind ?_ (fun _ => ?_))
   | exact bits_Uvarint.mono _ _
   | exact LeO.none _
   | refine LeO.ite ?_ ?_
   | refine LeO.bind ?_ (fun _ => ?_)
set_option maxHeartbeats 8000000 in
set_option maxRecDepth 100000 in
theorem bits_Varint.calls (k : Nat) (A0 : Option Addr) (c0 : Nat) (l0 : List Int) (r1 : Int) (r2 : Int) (r3 : Int) (w : World) (hr0 : Kd.C (Kd.int .u8) w A0 l0.length l0) (hc0 : l0.length ≤ c0) (h : bits_Varint.f k l0 = some (r1, r2, r3)) :
  Calls Tryd.prog 58 #[.slice A0 l0.length c0] w fun e w' => e = .returned (.tuple #[.int .i64 r1, .int .i64 r2, .int .i64 r3]) ∧ Drawn0 w w' := by
 have HR0 := Aside0.mk hr0; have HC0 := Aside0.mk hc0; clear hr0 hc0; have H : ((bits_Uvarint.f k l0).bind fun bt150 => ((bits_Zag.f bt150.1).bind fun t153 => (some (t153, bt150.2.1, bt150.2.2)))) = some (r1, r2, r3) := h; clear h; replace H := Option.bind_eq_some_iff.mp H; obtain ⟨⟨t150, t151, t152⟩, A20, H⟩ := H; replace H : ((bits_Zag.f t150).bind fun t153 => (some (t153, t151, t152))) = some (r1, r2, r3) := H; have A2 := Aside0.mk A20; clear A20; replace H := Option.bind_eq_some_iff.mp H; obtain ⟨t153, A30, H⟩ := H; have A3 := Aside0.mk A30; clear A30; simp only [Option.some.injEq, Prod.mk.injEq] at H; obtain ⟨rfl, rfl, rfl⟩ := H; go_enter Tryd.func58, Tryd.ntmps58
 go_wp2_with (first | ((with_reducible refine kj (f := 57) rfl ?_); refine kw (some 10) rfl rfl Tryd.func57 (by kernel_rfl) rfl #[.slice A0 l0.length c0] rfl y2_ ?_; (with_reducible refine (bits_Uvarint.calls k _ _ l0 t150 t151 t152 _ ?side1 ?side2 A2.out).mono ?_); (case side1 => repeat (first | exact HR0.out | (with_reducible refine Kd.C_alloc ?_ _) | (with_reducible refine Kd.C_drewN ?_ _) | (with_reducible refine Kd.C_drew ?_))); (case side2 => exact HC0.out); rintro e w' ⟨rfl, ⟨nd, rfl⟩⟩; refine ⟨_, rfl, ?_⟩) | ((with_reducible refine kj (f := 71) rfl ?_); refine kw (some 15) rfl rfl Tryd.func71 (by kernel_rfl) rfl #[.int .u64 t150] rfl y2_ ?_; (with_reducible refine (bits_Zag.calls t150 t153 _ A3.out).mono ?_); rintro e w' ⟨rfl, ⟨nd, rfl⟩⟩; refine ⟨_, rfl, ?_⟩))
 go_ret3
 exact ⟨y24_, y6_⟩
end Go.Proofs.YtkkomfomjpcbfaaDoor.PTS
end
section
namespace Go.Proofs.YtkkomfomjpcbfaaDoor.PTS
open Go.RowKit Go.Proofs.YtkkomfomjpcbfaaDoorW.PrintWords Go.Proofs.YtkkomfomjpcbfaaDoorW.PrintLast Go.Proofs.YtkkomfomjpcbfaaDoorW.PrintMore
attribute [local go_sem] kQ kO kW kV kG kF kP kN
theorem eqA26 (d : Nat) (w : World) (x0 y0 : ByteArray) (x1 y1 : Int) (x2 y2 : Int) (x3 y3 : Int) (x4 y4 : Int) :
  (Op.equalIn (d + 2) 26 (.agg #[.string x0, .int .i64 x1, .int .i64 x2, .int .u8 x3, .int .u64 x4]) (.agg #[.string y0, .int .i64 y1, .int .i64 y2, .int .u8 y3, .int .u64 y4])).run Tryd.prog w = .ok (x0.toList == y0.toList && (x1 == y1 && (x2 == y2 && (x3 == y3 && (x4 == y4))))) w := by
 refine eqA_of Tryd.underlying26 (by kernel_rfl) ?_; refine eqf_cons (by rfl) (by go_simp; rfl) (by go_simp; rfl) (by go_simp) ?_; refine eqf_cons (by rfl) (by go_simp; rfl) (by go_simp; rfl) (by go_simp) ?_; refine eqf_cons (by rfl) (by go_simp; rfl) (by go_simp; rfl) (by go_simp) ?_; refine eqf_cons (by rfl) (by go_simp; rfl) (by go_simp; rfl) (by go_simp) ?_
 exact eqf_last (by rfl) (by go_simp; rfl) (by go_simp; rfl) (by go_simp)
end Go.Proofs.YtkkomfomjpcbfaaDoor.PTS
end
