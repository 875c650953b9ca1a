import Derived.Test.YtdhmabofncbohaaDoorCLabelsBackH19
import Derived.Test.YtdhmabofncbohaaDoorCLabelsBackPLCx2
import Derived.Test.YtdhmabofncbohaaDoorCLabelsBackPLCx3
import Derived.Test.YtdhmabofncbohaaDoorCLabelsBackPLCx8
namespace Go.Proofs.YtdhmabofncbohaaDoor.PLC
open Go.RowKit Go.Proofs.YtdhmabofncbohaaDoorW.PrintWords Go.Proofs.YtdhmabofncbohaaDoorW.PrintLast Go.Proofs.YtdhmabofncbohaaDoorW.PrintMore
attribute [local go_sem] max2_int min2_int max_two min_two max_three min_three max_four min_four
set_option linter.unusedVariables false
set_option linter.unusedSimpArgs false
def labels_bare.l0 : Nat → ByteArray → Option (ByteArray)
 | 0, _ => none
 | k + 1, x0 => if x0.toList = ([] : List UInt8) then (some x0) else (if 0 < (x0.size : Int) then (if (bt x0 0) = 32 then (if 1 ≤ (x0.size : Int) then (labels_bare.l0 k (x0.extract 1 x0.size)) else (none)) else (some x0)) else (none))
def labels_bare.f (k : Nat) (a0 : ByteArray) : Option (ByteArray) := labels_bare.l0 k a0
theorem labels_bare.mono_l : ∀ k, (∀ y0, LeO (labels_bare.l0 k y0) (labels_bare.l0 (k + 1) y0))
 | 0 => fun _ r h => by simp [labels_bare.l0] at h
 | k + 1 => by
  have ih0 := labels_bare.mono_l k
  ·intro y0
   unfold labels_bare.l0
   repeat' first
   | (with_reducible exact ih0 _)
   | (with_reducible exact LeO.refl _)
   | (with_reducible exact LeO.none _)
   | (with_reducible refine LeO.ite ?_ ?_)
   | (with_reducible refine LeO.bind ?_ (fun _ => ?_))
   | exact ih0 _
   | exact LeO.none _
   | refine LeO.ite ?_ ?_
   | refine LeO.bind ?_ (fun _ => ?_)
theorem labels_bare.mono : ∀ a0 k, LeO (labels_bare.f k a0) (labels_bare.f (k + 1) a0) := by
 intro a0 k
 have ih0 := labels_bare.mono_l k
 unfold labels_bare.f
 repeat' first
   | (with_reducible exact ih0 _)
   | (with_reducible exact LeO.refl _)
   | (with_reducible exact LeO.none _)
   | (with_reducible refine LeO.ite ?_ ?_)
   | (with_reducible refine LeO.bind ?_ (fun _ => ?_))
   | exact ih0 _
   | exact LeO.none _
   | refine LeO.ite ?_ ?_
   | refine LeO.bind ?_ (fun _ => ?_)
set_option maxHeartbeats 8000000 in
set_option maxRecDepth 100000 in
theorem labels_bare.calls (k : Nat) (a0 : ByteArray) (r : ByteArray) (w : World) (h : labels_bare.f k a0 = some r) :
  Calls Tryd.prog 59 #[.string a0] w fun e w' => e = .returned (.string r) ∧ Drawn0 w w' := by
 have H : (labels_bare.l0 k a0) = some r := h
 clear h
 have H' := Aside0.mk H
 clear H
 go_enter Tryd.func59, Tryd.ntmps59
 go_wp2
 go_loopg [0] k (fun kq v0 w' => ∃ (x0_1 : ByteArray), v0 = .string x0_1 ∧ Aside0 (labels_bare.l0 kq x0_1 = some r) ∧ Aside0 (kq ≤ k) ∧ Drawn0 w w')
 case atStart => exact ⟨(a0), y6_, H', ⟨Nat.le_refl _⟩, y8_⟩
 case round =>
  clear H'
  obtain ⟨x0_1, rfl, HA, HK1, ⟨m1, rfl⟩⟩ := hrel
  cases gk with
  | zero => exact absurd HA.out (by simp [labels_bare.l0])
  | succ k1 =>
   have H := HA.out
   clear HA
   simp only [labels_bare.l0] at H
   by_cases c2 : x0_1.toList = ([] : List UInt8)
   ·rw [if_pos c2] at H
    have c2b0 : (x0_1.toList == ([] : List UInt8)) = true := beq_iff_eq.mpr c2
    have c2b1 : (x0_1.toList != ([] : List UInt8)) = false := bne_eq_false_iff_eq.mpr c2
    clear c2
    obtain rfl := Option.some.inj H
    go_wp2
    go_ret
    exact ⟨y13_, y8_⟩
   ·rw [if_neg c2] at H
    have c2b0 : (x0_1.toList == ([] : List UInt8)) = false := beq_eq_false_iff_ne.mpr c2
    have c2b1 : (x0_1.toList != ([] : List UInt8)) = true := bne_iff_ne.mpr c2
    by_cases c3 : 0 < (x0_1.size : Int)
    ·rw [if_pos c3] at H
     have c3b0 : decide (0 < (x0_1.size : Int)) = true := decide_eq_true c3
     have c3b1 : decide (0 < x0_1.size) = true := decide_eq_true (by omega)
     clear c3
     by_cases c5 : (bt x0_1 0) = 32
     ·rw [if_pos c5] at H
      have c5b0 : ((bt x0_1 0) == 32) = true := beq_iff_eq.mpr c5
      have c5b1 : ((bt x0_1 0) != 32) = false := bne_eq_false_iff_eq.mpr c5
      clear c5
      by_cases c6 : 1 ≤ (x0_1.size : Int)
      ·rw [if_pos c6] at H
       have c6b0 := eq_true c6
       have c6b1 : decide (1 ≤ (x0_1.size : Int)) = true := decide_eq_true c6
       clear c6
       have H' := Aside0.mk H
       clear H
       have p4 : 0 ≤ (0 : Int) := (by omega)
       have q4 : 0 < x0_1.size := (by have : (0 : Int) < (x0_1.size : Int) := of_decide_eq_true y3_; omega)
       have hx4 : ∀ h : 0 < x0_1.size, ((x0_1[0]'h).toNat : Int) = bt x0_1 0 := bt_at x0_1 0
       clear p4
       have qi4 : (0 < (x0_1.size : Int)) = True := eq_true (of_decide_eq_true y3_)
       replace q4 := eq_true q4
       go_wp2
       go_roundg k1
       case measure => have := HK1.out; omega
       case rel => exact ⟨(x0_1.extract 1 x0_1.size), y6_, H', ⟨y53_⟩, y8_⟩
      ·rw [if_neg c6] at H
       exact absurd H (by simp)
     ·rw [if_neg c5] at H
      have c5b0 : ((bt x0_1 0) == 32) = false := beq_eq_false_iff_ne.mpr c5
      have c5b1 : ((bt x0_1 0) != 32) = true := bne_iff_ne.mpr c5
      obtain rfl := Option.some.inj H
      have p4 : 0 ≤ (0 : Int) := (by omega)
      have q4 : 0 < x0_1.size := (by have : (0 : Int) < (x0_1.size : Int) := of_decide_eq_true y3_; omega)
      have hx4 : ∀ h : 0 < x0_1.size, ((x0_1[0]'h).toNat : Int) = bt x0_1 0 := bt_at x0_1 0
      clear p4
      have qi4 : (0 < (x0_1.size : Int)) = True := eq_true (of_decide_eq_true y3_)
      replace q4 := eq_true q4
      go_wp2
      go_ret
      exact ⟨y13_, y8_⟩
    ·rw [if_neg c3] at H
     exact absurd H (by simp)
def labels_starts.f (a0 : ByteArray) (a1 : Int) : Option (Bool) := if a0.toList = ([] : List UInt8) then (some false) else (if 0 < (a0.size : Int) then (some ((bt a0 0) == a1)) else (none))
set_option maxHeartbeats 8000000 in
set_option maxRecDepth 100000 in
theorem labels_starts.calls (a0 : ByteArray) (a1 : Int) (r : Bool) (w : World) (h : labels_starts.f a0 a1 = some r) :
  Calls Tryd.prog 60 #[.string a0, .int .u8 a1] w fun e w' => e = .returned (.bool r) ∧ Drawn0 w w' := by
 have H : (if a0.toList = ([] : List UInt8) then (some false) else (if 0 < (a0.size : Int) then (some ((bt a0 0) == a1)) else (none))) = some r := h
 clear h
 by_cases c3 : a0.toList = ([] : List UInt8)
 ·rw [if_pos c3] at H
  have c3b0 : (a0.toList == ([] : List UInt8)) = true := beq_iff_eq.mpr c3
  have c3b1 : (a0.toList != ([] : List UInt8)) = false := bne_eq_false_iff_eq.mpr c3
  clear c3
  obtain rfl := Option.some.inj H
  go_enter Tryd.func60, Tryd.ntmps60
  go_wp2
  go_ret
  exact ⟨y13_, y8_⟩
 ·rw [if_neg c3] at H
  have c3b0 : (a0.toList == ([] : List UInt8)) = false := beq_eq_false_iff_ne.mpr c3
  have c3b1 : (a0.toList != ([] : List UInt8)) = true := bne_iff_ne.mpr c3
  by_cases c4 : 0 < (a0.size : Int)
  ·rw [if_pos c4] at H
   have c4b0 : decide (0 < (a0.size : Int)) = true := decide_eq_true c4
   have c4b1 : decide (0 < a0.size) = true := decide_eq_true (by omega)
   clear c4
   obtain rfl := Option.some.inj H
   have p5 : 0 ≤ (0 : Int) := (by omega)
   have q5 : 0 < a0.size := (by have : (0 : Int) < (a0.size : Int) := of_decide_eq_true y3_; omega)
   have hx5 : ∀ h : 0 < a0.size, ((a0[0]'h).toNat : Int) = bt a0 0 := bt_at a0 0
   clear p5
   have qi5 : (0 < (a0.size : Int)) = True := eq_true (of_decide_eq_true y3_)
   replace q5 := eq_true q5
   go_enter Tryd.func60, Tryd.ntmps60
   go_wp2
   go_ret
   exact ⟨y13_, y8_⟩
  ·rw [if_neg c4] at H
   exact absurd H (by simp)
def labels_letter.f (a0 : Int) : Option (Bool × Bool) := if a0 ≥ 97 then (if a0 ≤ 122 then (some (true, true)) else (if a0 ≥ 65 then (if a0 ≤ 90 then (some (true, true)) else (if a0 = 95 then (some (true, (a0 == 95))) else (if a0 ≥ 48 then (some (decide (a0 ≤ 57), (a0 == 95))) else (some (false, (a0 == 95)))))) else (if a0 = 95 then (some (true, (a0 == 95))) else (if a0 ≥ 48 then (some (decide (a0 ≤ 57), (a0 == 95))) else (some (false, (a0 == 95))))))) else (if a0 ≥ 65 then (if a0 ≤ 90 then (some (true, true)) else (if a0 = 95 then (some (true, (a0 == 95))) else (if a0 ≥ 48 then (some (decide (a0 ≤ 57), (a0 == 95))) else (some (false, (a0 == 95)))))) else (if a0 = 95 then (some (true, (a0 == 95))) else (if a0 ≥ 48 then (some (decide (a0 ≤ 57), (a0 == 95))) else (some (false, (a0 == 95))))))
set_option maxHeartbeats 8000000 in
set_option maxRecDepth 100000 in
theorem labels_letter.calls (a0 : Int) (r1 : Bool) (r2 : Bool) (w : World) (h : labels_letter.f a0 = some (r1, r2)) :
  Calls Tryd.prog 55 #[.int .i32 a0] w fun e w' => e = .returned (.tuple #[.bool r1, .bool r2]) ∧ Drawn0 w w' := by
 have H : (if a0 ≥ 97 then (if a0 ≤ 122 then (some (true, true)) else (if a0 ≥ 65 then (if a0 ≤ 90 then (some (true, true)) else (if a0 = 95 then (some (true, (a0 == 95))) else (if a0 ≥ 48 then (some (decide (a0 ≤ 57), (a0 == 95))) else (some (false, (a0 == 95)))))) else (if a0 = 95 then (some (true, (a0 == 95))) else (if a0 ≥ 48 then (some (decide (a0 ≤ 57), (a0 == 95))) else (some (false, (a0 == 95))))))) else (if a0 ≥ 65 then (if a0 ≤ 90 then (some (true, true)) else (if a0 = 95 then (some (true, (a0 == 95))) else (if a0 ≥ 48 then (some (decide (a0 ≤ 57), (a0 == 95))) else (some (false, (a0 == 95)))))) else (if a0 = 95 then (some (true, (a0 == 95))) else (if a0 ≥ 48 then (some (decide (a0 ≤ 57), (a0 == 95))) else (some (false, (a0 == 95))))))) = some (r1, r2) := h
 clear h
 by_cases c2 : a0 ≥ 97
 ·rw [if_pos c2] at H
  have c2b0 : decide (97 ≤ a0) = true := decide_eq_true c2
  clear c2
  by_cases c3 : a0 ≤ 122
  ·rw [if_pos c3] at H
   have c3b0 : decide (a0 ≤ 122) = true := decide_eq_true c3
   clear c3
   simp only [Option.some.injEq, Prod.mk.injEq] at H
   obtain ⟨rfl, rfl⟩ := H
   go_enter Tryd.func55, Tryd.ntmps55
   go_wp2
   go_ret2
   exact ⟨y13_, y8_⟩
  ·rw [if_neg c3] at H
   have c3b0 : decide (a0 ≤ 122) = false := decide_eq_false c3
   clear c3
   by_cases c4 : a0 ≥ 65
   ·rw [if_pos c4] at H
    have c4b0 : decide (65 ≤ a0) = true := decide_eq_true c4
    clear c4
    by_cases c5 : a0 ≤ 90
    ·rw [if_pos c5] at H
     have c5b0 : decide (a0 ≤ 90) = true := decide_eq_true c5
     clear c5
     simp only [Option.some.injEq, Prod.mk.injEq] at H
     obtain ⟨rfl, rfl⟩ := H
     go_enter Tryd.func55, Tryd.ntmps55
     go_wp2
     go_ret2
     exact ⟨y13_, y8_⟩
    ·rw [if_neg c5] at H
     have c5b0 : decide (a0 ≤ 90) = false := decide_eq_false c5
     clear c5
     by_cases c6 : a0 = 95
     ·rw [if_pos c6] at H
      have c6b0 : (a0 == 95) = true := beq_iff_eq.mpr c6
      have c6b1 : (a0 != 95) = false := bne_eq_false_iff_eq.mpr c6
      clear c6
      simp only [Option.some.injEq, Prod.mk.injEq] at H
      obtain ⟨rfl, rfl⟩ := H
      go_enter Tryd.func55, Tryd.ntmps55
      go_wp2
      go_ret2
      exact ⟨y13_, y8_⟩
     ·rw [if_neg c6] at H
      have c6b0 : (a0 == 95) = false := beq_eq_false_iff_ne.mpr c6
      have c6b1 : (a0 != 95) = true := bne_iff_ne.mpr c6
      by_cases c7 : a0 ≥ 48
      ·rw [if_pos c7] at H
       have c7b0 : decide (48 ≤ a0) = true := decide_eq_true c7
       clear c7
       simp only [Option.some.injEq, Prod.mk.injEq] at H
       obtain ⟨rfl, rfl⟩ := H
       go_enter Tryd.func55, Tryd.ntmps55
       go_wp2
       go_ret2
       exact ⟨y13_, y8_⟩
      ·rw [if_neg c7] at H
       have c7b0 : decide (48 ≤ a0) = false := decide_eq_false c7
       clear c7
       simp only [Option.some.injEq, Prod.mk.injEq] at H
       obtain ⟨rfl, rfl⟩ := H
       go_enter Tryd.func55, Tryd.ntmps55
       go_wp2
       go_ret2
       exact ⟨y13_, y8_⟩
   ·rw [if_neg c4] at H
    have c4b0 : decide (65 ≤ a0) = false := decide_eq_false c4
    clear c4
    by_cases c8 : a0 = 95
    ·rw [if_pos c8] at H
     have c8b0 : (a0 == 95) = true := beq_iff_eq.mpr c8
     have c8b1 : (a0 != 95) = false := bne_eq_false_iff_eq.mpr c8
     clear c8
     simp only [Option.some.injEq, Prod.mk.injEq] at H
     obtain ⟨rfl, rfl⟩ := H
     go_enter Tryd.func55, Tryd.ntmps55
     go_wp2
     go_ret2
     exact ⟨y13_, y8_⟩
    ·rw [if_neg c8] at H
     have c8b0 : (a0 == 95) = false := beq_eq_false_iff_ne.mpr c8
     have c8b1 : (a0 != 95) = true := bne_iff_ne.mpr c8
     by_cases c9 : a0 ≥ 48
     ·rw [if_pos c9] at H
      have c9b0 : decide (48 ≤ a0) = true := decide_eq_true c9
      clear c9
      simp only [Option.some.injEq, Prod.mk.injEq] at H
      obtain ⟨rfl, rfl⟩ := H
      go_enter Tryd.func55, Tryd.ntmps55
      go_wp2
      go_ret2
      exact ⟨y13_, y8_⟩
     ·rw [if_neg c9] at H
      have c9b0 : decide (48 ≤ a0) = false := decide_eq_false c9
      clear c9
      simp only [Option.some.injEq, Prod.mk.injEq] at H
      obtain ⟨rfl, rfl⟩ := H
      go_enter Tryd.func55, Tryd.ntmps55
      go_wp2
      go_ret2
      exact ⟨y13_, y8_⟩
 ·rw [if_neg c2] at H
  have c2b0 : decide (97 ≤ a0) = false := decide_eq_false c2
  clear c2
  by_cases c10 : a0 ≥ 65
  ·rw [if_pos c10] at H
   have c10b0 : decide (65 ≤ a0) = true := decide_eq_true c10
   clear c10
   by_cases c11 : a0 ≤ 90
   ·rw [if_pos c11] at H
    have c11b0 : decide (a0 ≤ 90) = true := decide_eq_true c11
    clear c11
    simp only [Option.some.injEq, Prod.mk.injEq] at H
    obtain ⟨rfl, rfl⟩ := H
    go_enter Tryd.func55, Tryd.ntmps55
    go_wp2
    go_ret2
    exact ⟨y13_, y8_⟩
   ·rw [if_neg c11] at H
    have c11b0 : decide (a0 ≤ 90) = false := decide_eq_false c11
    clear c11
    by_cases c12 : a0 = 95
    ·rw [if_pos c12] at H
     have c12b0 : (a0 == 95) = true := beq_iff_eq.mpr c12
     have c12b1 : (a0 != 95) = false := bne_eq_false_iff_eq.mpr c12
     clear c12
     simp only [Option.some.injEq, Prod.mk.injEq] at H
     obtain ⟨rfl, rfl⟩ := H
     go_enter Tryd.func55, Tryd.ntmps55
     go_wp2
     go_ret2
     exact ⟨y13_, y8_⟩
    ·rw [if_neg c12] at H
     have c12b0 : (a0 == 95) = false := beq_eq_false_iff_ne.mpr c12
     have c12b1 : (a0 != 95) = true := bne_iff_ne.mpr c12
     by_cases c13 : a0 ≥ 48
     ·rw [if_pos c13] at H
      have c13b0 : decide (48 ≤ a0) = true := decide_eq_true c13
      clear c13
      simp only [Option.some.injEq, Prod.mk.injEq] at H
      obtain ⟨rfl, rfl⟩ := H
      go_enter Tryd.func55, Tryd.ntmps55
      go_wp2
      go_ret2
      exact ⟨y13_, y8_⟩
     ·rw [if_neg c13] at H
      have c13b0 : decide (48 ≤ a0) = false := decide_eq_false c13
      clear c13
      simp only [Option.some.injEq, Prod.mk.injEq] at H
      obtain ⟨rfl, rfl⟩ := H
      go_enter Tryd.func55, Tryd.ntmps55
      go_wp2
      go_ret2
      exact ⟨y13_, y8_⟩
  ·rw [if_neg c10] at H
   have c10b0 : decide (65 ≤ a0) = false := decide_eq_false c10
   clear c10
   by_cases c14 : a0 = 95
   ·rw [if_pos c14] at H
    have c14b0 : (a0 == 95) = true := beq_iff_eq.mpr c14
    have c14b1 : (a0 != 95) = false := bne_eq_false_iff_eq.mpr c14
    clear c14
    simp only [Option.some.injEq, Prod.mk.injEq] at H
    obtain ⟨rfl, rfl⟩ := H
    go_enter Tryd.func55, Tryd.ntmps55
    go_wp2
    go_ret2
    exact ⟨y13_, y8_⟩
   ·rw [if_neg c14] at H
    have c14b0 : (a0 == 95) = false := beq_eq_false_iff_ne.mpr c14
    have c14b1 : (a0 != 95) = true := bne_iff_ne.mpr c14
    by_cases c15 : a0 ≥ 48
    ·rw [if_pos c15] at H
     have c15b0 : decide (48 ≤ a0) = true := decide_eq_true c15
     clear c15
     simp only [Option.some.injEq, Prod.mk.injEq] at H
     obtain ⟨rfl, rfl⟩ := H
     go_enter Tryd.func55, Tryd.ntmps55
     go_wp2
     go_ret2
     exact ⟨y13_, y8_⟩
    ·rw [if_neg c15] at H
     have c15b0 : decide (48 ≤ a0) = false := decide_eq_false c15
     clear c15
     simp only [Option.some.injEq, Prod.mk.injEq] at H
     obtain ⟨rfl, rfl⟩ := H
     go_enter Tryd.func55, Tryd.ntmps55
     go_wp2
     go_ret2
     exact ⟨y13_, y8_⟩
def labels_word.l0 : Nat → ByteArray → Int → Int → Option (ByteArray × ByteArray)
 | 0, _, _, _ => none
 | k + 1, x0, x8, x9 => if x9 < x8 then (if 0 ≤ x9 then (if x9 < (x0.size : Int) then ((labels_letter.f (wrap32 (bt x0 x9))).bind fun bt156 => (if bt156.1 = true then (labels_word.l0 k x0 x8 (wrap64 (x9 + 1))) else (if x9 ≤ (x0.size : Int) then (some (x0.extract 0 (x9 : Int).toNat, x0.extract (x9 : Int).toNat x0.size)) else (none)))) else (none)) else (none)) else (some (x0, (⟨#[]⟩ : ByteArray)))
def labels_word.f (k : Nat) (a0 : ByteArray) : Option (ByteArray × ByteArray) := labels_word.l0 k a0 (a0.size : Int) 0
theorem labels_word.mono_l : ∀ k, (∀ y0 y1 y2, LeO (labels_word.l0 k y0 y1 y2) (labels_word.l0 (k + 1) y0 y1 y2))
 | 0 => fun _ _ _ r h => by simp [labels_word.l0] at h
 | k + 1 => by
  have ih0 := labels_word.mono_l k
  ·intro y0 y1 y2
   unfold labels_word.l0
   repeat' first
   | (with_reducible exact ih0 _ _ _)
   | (with_reducible exact LeO.refl _)
   | (with_reducible exact LeO.none _)
   | (with_reducible refine LeO.ite ?_ ?_)
   | (with_reducible refine LeO.bind ?_ (fun _ => ?_))
   | exact ih0 _ _ _
   | exact LeO.none _
   | refine LeO.ite ?_ ?_
   | refine LeO.bind ?_ (fun _ => ?_)
theorem labels_word.mono : ∀ a0 k, LeO (labels_word.f k a0) (labels_word.f (k + 1) a0) := by
 intro a0 k
 have ih0 := labels_word.mono_l k
 unfold labels_word.f
 repeat' first
   | (with_reducible exact ih0 _ _ _)
   | (with_reducible exact LeO.refl _)
   | (with_reducible exact LeO.none _)
   | (with_reducible refine LeO.ite ?_ ?_)
   | (with_reducible refine LeO.bind ?_ (fun _ => ?_))
   | exact ih0 _ _ _
   | exact LeO.none _
   | refine LeO.ite ?_ ?_
   | refine LeO.bind ?_ (fun _ => ?_)
set_option maxHeartbeats 8000000 in
set_option maxRecDepth 100000 in
theorem labels_word.calls (k : Nat) (a0 : ByteArray) (r1 : ByteArray) (r2 : ByteArray) (w : World) (h : labels_word.f k a0 = some (r1, r2)) :
  Calls Tryd.prog 61 #[.string a0] w fun e w' => e = .returned (.tuple #[.string r1, .string r2]) ∧ Drawn0 w w' := by
 have H : (labels_word.l0 k a0 (a0.size : Int) 0) = some (r1, r2) := h
 clear h
 have H' := Aside0.mk H
 clear H
 go_enter Tryd.func61, Tryd.ntmps61
 go_wp2
 repeat (go_quiet (fail); try go_wp2)
 go_loopg [9] k (fun kq v9 w' => ∃ (x9_1 : Int), v9 = .int .i64 x9_1 ∧ Aside0 (labels_word.l0 kq a0 (a0.size : Int) x9_1 = some (r1, r2)) ∧ Aside0 (kq ≤ k) ∧ Drawn0 w w')
 case atStart => exact ⟨(0), y6_, H', ⟨Nat.le_refl _⟩, y8_⟩
 case round =>
  clear H'
  obtain ⟨x9_1, rfl, HA, HK1, ⟨m1, rfl⟩⟩ := hrel
  cases gk with
  | zero => exact absurd HA.out (by simp [labels_word.l0])
  | succ k1 =>
   have H := HA.out
   clear HA
   simp only [labels_word.l0] at H
   by_cases c2 : x9_1 < (a0.size : Int)
   ·rw [if_pos c2] at H
    have c2b0 : decide (x9_1 < (a0.size : Int)) = true := decide_eq_true c2
    clear c2
    by_cases c3 : 0 ≤ x9_1
    ·rw [if_pos c3] at H
     have c3b0 : decide (0 ≤ x9_1) = true := decide_eq_true c3
     clear c3
     by_cases c4 : x9_1 < (a0.size : Int)
     ·rw [if_pos c4] at H
      have c4b0 : decide (x9_1 < (a0.size : Int)) = true := decide_eq_true c4
      clear c4
      replace H := Option.bind_eq_some_iff.mp H
      obtain ⟨⟨t156, t157⟩, A60, H⟩ := H
      replace H : (if t156 = true then (labels_word.l0 k1 a0 (a0.size : Int) (wrap64 (x9_1 + 1))) else (if x9_1 ≤ (a0.size : Int) then (some (a0.extract 0 (x9_1 : Int).toNat, a0.extract (x9_1 : Int).toNat a0.size)) else (none))) = some (r1, r2) := H
      have A6 := Aside0.mk A60
      clear A60
      by_cases c7 : t156 = true
      ·subst c7
       have H1 : (labels_word.l0 k1 a0 (a0.size : Int) (wrap64 (x9_1 + 1))) = some (r1, r2) := by rw [if_pos rfl] at H; exact H
       clear H
       have H := H1
       clear H1
       have H' := Aside0.mk H
       clear H
       have p5 : 0 ≤ (x9_1 : Int) := of_decide_eq_true y3_
       have q5 : x9_1 < (a0.size : Int) := of_decide_eq_true y3_
       have hx5 := bt_at a0 x9_1
       replace p5 := eq_true p5
       replace q5 := eq_true q5
       go_wp2_with (first | (go_at_call 55; (with_reducible refine (labels_letter.calls (wrap32 (bt a0 x9_1)) true t157 _ A6.out).mono ?_); rintro e w' ⟨rfl, ⟨nd, rfl⟩⟩; (try first | exact ⟨rfl, _, World.drewN_drewN _ _ _⟩ | exact ⟨rfl, _, Eq.trans (World.drewN_drewN _ _ _) (congrArg (World.drewN _) (Nat.add_assoc _ _ _))⟩)))
       repeat (go_quiet (first | (go_at_call 55; (with_reducible refine (labels_letter.calls (wrap32 (bt a0 x9_1)) true t157 _ A6.out).mono ?_); rintro e w' ⟨rfl, ⟨nd, rfl⟩⟩; (try first | exact ⟨rfl, _, World.drewN_drewN _ _ _⟩ | exact ⟨rfl, _, Eq.trans (World.drewN_drewN _ _ _) (congrArg (World.drewN _) (Nat.add_assoc _ _ _))⟩))); try go_wp2_with (first | (go_at_call 55; (with_reducible refine (labels_letter.calls (wrap32 (bt a0 x9_1)) true t157 _ A6.out).mono ?_); rintro e w' ⟨rfl, ⟨nd, rfl⟩⟩; (try first | exact ⟨rfl, _, World.drewN_drewN _ _ _⟩ | exact ⟨rfl, _, Eq.trans (World.drewN_drewN _ _ _) (congrArg (World.drewN _) (Nat.add_assoc _ _ _))⟩))))
       go_roundg k1
       case measure => have := HK1.out; omega
       case rel => exact ⟨(wrap64 (x9_1 + 1)), y6_, H', ⟨y53_⟩, y8_⟩
      ·replace c7 := Bool.eq_false_iff.mpr c7
       subst c7
       have H1 : (if x9_1 ≤ (a0.size : Int) then (some (a0.extract 0 (x9_1 : Int).toNat, a0.extract (x9_1 : Int).toNat a0.size)) else (none)) = some (r1, r2) := by rw [if_neg (show ¬ (false = true) by decide)] at H; exact H
       clear H
       have H := H1
       clear H1
       have c8b0 := eq_true (of_decide_eq_true y3_ : 0 ≤ x9_1)
       by_cases c9 : x9_1 ≤ (a0.size : Int)
       ·rw [if_pos c9] at H
        have c9b0 := eq_true c9
        have c9b1 : decide (x9_1 ≤ (a0.size : Int)) = true := decide_eq_true c9
        clear c9
        have c10b0 := eq_true (of_decide_eq_true y3_ : 0 ≤ x9_1)
        have c11b0 := eq_true (of_decide_eq_true y3_ : x9_1 ≤ (a0.size : Int))
        simp only [Option.some.injEq, Prod.mk.injEq] at H
        obtain ⟨rfl, rfl⟩ := H
        have p5 : 0 ≤ (x9_1 : Int) := of_decide_eq_true y3_
        have q5 : x9_1 < (a0.size : Int) := of_decide_eq_true y3_
        have hx5 := bt_at a0 x9_1
        replace p5 := eq_true p5
        replace q5 := eq_true q5
        go_wp2_with (first | (go_at_call 55; (with_reducible refine (labels_letter.calls (wrap32 (bt a0 x9_1)) false t157 _ A6.out).mono ?_); rintro e w' ⟨rfl, ⟨nd, rfl⟩⟩; (try first | exact ⟨rfl, _, World.drewN_drewN _ _ _⟩ | exact ⟨rfl, _, Eq.trans (World.drewN_drewN _ _ _) (congrArg (World.drewN _) (Nat.add_assoc _ _ _))⟩)))
        repeat (go_quiet (first | (go_at_call 55; (with_reducible refine (labels_letter.calls (wrap32 (bt a0 x9_1)) false t157 _ A6.out).mono ?_); rintro e w' ⟨rfl, ⟨nd, rfl⟩⟩; (try first | exact ⟨rfl, _, World.drewN_drewN _ _ _⟩ | exact ⟨rfl, _, Eq.trans (World.drewN_drewN _ _ _) (congrArg (World.drewN _) (Nat.add_assoc _ _ _))⟩))); try go_wp2_with (first | (go_at_call 55; (with_reducible refine (labels_letter.calls (wrap32 (bt a0 x9_1)) false t157 _ A6.out).mono ?_); rintro e w' ⟨rfl, ⟨nd, rfl⟩⟩; (try first | exact ⟨rfl, _, World.drewN_drewN _ _ _⟩ | exact ⟨rfl, _, Eq.trans (World.drewN_drewN _ _ _) (congrArg (World.drewN _) (Nat.add_assoc _ _ _))⟩))))
        go_ret2
        exact ⟨y13_, y8_⟩
       ·rw [if_neg c9] at H
        exact absurd H (by simp)
     ·rw [if_neg c4] at H
      exact absurd H (by simp)
    ·rw [if_neg c3] at H
     exact absurd H (by simp)
   ·rw [if_neg c2] at H
    have c2b0 : decide (x9_1 < (a0.size : Int)) = false := decide_eq_false c2
    clear c2
    simp only [Option.some.injEq, Prod.mk.injEq] at H
    obtain ⟨rfl, rfl⟩ := H
    go_wp2
    repeat (go_quiet (fail); try go_wp2)
    go_ret2
    exact ⟨y13_, y8_⟩
def labels_Parse.l0 : Nat → ByteArray → List (S44) → Option ((List (S44)) × Int)
 | 0, _, _ => none
 | k + 1, x0, x4 => (labels_starts.f x0 125).bind fun t161 => (if t161 = true then (if 1 ≤ (x0.size : Int) then ((labels_bare.f k (x0.extract 1 x0.size)).bind fun t162 => (if t162.toList = ([] : List UInt8) then ((labels_Make.f k x4).bind fun bt163 => (some (bt163.1, bt163.2))) else (some (([] : List (S44)), 8)))) else (none)) else ((labels_word.f k x0).bind fun bt167 => ((labels_bare.f k bt167.2).bind fun t169 => (if bt167.1.toList = ([] : List UInt8) then (some (([] : List (S44)), 8)) else ((labels_starts.f t169 61).bind fun t170 => (if t170 = true then (if 1 ≤ (t169.size : Int) then ((labels_bare.f k (t169.extract 1 t169.size)).bind fun t171 => ((labels_Unquote.f k t171).bind fun bt172 => (if bt172.2.2 = 0 then (if x4.length < 4398046511104 then ((some (x4 ++ [(⟨bt167.1, bt172.1⟩ : S44)] : List (S44))).bind fun y175 => (if 0 ≤ bt172.2.1 then (if bt172.2.1 ≤ (t171.size : Int) then ((labels_bare.f k (t171.extract (bt172.2.1 : Int).toNat t171.size)).bind fun t178 => ((labels_starts.f t178 44).bind fun t179 => (if t179 = true then (if 1 ≤ (t178.size : Int) then ((labels_bare.f k (t178.extract 1 t178.size)).bind fun t180 => (labels_Parse.l0 k t180 y175)) else (none)) else ((labels_starts.f t178 125).bind fun t181 => (if t181 = true then (if 1 ≤ (t178.size : Int) then ((labels_bare.f k (t178.extract 1 t178.size)).bind fun t182 => (if t182.toList = ([] : List UInt8) then ((labels_Make.f k y175).bind fun bt183 => (some (bt183.1, bt183.2))) else (some (([] : List (S44)), 8)))) else (none)) else (some (([] : List (S44)), 8))))))) else (none)) else (none))) else (none)) else (some (([] : List (S44)), 8))))) else (none)) else (some (([] : List (S44)), 8))))))))
def labels_Parse.f (k : Nat) (a0 : ByteArray) : Option ((List (S44)) × Int) := (labels_bare.f k a0).bind fun t158 => ((labels_starts.f t158 123).bind fun t159 => (if t159 = true then (if 1 ≤ (t158.size : Int) then ((labels_bare.f k (t158.extract 1 t158.size)).bind fun t160 => (labels_Parse.l0 k t160 ([] : List (S44)))) else (none)) else (some (([] : List (S44)), 8))))
theorem labels_Parse.mono_l : ∀ k, (∀ y0 y1, LeO (labels_Parse.l0 k y0 y1) (labels_Parse.l0 (k + 1) y0 y1))
 | 0 => fun _ _ r h => by simp [labels_Parse.l0] at h
 | k + 1 => by
  have ih0 := labels_Parse.mono_l k
  ·intro y0 y1
   unfold labels_Parse.l0
   repeat' first
   | (with_reducible exact ih0 _ _)
   | (with_reducible exact labels_Make.mono _ _)
   | (with_reducible exact labels_Unquote.mono _ _)
   | (with_reducible exact labels_bare.mono _ _)
   | (with_reducible exact labels_word.mono _ _)
   | (with_reducible exact LeO.refl _)
   | (with_reducible exact LeO.none _)
   | (with_reducible refine LeO.ite ?_ ?_)
   | (with_reducible refine LeO.bind ?_ (fun _ => ?_))
   | exact ih0 _ _
   | exact labels_Make.mono _ _
   | exact labels_Unquote.mono _ _
   | exact labels_bare.mono _ _
   | exact labels_word.mono _ _
   | exact LeO.none _
   | refine LeO.ite ?_ ?_
   | refine LeO.bind ?_ (fun _ => ?_)
theorem labels_Parse.mono : ∀ a0 k, LeO (labels_Parse.f k a0) (labels_Parse.f (k + 1) a0) := by
 intro a0 k
 have ih0 := labels_Parse.mono_l k
 unfold labels_Parse.f
 repeat' first
   | (with_reducible exact ih0 _ _)
   | (with_reducible exact labels_Make.mono _ _)
   | (with_reducible exact labels_Unquote.mono _ _)
   | (with_reducible exact labels_bare.mono _ _)
   | (with_reducible exact labels_word.mono _ _)
   | (with_reducible exact LeO.refl _)
   | (with_reducible exact LeO.none _)
   | (with_reducible refine LeO.ite ?_ ?_)
   | (with_reducible refine LeO.bind ?_ (fun _ => ?_))
   | exact ih0 _ _
   | exact labels_Make.mono _ _
   | exact labels_Unquote.mono _ _
   | exact labels_bare.mono _ _
   | exact labels_word.mono _ _
   | exact LeO.none _
   | refine LeO.ite ?_ ?_
   | refine LeO.bind ?_ (fun _ => ?_)
set_option maxHeartbeats 8000000 in
set_option maxRecDepth 100000 in
theorem labels_Parse.calls (k : Nat) (a0 : ByteArray) (r1 : List (S44)) (r2 : Int) (w : World) (hT : Aside0 (Tab w)) (h : labels_Parse.f k a0 = some (r1, r2)) :
  Calls Tryd.prog 25 #[.string a0] w fun e w' => ∃ v0_ : Value, e = .returned (.tuple #[v0_, .int .i64 r2]) ∧ Kd.R k44 44 w' w.heap.size (fun _ => True) v0_ r1 ∧ Below w.heap.size w w' := by
 have hu44 := Tryd.underlying44
 have HB := Aside0.mk (Below.refl w.heap.size w)
 have H : ((labels_bare.f k a0).bind fun t158 => ((labels_starts.f t158 123).bind fun t159 => (if t159 = true then (if 1 ≤ (t158.size : Int) then ((labels_bare.f k (t158.extract 1 t158.size)).bind fun t160 => (labels_Parse.l0 k t160 ([] : List (S44)))) else (none)) else (some (([] : List (S44)), 8))))) = some (r1, r2) := h
 clear h
 replace H := Option.bind_eq_some_iff.mp H
 obtain ⟨t158, A20, H⟩ := H
 replace H : ((labels_starts.f t158 123).bind fun t159 => (if t159 = true then (if 1 ≤ (t158.size : Int) then ((labels_bare.f k (t158.extract 1 t158.size)).bind fun t160 => (labels_Parse.l0 k t160 ([] : List (S44)))) else (none)) else (some (([] : List (S44)), 8)))) = some (r1, r2) := H
 have A2 := Aside0.mk A20
 clear A20
 replace H := Option.bind_eq_some_iff.mp H
 obtain ⟨t159, A30, H⟩ := H
 replace H : (if t159 = true then (if 1 ≤ (t158.size : Int) then ((labels_bare.f k (t158.extract 1 t158.size)).bind fun t160 => (labels_Parse.l0 k t160 ([] : List (S44)))) else (none)) else (some (([] : List (S44)), 8))) = some (r1, r2) := H
 have A3 := Aside0.mk A30
 clear A30
 by_cases c4 : t159 = true
 ·subst c4
  have H1 : (if 1 ≤ (t158.size : Int) then ((labels_bare.f k (t158.extract 1 t158.size)).bind fun t160 => (labels_Parse.l0 k t160 ([] : List (S44)))) else (none)) = some (r1, r2) := by rw [if_pos rfl] at H; exact H
  clear H
  have H := H1
  clear H1
  by_cases c5 : 1 ≤ (t158.size : Int)
  ·rw [if_pos c5] at H
   have c5b0 := eq_true c5
   have c5b1 : decide (1 ≤ (t158.size : Int)) = true := decide_eq_true c5
   clear c5
   replace H := Option.bind_eq_some_iff.mp H
   obtain ⟨t160, A60, H⟩ := H
   replace H : (labels_Parse.l0 k t160 ([] : List (S44))) = some (r1, r2) := H
   have A6 := Aside0.mk A60
   clear A60
   have H' := Aside0.mk H
   clear H
   go_enter Tryd.func25, Tryd.ntmps25
   go_wp2
   go_step3
   go_wp2_with (first | ((with_reducible refine gate_callee (f := 59) rfl ?_); refine goesL_ (some 11) rfl rfl Tryd.func59 (by kernel_rfl) rfl #[.string a0] rfl y2_ ?_; (with_reducible refine (labels_bare.calls k a0 t158 _ A2.out).mono ?_); rintro e w' ⟨rfl, ⟨nd, rfl⟩⟩; refine ⟨_, rfl, ?_⟩) | ((with_reducible refine gate_callee (f := 60) rfl ?_); refine goesL_ (some 13) rfl rfl Tryd.func60 (by kernel_rfl) rfl #[.string t158, .int .u8 123] rfl y2_ ?_; (with_reducible refine (labels_starts.calls t158 123 true _ A3.out).mono ?_); rintro e w' ⟨rfl, ⟨nd, rfl⟩⟩; refine ⟨_, rfl, ?_⟩) | ((with_reducible refine gate_callee (f := 59) rfl ?_); refine goesL_ (some 17) rfl rfl Tryd.func59 (by kernel_rfl) rfl #[.string (t158.extract 1 t158.size)] rfl y2_ ?_; (with_reducible refine (labels_bare.calls k (t158.extract 1 t158.size) t160 _ A6.out).mono ?_); rintro e w' ⟨rfl, ⟨nd, rfl⟩⟩; refine ⟨_, rfl, ?_⟩))
   go_step3
   go_wp2
   go_loopg [0, 4] k (fun kq v0 v4 w' => ∃ (x0_1 : ByteArray) (x4_1 : List (S44)), v0 = .string x0_1 ∧ Aside0 (labels_Parse.l0 kq x0_1 x4_1 = some (r1, r2)) ∧ Aside0 (kq ≤ k) ∧ Aside0 (Kd.R k44 44 w' w.heap.size (fun _ => True) v4 x4_1) ∧ Aside0 (Below w.heap.size w w'))
   case atStart => exact ⟨(t160), (([] : List (S44))), y6_, H', ⟨Nat.le_refl _⟩, ⟨y11_⟩, ⟨y1_⟩⟩
   case round =>
    clear H'
    try clear c2
    try clear p2
    try clear c4
    try clear c5
    try clear c5b0
    try clear c5b1
    try clear c6
    obtain ⟨x0_1, x4_1, rfl, HA, HK1, HO_4, HB⟩ := hrel
    cases gk with
    | zero => exact absurd HA.out (by simp [labels_Parse.l0])
    | succ k1 =>
     have H := HA.out
     clear HA
     simp only [labels_Parse.l0] at H
     replace H := Option.bind_eq_some_iff.mp H
     obtain ⟨t161, A70, H⟩ := H
     replace H : (if t161 = true then (if 1 ≤ (x0_1.size : Int) then ((labels_bare.f k1 (x0_1.extract 1 x0_1.size)).bind fun t162 => (if t162.toList = ([] : List UInt8) then ((labels_Make.f k1 x4_1).bind fun bt163 => (some (bt163.1, bt163.2))) else (some (([] : List (S44)), 8)))) else (none)) else ((labels_word.f k1 x0_1).bind fun bt167 => ((labels_bare.f k1 bt167.2).bind fun t169 => (if bt167.1.toList = ([] : List UInt8) then (some (([] : List (S44)), 8)) else ((labels_starts.f t169 61).bind fun t170 => (if t170 = true then (if 1 ≤ (t169.size : Int) then ((labels_bare.f k1 (t169.extract 1 t169.size)).bind fun t171 => ((labels_Unquote.f k1 t171).bind fun bt172 => (if bt172.2.2 = 0 then (if x4_1.length < 4398046511104 then ((some (x4_1 ++ [(⟨bt167.1, bt172.1⟩ : S44)] : List (S44))).bind fun y175 => (if 0 ≤ bt172.2.1 then (if bt172.2.1 ≤ (t171.size : Int) then ((labels_bare.f k1 (t171.extract (bt172.2.1 : Int).toNat t171.size)).bind fun t178 => ((labels_starts.f t178 44).bind fun t179 => (if t179 = true then (if 1 ≤ (t178.size : Int) then ((labels_bare.f k1 (t178.extract 1 t178.size)).bind fun t180 => (labels_Parse.l0 k1 t180 y175)) else (none)) else ((labels_starts.f t178 125).bind fun t181 => (if t181 = true then (if 1 ≤ (t178.size : Int) then ((labels_bare.f k1 (t178.extract 1 t178.size)).bind fun t182 => (if t182.toList = ([] : List UInt8) then ((labels_Make.f k1 y175).bind fun bt183 => (some (bt183.1, bt183.2))) else (some (([] : List (S44)), 8)))) else (none)) else (some (([] : List (S44)), 8))))))) else (none)) else (none))) else (none)) else (some (([] : List (S44)), 8))))) else (none)) else (some (([] : List (S44)), 8)))))))) = some (r1, r2) := H
     have A7 := Aside0.mk A70
     clear A70
     by_cases c8 : t161 = true
     ·subst c8
      have H1 : (if 1 ≤ (x0_1.size : Int) then ((labels_bare.f k1 (x0_1.extract 1 x0_1.size)).bind fun t162 => (if t162.toList = ([] : List UInt8) then ((labels_Make.f k1 x4_1).bind fun bt163 => (some (bt163.1, bt163.2))) else (some (([] : List (S44)), 8)))) else (none)) = some (r1, r2) := by rw [if_pos rfl] at H; exact H
      clear H
      have H := H1
      clear H1
      by_cases c9 : 1 ≤ (x0_1.size : Int)
      ·rw [if_pos c9] at H
       have c9b0 := eq_true c9
       have c9b1 : decide (1 ≤ (x0_1.size : Int)) = true := decide_eq_true c9
       clear c9
       replace H := Option.bind_eq_some_iff.mp H
       obtain ⟨t162, A100, H⟩ := H
       replace H : (if t162.toList = ([] : List UInt8) then ((labels_Make.f k1 x4_1).bind fun bt163 => (some (bt163.1, bt163.2))) else (some (([] : List (S44)), 8))) = some (r1, r2) := H
       have A10 := Aside0.mk A100
       clear A100
       by_cases c11 : t162.toList = ([] : List UInt8)
       ·rw [if_pos c11] at H
        have c11b0 : (t162.toList == ([] : List UInt8)) = true := beq_iff_eq.mpr c11
        have c11b1 : (t162.toList != ([] : List UInt8)) = false := bne_eq_false_iff_eq.mpr c11
        clear c11
        replace H := Option.bind_eq_some_iff.mp H
        obtain ⟨⟨t163, t164⟩, A120, H⟩ := H
        replace H : (some (t163, t164)) = some (r1, r2) := H
        have A12 := Aside0.mk A120
        clear A120
        simp only [Option.some.injEq, Prod.mk.injEq] at H
        obtain ⟨rfl, rfl⟩ := H
        go_wp2_with (first | ((with_reducible refine gate_callee (f := 60) rfl ?_); refine goesL_ (some 19) rfl rfl Tryd.func60 (by kernel_rfl) rfl #[.string x0_1, .int .u8 125] rfl y2_ ?_; (with_reducible refine (labels_starts.calls x0_1 125 true _ A7.out).mono ?_); rintro e w' ⟨rfl, ⟨nd, rfl⟩⟩; refine ⟨_, rfl, ?_⟩) | ((with_reducible refine gate_callee (f := 59) rfl ?_); refine goesL_ (some 67) rfl rfl Tryd.func59 (by kernel_rfl) rfl #[.string (x0_1.extract 1 x0_1.size)] rfl y2_ ?_; (with_reducible refine (labels_bare.calls k1 (x0_1.extract 1 x0_1.size) t162 _ A10.out).mono ?_); rintro e w' ⟨rfl, ⟨nd, rfl⟩⟩; refine ⟨_, rfl, ?_⟩; obtain ⟨Ao13, co13, eo13⟩ := Kd.R_slice HO_4.out; subst eo13) | ((with_reducible refine gate_callee (f := 34) rfl ?_); refine goesL_ (some 70) rfl rfl Tryd.func34 (by kernel_rfl) rfl #[.slice Ao13 x4_1.length co13] rfl y2_ ?_; (with_reducible refine (labels_Make.calls k1 _ _ x4_1 t163 t164 _ ?side1 ?side2 ?side3 A12.out).mono ?_); (case side1 => exact ⟨Tab_below hT.out y1_⟩); (case side2 => repeat (first | exact (Kd.R_reads' HO_4.out).2.2 | (with_reducible refine Kd.C_alloc ?_ _) | (with_reducible refine Kd.C_drewN ?_ _) | (with_reducible refine Kd.C_drew ?_))); (case side3 => exact (Kd.R_reads' HO_4.out).2.1); rintro e w14 ⟨v165, rfl, ho0, hb⟩; refine ⟨_, rfl, ?_⟩; have n0_ := Aside0.mk (Kd.R_elder' y27_ (Kd.R_base ho0) hb); have n1_ := Aside0.mk (Kd.R_lower (Kd.R_new' ho0 (Kd.R_lt y27_)) (below_size y1_)); have n2_ := Aside0.mk (below_step y1_ hb); clear HO_4; clear HB; have HO_4 := n0_; have HO166 := n1_; have HB := n2_; clear n0_ n1_ n2_; (try clear hb); (try clear hb2); (try clear hk); (try clear hi); (try clear ho0)))
        (try rw [Exit.noGoto_ret])
        go_ret2
        exact ⟨_, y7_, by (with_reducible repeat (first | apply Kd.R_alloc | apply Kd.R_drewN | apply Kd.R_drew)); exact Kd.R_mono HO166.out (fun _ hk => trivial), y1_⟩
       ·rw [if_neg c11] at H
        have c11b0 : (t162.toList == ([] : List UInt8)) = false := beq_eq_false_iff_ne.mpr c11
        have c11b1 : (t162.toList != ([] : List UInt8)) = true := bne_iff_ne.mpr c11
        simp only [Option.some.injEq, Prod.mk.injEq] at H
        obtain ⟨rfl, rfl⟩ := H
        go_wp2_with (first | ((with_reducible refine gate_callee (f := 60) rfl ?_); refine goesL_ (some 19) rfl rfl Tryd.func60 (by kernel_rfl) rfl #[.string x0_1, .int .u8 125] rfl y2_ ?_; (with_reducible refine (labels_starts.calls x0_1 125 true _ A7.out).mono ?_); rintro e w' ⟨rfl, ⟨nd, rfl⟩⟩; refine ⟨_, rfl, ?_⟩) | ((with_reducible refine gate_callee (f := 59) rfl ?_); refine goesL_ (some 67) rfl rfl Tryd.func59 (by kernel_rfl) rfl #[.string (x0_1.extract 1 x0_1.size)] rfl y2_ ?_; (with_reducible refine (labels_bare.calls k1 (x0_1.extract 1 x0_1.size) t162 _ A10.out).mono ?_); rintro e w' ⟨rfl, ⟨nd, rfl⟩⟩; refine ⟨_, rfl, ?_⟩))
        (try rw [Exit.noGoto_ret])
        go_ret2
        exact ⟨_, y7_, y11_, y1_⟩
      ·rw [if_neg c9] at H
       exact absurd H (by simp)
     ·replace c8 := Bool.eq_false_iff.mpr c8
      subst c8
      have H1 : ((labels_word.f k1 x0_1).bind fun bt167 => ((labels_bare.f k1 bt167.2).bind fun t169 => (if bt167.1.toList = ([] : List UInt8) then (some (([] : List (S44)), 8)) else ((labels_starts.f t169 61).bind fun t170 => (if t170 = true then (if 1 ≤ (t169.size : Int) then ((labels_bare.f k1 (t169.extract 1 t169.size)).bind fun t171 => ((labels_Unquote.f k1 t171).bind fun bt172 => (if bt172.2.2 = 0 then (if x4_1.length < 4398046511104 then ((some (x4_1 ++ [(⟨bt167.1, bt172.1⟩ : S44)] : List (S44))).bind fun y175 => (if 0 ≤ bt172.2.1 then (if bt172.2.1 ≤ (t171.size : Int) then ((labels_bare.f k1 (t171.extract (bt172.2.1 : Int).toNat t171.size)).bind fun t178 => ((labels_starts.f t178 44).bind fun t179 => (if t179 = true then (if 1 ≤ (t178.size : Int) then ((labels_bare.f k1 (t178.extract 1 t178.size)).bind fun t180 => (labels_Parse.l0 k1 t180 y175)) else (none)) else ((labels_starts.f t178 125).bind fun t181 => (if t181 = true then (if 1 ≤ (t178.size : Int) then ((labels_bare.f k1 (t178.extract 1 t178.size)).bind fun t182 => (if t182.toList = ([] : List UInt8) then ((labels_Make.f k1 y175).bind fun bt183 => (some (bt183.1, bt183.2))) else (some (([] : List (S44)), 8)))) else (none)) else (some (([] : List (S44)), 8))))))) else (none)) else (none))) else (none)) else (some (([] : List (S44)), 8))))) else (none)) else (some (([] : List (S44)), 8))))))) = some (r1, r2) := by rw [if_neg (show ¬ (false = true) by decide)] at H; exact H
      clear H
      have H := H1
      clear H1
      replace H := Option.bind_eq_some_iff.mp H
      obtain ⟨⟨t167, t168⟩, A150, H⟩ := H
      replace H : ((labels_bare.f k1 t168).bind fun t169 => (if t167.toList = ([] : List UInt8) then (some (([] : List (S44)), 8)) else ((labels_starts.f t169 61).bind fun t170 => (if t170 = true then (if 1 ≤ (t169.size : Int) then ((labels_bare.f k1 (t169.extract 1 t169.size)).bind fun t171 => ((labels_Unquote.f k1 t171).bind fun bt172 => (if bt172.2.2 = 0 then (if x4_1.length < 4398046511104 then ((some (x4_1 ++ [(⟨t167, bt172.1⟩ : S44)] : List (S44))).bind fun y175 => (if 0 ≤ bt172.2.1 then (if bt172.2.1 ≤ (t171.size : Int) then ((labels_bare.f k1 (t171.extract (bt172.2.1 : Int).toNat t171.size)).bind fun t178 => ((labels_starts.f t178 44).bind fun t179 => (if t179 = true then (if 1 ≤ (t178.size : Int) then ((labels_bare.f k1 (t178.extract 1 t178.size)).bind fun t180 => (labels_Parse.l0 k1 t180 y175)) else (none)) else ((labels_starts.f t178 125).bind fun t181 => (if t181 = true then (if 1 ≤ (t178.size : Int) then ((labels_bare.f k1 (t178.extract 1 t178.size)).bind fun t182 => (if t182.toList = ([] : List UInt8) then ((labels_Make.f k1 y175).bind fun bt183 => (some (bt183.1, bt183.2))) else (some (([] : List (S44)), 8)))) else (none)) else (some (([] : List (S44)), 8))))))) else (none)) else (none))) else (none)) else (some (([] : List (S44)), 8))))) else (none)) else (some (([] : List (S44)), 8)))))) = some (r1, r2) := H
      have A15 := Aside0.mk A150
      clear A150
      replace H := Option.bind_eq_some_iff.mp H
      obtain ⟨t169, A160, H⟩ := H
      replace H : (if t167.toList = ([] : List UInt8) then (some (([] : List (S44)), 8)) else ((labels_starts.f t169 61).bind fun t170 => (if t170 = true then (if 1 ≤ (t169.size : Int) then ((labels_bare.f k1 (t169.extract 1 t169.size)).bind fun t171 => ((labels_Unquote.f k1 t171).bind fun bt172 => (if bt172.2.2 = 0 then (if x4_1.length < 4398046511104 then ((some (x4_1 ++ [(⟨t167, bt172.1⟩ : S44)] : List (S44))).bind fun y175 => (if 0 ≤ bt172.2.1 then (if bt172.2.1 ≤ (t171.size : Int) then ((labels_bare.f k1 (t171.extract (bt172.2.1 : Int).toNat t171.size)).bind fun t178 => ((labels_starts.f t178 44).bind fun t179 => (if t179 = true then (if 1 ≤ (t178.size : Int) then ((labels_bare.f k1 (t178.extract 1 t178.size)).bind fun t180 => (labels_Parse.l0 k1 t180 y175)) else (none)) else ((labels_starts.f t178 125).bind fun t181 => (if t181 = true then (if 1 ≤ (t178.size : Int) then ((labels_bare.f k1 (t178.extract 1 t178.size)).bind fun t182 => (if t182.toList = ([] : List UInt8) then ((labels_Make.f k1 y175).bind fun bt183 => (some (bt183.1, bt183.2))) else (some (([] : List (S44)), 8)))) else (none)) else (some (([] : List (S44)), 8))))))) else (none)) else (none))) else (none)) else (some (([] : List (S44)), 8))))) else (none)) else (some (([] : List (S44)), 8))))) = some (r1, r2) := H
      have A16 := Aside0.mk A160
      clear A160
      by_cases c17 : t167.toList = ([] : List UInt8)
      ·rw [if_pos c17] at H
       have c17b0 : (t167.toList == ([] : List UInt8)) = true := beq_iff_eq.mpr c17
       have c17b1 : (t167.toList != ([] : List UInt8)) = false := bne_eq_false_iff_eq.mpr c17
       clear c17
       simp only [Option.some.injEq, Prod.mk.injEq] at H
       obtain ⟨rfl, rfl⟩ := H
       go_wp2_with (first | ((with_reducible refine gate_callee (f := 60) rfl ?_); refine goesL_ (some 19) rfl rfl Tryd.func60 (by kernel_rfl) rfl #[.string x0_1, .int .u8 125] rfl y2_ ?_; (with_reducible refine (labels_starts.calls x0_1 125 false _ A7.out).mono ?_); rintro e w' ⟨rfl, ⟨nd, rfl⟩⟩; refine ⟨_, rfl, ?_⟩) | ((with_reducible refine gate_callee (f := 61) rfl ?_); refine goesL_ (some 23) rfl rfl Tryd.func61 (by kernel_rfl) rfl #[.string x0_1] rfl y2_ ?_; (with_reducible refine (labels_word.calls k1 x0_1 t167 t168 _ A15.out).mono ?_); rintro e w' ⟨rfl, ⟨nd, rfl⟩⟩; refine ⟨_, rfl, ?_⟩) | ((with_reducible refine gate_callee (f := 59) rfl ?_); refine goesL_ (some 27) rfl rfl Tryd.func59 (by kernel_rfl) rfl #[.string t168] rfl y2_ ?_; (with_reducible refine (labels_bare.calls k1 t168 t169 _ A16.out).mono ?_); rintro e w' ⟨rfl, ⟨nd, rfl⟩⟩; refine ⟨_, rfl, ?_⟩))
       (try rw [Exit.noGoto_ret])
       go_ret2
       exact ⟨_, y7_, y11_, y1_⟩
      ·rw [if_neg c17] at H
       have c17b0 : (t167.toList == ([] : List UInt8)) = false := beq_eq_false_iff_ne.mpr c17
       have c17b1 : (t167.toList != ([] : List UInt8)) = true := bne_iff_ne.mpr c17
       replace H := Option.bind_eq_some_iff.mp H
       obtain ⟨t170, A180, H⟩ := H
       replace H : (if t170 = true then (if 1 ≤ (t169.size : Int) then ((labels_bare.f k1 (t169.extract 1 t169.size)).bind fun t171 => ((labels_Unquote.f k1 t171).bind fun bt172 => (if bt172.2.2 = 0 then (if x4_1.length < 4398046511104 then ((some (x4_1 ++ [(⟨t167, bt172.1⟩ : S44)] : List (S44))).bind fun y175 => (if 0 ≤ bt172.2.1 then (if bt172.2.1 ≤ (t171.size : Int) then ((labels_bare.f k1 (t171.extract (bt172.2.1 : Int).toNat t171.size)).bind fun t178 => ((labels_starts.f t178 44).bind fun t179 => (if t179 = true then (if 1 ≤ (t178.size : Int) then ((labels_bare.f k1 (t178.extract 1 t178.size)).bind fun t180 => (labels_Parse.l0 k1 t180 y175)) else (none)) else ((labels_starts.f t178 125).bind fun t181 => (if t181 = true then (if 1 ≤ (t178.size : Int) then ((labels_bare.f k1 (t178.extract 1 t178.size)).bind fun t182 => (if t182.toList = ([] : List UInt8) then ((labels_Make.f k1 y175).bind fun bt183 => (some (bt183.1, bt183.2))) else (some (([] : List (S44)), 8)))) else (none)) else (some (([] : List (S44)), 8))))))) else (none)) else (none))) else (none)) else (some (([] : List (S44)), 8))))) else (none)) else (some (([] : List (S44)), 8))) = some (r1, r2) := H
       have A18 := Aside0.mk A180
       clear A180
       by_cases c19 : t170 = true
       ·subst c19
        have H1 : (if 1 ≤ (t169.size : Int) then ((labels_bare.f k1 (t169.extract 1 t169.size)).bind fun t171 => ((labels_Unquote.f k1 t171).bind fun bt172 => (if bt172.2.2 = 0 then (if x4_1.length < 4398046511104 then ((some (x4_1 ++ [(⟨t167, bt172.1⟩ : S44)] : List (S44))).bind fun y175 => (if 0 ≤ bt172.2.1 then (if bt172.2.1 ≤ (t171.size : Int) then ((labels_bare.f k1 (t171.extract (bt172.2.1 : Int).toNat t171.size)).bind fun t178 => ((labels_starts.f t178 44).bind fun t179 => (if t179 = true then (if 1 ≤ (t178.size : Int) then ((labels_bare.f k1 (t178.extract 1 t178.size)).bind fun t180 => (labels_Parse.l0 k1 t180 y175)) else (none)) else ((labels_starts.f t178 125).bind fun t181 => (if t181 = true then (if 1 ≤ (t178.size : Int) then ((labels_bare.f k1 (t178.extract 1 t178.size)).bind fun t182 => (if t182.toList = ([] : List UInt8) then ((labels_Make.f k1 y175).bind fun bt183 => (some (bt183.1, bt183.2))) else (some (([] : List (S44)), 8)))) else (none)) else (some (([] : List (S44)), 8))))))) else (none)) else (none))) else (none)) else (some (([] : List (S44)), 8))))) else (none)) = some (r1, r2) := by rw [if_pos rfl] at H; exact H
        clear H
        have H := H1
        clear H1
        by_cases c20 : 1 ≤ (t169.size : Int)
        ·rw [if_pos c20] at H
         have c20b0 := eq_true c20
         have c20b1 : decide (1 ≤ (t169.size : Int)) = true := decide_eq_true c20
         clear c20
         replace H := Option.bind_eq_some_iff.mp H
         obtain ⟨t171, A210, H⟩ := H
         replace H : ((labels_Unquote.f k1 t171).bind fun bt172 => (if bt172.2.2 = 0 then (if x4_1.length < 4398046511104 then ((some (x4_1 ++ [(⟨t167, bt172.1⟩ : S44)] : List (S44))).bind fun y175 => (if 0 ≤ bt172.2.1 then (if bt172.2.1 ≤ (t171.size : Int) then ((labels_bare.f k1 (t171.extract (bt172.2.1 : Int).toNat t171.size)).bind fun t178 => ((labels_starts.f t178 44).bind fun t179 => (if t179 = true then (if 1 ≤ (t178.size : Int) then ((labels_bare.f k1 (t178.extract 1 t178.size)).bind fun t180 => (labels_Parse.l0 k1 t180 y175)) else (none)) else ((labels_starts.f t178 125).bind fun t181 => (if t181 = true then (if 1 ≤ (t178.size : Int) then ((labels_bare.f k1 (t178.extract 1 t178.size)).bind fun t182 => (if t182.toList = ([] : List UInt8) then ((labels_Make.f k1 y175).bind fun bt183 => (some (bt183.1, bt183.2))) else (some (([] : List (S44)), 8)))) else (none)) else (some (([] : List (S44)), 8))))))) else (none)) else (none))) else (none)) else (some (([] : List (S44)), 8)))) = some (r1, r2) := H
         have A21 := Aside0.mk A210
         clear A210
         replace H := Option.bind_eq_some_iff.mp H
         obtain ⟨⟨t172, t173, t174⟩, A220, H⟩ := H
         replace H : (if t174 = 0 then (if x4_1.length < 4398046511104 then ((some (x4_1 ++ [(⟨t167, t172⟩ : S44)] : List (S44))).bind fun y175 => (if 0 ≤ t173 then (if t173 ≤ (t171.size : Int) then ((labels_bare.f k1 (t171.extract (t173 : Int).toNat t171.size)).bind fun t178 => ((labels_starts.f t178 44).bind fun t179 => (if t179 = true then (if 1 ≤ (t178.size : Int) then ((labels_bare.f k1 (t178.extract 1 t178.size)).bind fun t180 => (labels_Parse.l0 k1 t180 y175)) else (none)) else ((labels_starts.f t178 125).bind fun t181 => (if t181 = true then (if 1 ≤ (t178.size : Int) then ((labels_bare.f k1 (t178.extract 1 t178.size)).bind fun t182 => (if t182.toList = ([] : List UInt8) then ((labels_Make.f k1 y175).bind fun bt183 => (some (bt183.1, bt183.2))) else (some (([] : List (S44)), 8)))) else (none)) else (some (([] : List (S44)), 8))))))) else (none)) else (none))) else (none)) else (some (([] : List (S44)), 8))) = some (r1, r2) := H
         have A22 := Aside0.mk A220
         clear A220
         by_cases c23 : t174 = 0
         ·rw [if_pos c23] at H
          have c23b0 : (t174 == 0) = true := beq_iff_eq.mpr c23
          have c23b1 : (t174 != 0) = false := bne_eq_false_iff_eq.mpr c23
          clear c23
          by_cases c24 : x4_1.length < 4398046511104
          ·rw [if_pos c24] at H
           have LMc24 := Aside0.mk c24
           clear c24
           obtain ⟨y175, hy175⟩ : ∃ y_ : List (S44), y_ = (x4_1 ++ [(⟨t167, t172⟩ : S44)]) := ⟨_, rfl⟩
           replace H : (if 0 ≤ t173 then (if t173 ≤ (t171.size : Int) then ((labels_bare.f k1 (t171.extract (t173 : Int).toNat t171.size)).bind fun t178 => ((labels_starts.f t178 44).bind fun t179 => (if t179 = true then (if 1 ≤ (t178.size : Int) then ((labels_bare.f k1 (t178.extract 1 t178.size)).bind fun t180 => (labels_Parse.l0 k1 t180 y175)) else (none)) else ((labels_starts.f t178 125).bind fun t181 => (if t181 = true then (if 1 ≤ (t178.size : Int) then ((labels_bare.f k1 (t178.extract 1 t178.size)).bind fun t182 => (if t182.toList = ([] : List UInt8) then ((labels_Make.f k1 y175).bind fun bt183 => (some (bt183.1, bt183.2))) else (some (([] : List (S44)), 8)))) else (none)) else (some (([] : List (S44)), 8))))))) else (none)) else (none)) = some (r1, r2) := by first | (rw [hy175]; with_reducible exact H) | (have H2_ := (Option.bind_some _ _).symm.trans H; rw [hy175]; with_reducible exact H2_) | (have H2_ := (Option.bind_some _ _).symm.trans H; with_reducible exact H2_) | with_reducible exact H | (rw [hy175]; exact H) | exact H
           have Ny175 := Aside0.mk hy175
           clear hy175
           by_cases c25 : 0 ≤ t173
           ·rw [if_pos c25] at H
            have c25b0 := eq_true c25
            have c25b1 : decide (0 ≤ t173) = true := decide_eq_true c25
            clear c25
            by_cases c26 : t173 ≤ (t171.size : Int)
            ·rw [if_pos c26] at H
             have c26b0 := eq_true c26
             have c26b1 : decide (t173 ≤ (t171.size : Int)) = true := decide_eq_true c26
             clear c26
             replace H := Option.bind_eq_some_iff.mp H
             obtain ⟨t178, A270, H⟩ := H
             replace H : ((labels_starts.f t178 44).bind fun t179 => (if t179 = true then (if 1 ≤ (t178.size : Int) then ((labels_bare.f k1 (t178.extract 1 t178.size)).bind fun t180 => (labels_Parse.l0 k1 t180 y175)) else (none)) else ((labels_starts.f t178 125).bind fun t181 => (if t181 = true then (if 1 ≤ (t178.size : Int) then ((labels_bare.f k1 (t178.extract 1 t178.size)).bind fun t182 => (if t182.toList = ([] : List UInt8) then ((labels_Make.f k1 y175).bind fun bt183 => (some (bt183.1, bt183.2))) else (some (([] : List (S44)), 8)))) else (none)) else (some (([] : List (S44)), 8)))))) = some (r1, r2) := H
             have A27 := Aside0.mk A270
             clear A270
             replace H := Option.bind_eq_some_iff.mp H
             obtain ⟨t179, A280, H⟩ := H
             replace H : (if t179 = true then (if 1 ≤ (t178.size : Int) then ((labels_bare.f k1 (t178.extract 1 t178.size)).bind fun t180 => (labels_Parse.l0 k1 t180 y175)) else (none)) else ((labels_starts.f t178 125).bind fun t181 => (if t181 = true then (if 1 ≤ (t178.size : Int) then ((labels_bare.f k1 (t178.extract 1 t178.size)).bind fun t182 => (if t182.toList = ([] : List UInt8) then ((labels_Make.f k1 y175).bind fun bt183 => (some (bt183.1, bt183.2))) else (some (([] : List (S44)), 8)))) else (none)) else (some (([] : List (S44)), 8))))) = some (r1, r2) := H
             have A28 := Aside0.mk A280
             clear A280
             by_cases c29 : t179 = true
             ·subst c29
              have H1 : (if 1 ≤ (t178.size : Int) then ((labels_bare.f k1 (t178.extract 1 t178.size)).bind fun t180 => (labels_Parse.l0 k1 t180 y175)) else (none)) = some (r1, r2) := by rw [if_pos rfl] at H; exact H
              clear H
              have H := H1
              clear H1
              by_cases c30 : 1 ≤ (t178.size : Int)
              ·rw [if_pos c30] at H
               have c30b0 := eq_true c30
               have c30b1 : decide (1 ≤ (t178.size : Int)) = true := decide_eq_true c30
               clear c30
               replace H := Option.bind_eq_some_iff.mp H
               obtain ⟨t180, A310, H⟩ := H
               replace H : (labels_Parse.l0 k1 t180 y175) = some (r1, r2) := H
               have A31 := Aside0.mk A310
               clear A310
               have H' := Aside0.mk H
               clear H
               go_wp2_with (first | ((with_reducible refine gate_callee (f := 60) rfl ?_); refine goesL_ (some 19) rfl rfl Tryd.func60 (by kernel_rfl) rfl #[.string x0_1, .int .u8 125] rfl y2_ ?_; (with_reducible refine (labels_starts.calls x0_1 125 false _ A7.out).mono ?_); rintro e w' ⟨rfl, ⟨nd, rfl⟩⟩; refine ⟨_, rfl, ?_⟩) | ((with_reducible refine gate_callee (f := 61) rfl ?_); refine goesL_ (some 23) rfl rfl Tryd.func61 (by kernel_rfl) rfl #[.string x0_1] rfl y2_ ?_; (with_reducible refine (labels_word.calls k1 x0_1 t167 t168 _ A15.out).mono ?_); rintro e w' ⟨rfl, ⟨nd, rfl⟩⟩; refine ⟨_, rfl, ?_⟩) | ((with_reducible refine gate_callee (f := 59) rfl ?_); refine goesL_ (some 27) rfl rfl Tryd.func59 (by kernel_rfl) rfl #[.string t168] rfl y2_ ?_; (with_reducible refine (labels_bare.calls k1 t168 t169 _ A16.out).mono ?_); rintro e w' ⟨rfl, ⟨nd, rfl⟩⟩; refine ⟨_, rfl, ?_⟩) | (go_at_call 60; (with_reducible refine (labels_starts.calls t169 61 true _ A18.out).mono ?_); rintro e w' ⟨rfl, ⟨nd, rfl⟩⟩) | ((with_reducible refine gate_callee (f := 59) rfl ?_); refine goesL_ (some 37) rfl rfl Tryd.func59 (by kernel_rfl) rfl #[.string (t169.extract 1 t169.size)] rfl y2_ ?_; (with_reducible refine (labels_bare.calls k1 (t169.extract 1 t169.size) t171 _ A21.out).mono ?_); rintro e w' ⟨rfl, ⟨nd, rfl⟩⟩; refine ⟨_, rfl, ?_⟩) | ((with_reducible refine gate_callee (f := 20) rfl ?_); refine goesL_ (some 40) rfl rfl Tryd.func20 (by kernel_rfl) rfl #[.string t171] rfl y2_ ?_; (with_reducible refine (labels_Unquote.calls k1 t171 t172 t173 t174 _ A22.out).mono ?_); rintro e w32 ⟨rfl, hb⟩; refine ⟨_, rfl, ?_⟩; have n0_ := Aside0.mk (Kd.R_below y27_ hb); have n1_ := Aside0.mk (below_step y1_ hb); clear HO_4; clear HB; have HO_4 := n0_; have HB := n1_; clear n0_ n1_; (try clear hb); (try clear hb2); (try clear hk); (try clear hi)) | ((with_reducible refine gate_builtin (b := .append) (xs := #[.tmp 46, .tmp 50]) rfl ?_); at_builtin; refine Kd.R_append k44 (w0 := w) w.heap.size rfl (.tmp 46) (.tmp 50) 29 44 (.agg #[(.string ⟨#[]⟩), (.string ⟨#[]⟩)]) 32 rfl Tryd.underlying29 info44 rfl (by decide) (by omega) u4 x4_1 (⟨t167, t172⟩ : S44) [.string t167, .string t172] (fun _ => True) (fun _ => False) rfl rfl ?aP (fun _ hk => hk.elim) ?aF ?aO ?aB ?aS ?aL ?_; (case aP => exact k44_mkM _ _ _ (⟨t167, t172⟩ : S44)); (case aB => exact y1_); (case aF => exact (fun _ _ => trivial)); (case aO => exact y27_); (case aS => exact (below_size y1_)); (case aL => have := LMc24.out; omega); intro v176 w33 ho hb hg hat; rw [← Ny175.out] at ho; have n0_ := Aside0.mk (hb); have n1_ := Aside0.mk (ho); clear HB; clear HO_4; have HB := n0_; have HO177 := n1_; clear n0_ n1_; clear ho hb hg hat) | ((with_reducible refine gate_callee (f := 59) rfl ?_); refine goesL_ (some 55) rfl rfl Tryd.func59 (by kernel_rfl) rfl #[.string (t171.extract (t173 : Int).toNat t171.size)] rfl y2_ ?_; (with_reducible refine (labels_bare.calls k1 (t171.extract (t173 : Int).toNat t171.size) t178 _ A27.out).mono ?_); rintro e w' ⟨rfl, ⟨nd, rfl⟩⟩; refine ⟨_, rfl, ?_⟩) | ((with_reducible refine gate_callee (f := 60) rfl ?_); refine goesL_ (some 58) rfl rfl Tryd.func60 (by kernel_rfl) rfl #[.string t178, .int .u8 44] rfl y2_ ?_; (with_reducible refine (labels_starts.calls t178 44 true _ A28.out).mono ?_); rintro e w' ⟨rfl, ⟨nd, rfl⟩⟩; refine ⟨_, rfl, ?_⟩) | ((with_reducible refine gate_callee (f := 59) rfl ?_); refine goesL_ (some 61) rfl rfl Tryd.func59 (by kernel_rfl) rfl #[.string (t178.extract 1 t178.size)] rfl y2_ ?_; (with_reducible refine (labels_bare.calls k1 (t178.extract 1 t178.size) t180 _ A31.out).mono ?_); rintro e w' ⟨rfl, ⟨nd, rfl⟩⟩; refine ⟨_, rfl, ?_⟩))
               go_roundg k1
               case measure => have := HK1.out; omega
               case rel => exact ⟨(t180), (y175), y6_, H', ⟨y53_⟩, ⟨y64_⟩, ⟨y1_⟩⟩
              ·rw [if_neg c30] at H
               exact absurd H (by simp)
             ·replace c29 := Bool.eq_false_iff.mpr c29
              subst c29
              have H1 : ((labels_starts.f t178 125).bind fun t181 => (if t181 = true then (if 1 ≤ (t178.size : Int) then ((labels_bare.f k1 (t178.extract 1 t178.size)).bind fun t182 => (if t182.toList = ([] : List UInt8) then ((labels_Make.f k1 y175).bind fun bt183 => (some (bt183.1, bt183.2))) else (some (([] : List (S44)), 8)))) else (none)) else (some (([] : List (S44)), 8)))) = some (r1, r2) := by rw [if_neg (show ¬ (false = true) by decide)] at H; exact H
              clear H
              have H := H1
              clear H1
              replace H := Option.bind_eq_some_iff.mp H
              obtain ⟨t181, A340, H⟩ := H
              replace H : (if t181 = true then (if 1 ≤ (t178.size : Int) then ((labels_bare.f k1 (t178.extract 1 t178.size)).bind fun t182 => (if t182.toList = ([] : List UInt8) then ((labels_Make.f k1 y175).bind fun bt183 => (some (bt183.1, bt183.2))) else (some (([] : List (S44)), 8)))) else (none)) else (some (([] : List (S44)), 8))) = some (r1, r2) := H
              have A34 := Aside0.mk A340
              clear A340
              by_cases c35 : t181 = true
              ·subst c35
               have H1 : (if 1 ≤ (t178.size : Int) then ((labels_bare.f k1 (t178.extract 1 t178.size)).bind fun t182 => (if t182.toList = ([] : List UInt8) then ((labels_Make.f k1 y175).bind fun bt183 => (some (bt183.1, bt183.2))) else (some (([] : List (S44)), 8)))) else (none)) = some (r1, r2) := by rw [if_pos rfl] at H; exact H
               clear H
               have H := H1
               clear H1
               by_cases c36 : 1 ≤ (t178.size : Int)
               ·rw [if_pos c36] at H
                have c36b0 := eq_true c36
                have c36b1 : decide (1 ≤ (t178.size : Int)) = true := decide_eq_true c36
                clear c36
                replace H := Option.bind_eq_some_iff.mp H
                obtain ⟨t182, A370, H⟩ := H
                replace H : (if t182.toList = ([] : List UInt8) then ((labels_Make.f k1 y175).bind fun bt183 => (some (bt183.1, bt183.2))) else (some (([] : List (S44)), 8))) = some (r1, r2) := H
                have A37 := Aside0.mk A370
                clear A370
                by_cases c38 : t182.toList = ([] : List UInt8)
                ·rw [if_pos c38] at H
                 have c38b0 : (t182.toList == ([] : List UInt8)) = true := beq_iff_eq.mpr c38
                 have c38b1 : (t182.toList != ([] : List UInt8)) = false := bne_eq_false_iff_eq.mpr c38
                 clear c38
                 replace H := Option.bind_eq_some_iff.mp H
                 obtain ⟨⟨t183, t184⟩, A390, H⟩ := H
                 replace H : (some (t183, t184)) = some (r1, r2) := H
                 have A39 := Aside0.mk A390
                 clear A390
                 simp only [Option.some.injEq, Prod.mk.injEq] at H
                 obtain ⟨rfl, rfl⟩ := H
                 go_wp2_with (first | ((with_reducible refine gate_callee (f := 60) rfl ?_); refine goesL_ (some 19) rfl rfl Tryd.func60 (by kernel_rfl) rfl #[.string x0_1, .int .u8 125] rfl y2_ ?_; (with_reducible refine (labels_starts.calls x0_1 125 false _ A7.out).mono ?_); rintro e w' ⟨rfl, ⟨nd, rfl⟩⟩; refine ⟨_, rfl, ?_⟩) | ((with_reducible refine gate_callee (f := 61) rfl ?_); refine goesL_ (some 23) rfl rfl Tryd.func61 (by kernel_rfl) rfl #[.string x0_1] rfl y2_ ?_; (with_reducible refine (labels_word.calls k1 x0_1 t167 t168 _ A15.out).mono ?_); rintro e w' ⟨rfl, ⟨nd, rfl⟩⟩; refine ⟨_, rfl, ?_⟩) | ((with_reducible refine gate_callee (f := 59) rfl ?_); refine goesL_ (some 27) rfl rfl Tryd.func59 (by kernel_rfl) rfl #[.string t168] rfl y2_ ?_; (with_reducible refine (labels_bare.calls k1 t168 t169 _ A16.out).mono ?_); rintro e w' ⟨rfl, ⟨nd, rfl⟩⟩; refine ⟨_, rfl, ?_⟩) | (go_at_call 60; (with_reducible refine (labels_starts.calls t169 61 true _ A18.out).mono ?_); rintro e w' ⟨rfl, ⟨nd, rfl⟩⟩) | ((with_reducible refine gate_callee (f := 59) rfl ?_); refine goesL_ (some 37) rfl rfl Tryd.func59 (by kernel_rfl) rfl #[.string (t169.extract 1 t169.size)] rfl y2_ ?_; (with_reducible refine (labels_bare.calls k1 (t169.extract 1 t169.size) t171 _ A21.out).mono ?_); rintro e w' ⟨rfl, ⟨nd, rfl⟩⟩; refine ⟨_, rfl, ?_⟩) | ((with_reducible refine gate_callee (f := 20) rfl ?_); refine goesL_ (some 40) rfl rfl Tryd.func20 (by kernel_rfl) rfl #[.string t171] rfl y2_ ?_; (with_reducible refine (labels_Unquote.calls k1 t171 t172 t173 t174 _ A22.out).mono ?_); rintro e w40 ⟨rfl, hb⟩; refine ⟨_, rfl, ?_⟩; have n0_ := Aside0.mk (Kd.R_below y27_ hb); have n1_ := Aside0.mk (below_step y1_ hb); clear HO_4; clear HB; have HO_4 := n0_; have HB := n1_; clear n0_ n1_; (try clear hb); (try clear hb2); (try clear hk); (try clear hi)) | ((with_reducible refine gate_builtin (b := .append) (xs := #[.tmp 46, .tmp 50]) rfl ?_); at_builtin; refine Kd.R_append k44 (w0 := w) w.heap.size rfl (.tmp 46) (.tmp 50) 29 44 (.agg #[(.string ⟨#[]⟩), (.string ⟨#[]⟩)]) 32 rfl Tryd.underlying29 info44 rfl (by decide) (by omega) u4 x4_1 (⟨t167, t172⟩ : S44) [.string t167, .string t172] (fun _ => True) (fun _ => False) rfl rfl ?aP (fun _ hk => hk.elim) ?aF ?aO ?aB ?aS ?aL ?_; (case aP => exact k44_mkM _ _ _ (⟨t167, t172⟩ : S44)); (case aB => exact y1_); (case aF => exact (fun _ _ => trivial)); (case aO => exact y27_); (case aS => exact (below_size y1_)); (case aL => have := LMc24.out; omega); intro v176 w41 ho hb hg hat; rw [← Ny175.out] at ho; have n0_ := Aside0.mk (hb); have n1_ := Aside0.mk (ho); clear HB; clear HO_4; have HB := n0_; have HO177 := n1_; clear n0_ n1_; clear ho hb hg hat) | ((with_reducible refine gate_callee (f := 59) rfl ?_); refine goesL_ (some 55) rfl rfl Tryd.func59 (by kernel_rfl) rfl #[.string (t171.extract (t173 : Int).toNat t171.size)] rfl y2_ ?_; (with_reducible refine (labels_bare.calls k1 (t171.extract (t173 : Int).toNat t171.size) t178 _ A27.out).mono ?_); rintro e w' ⟨rfl, ⟨nd, rfl⟩⟩; refine ⟨_, rfl, ?_⟩) | ((with_reducible refine gate_callee (f := 60) rfl ?_); refine goesL_ (some 58) rfl rfl Tryd.func60 (by kernel_rfl) rfl #[.string t178, .int .u8 44] rfl y2_ ?_; (with_reducible refine (labels_starts.calls t178 44 false _ A28.out).mono ?_); rintro e w' ⟨rfl, ⟨nd, rfl⟩⟩; refine ⟨_, rfl, ?_⟩) | ((with_reducible refine gate_callee (f := 60) rfl ?_); refine goesL_ (some 64) rfl rfl Tryd.func60 (by kernel_rfl) rfl #[.string t178, .int .u8 125] rfl y2_ ?_; (with_reducible refine (labels_starts.calls t178 125 true _ A34.out).mono ?_); rintro e w' ⟨rfl, ⟨nd, rfl⟩⟩; refine ⟨_, rfl, ?_⟩) | ((with_reducible refine gate_callee (f := 59) rfl ?_); refine goesL_ (some 67) rfl rfl Tryd.func59 (by kernel_rfl) rfl #[.string (t178.extract 1 t178.size)] rfl y2_ ?_; (with_reducible refine (labels_bare.calls k1 (t178.extract 1 t178.size) t182 _ A37.out).mono ?_); rintro e w' ⟨rfl, ⟨nd, rfl⟩⟩; refine ⟨_, rfl, ?_⟩; obtain ⟨Ao42, co42, eo42⟩ := Kd.R_slice HO177.out; subst eo42) | ((with_reducible refine gate_callee (f := 34) rfl ?_); refine goesL_ (some 70) rfl rfl Tryd.func34 (by kernel_rfl) rfl #[.slice Ao42 y175.length co42] rfl y2_ ?_; (with_reducible refine (labels_Make.calls k1 _ _ y175 t183 t184 _ ?side1 ?side2 ?side3 A39.out).mono ?_); (case side1 => exact ⟨Tab_below hT.out y1_⟩); (case side2 => repeat (first | exact (Kd.R_reads' HO177.out).2.2 | (with_reducible refine Kd.C_alloc ?_ _) | (with_reducible refine Kd.C_drewN ?_ _) | (with_reducible refine Kd.C_drew ?_))); (case side3 => exact (Kd.R_reads' HO177.out).2.1); rintro e w43 ⟨v185, rfl, ho0, hb⟩; refine ⟨_, rfl, ?_⟩; have n0_ := Aside0.mk (Kd.R_elder' y64_ (Kd.R_base ho0) hb); have n1_ := Aside0.mk (Kd.R_lower (Kd.R_new' ho0 (Kd.R_lt y64_)) (below_size y1_)); have n2_ := Aside0.mk (below_step y1_ hb); clear HO177; clear HB; have HO177 := n0_; have HO186 := n1_; have HB := n2_; clear n0_ n1_ n2_; (try clear hb); (try clear hb2); (try clear hk); (try clear hi); (try clear ho0)))
                 (try rw [Exit.noGoto_ret])
                 go_ret2
                 exact ⟨_, y7_, by (with_reducible repeat (first | apply Kd.R_alloc | apply Kd.R_drewN | apply Kd.R_drew)); exact Kd.R_mono HO186.out (fun _ hk => trivial), y1_⟩
                ·rw [if_neg c38] at H
                 have c38b0 : (t182.toList == ([] : List UInt8)) = false := beq_eq_false_iff_ne.mpr c38
                 have c38b1 : (t182.toList != ([] : List UInt8)) = true := bne_iff_ne.mpr c38
                 simp only [Option.some.injEq, Prod.mk.injEq] at H
                 obtain ⟨rfl, rfl⟩ := H
                 go_wp2_with (first | ((with_reducible refine gate_callee (f := 60) rfl ?_); refine goesL_ (some 19) rfl rfl Tryd.func60 (by kernel_rfl) rfl #[.string x0_1, .int .u8 125] rfl y2_ ?_; (with_reducible refine (labels_starts.calls x0_1 125 false _ A7.out).mono ?_); rintro e w' ⟨rfl, ⟨nd, rfl⟩⟩; refine ⟨_, rfl, ?_⟩) | ((with_reducible refine gate_callee (f := 61) rfl ?_); refine goesL_ (some 23) rfl rfl Tryd.func61 (by kernel_rfl) rfl #[.string x0_1] rfl y2_ ?_; (with_reducible refine (labels_word.calls k1 x0_1 t167 t168 _ A15.out).mono ?_); rintro e w' ⟨rfl, ⟨nd, rfl⟩⟩; refine ⟨_, rfl, ?_⟩) | ((with_reducible refine gate_callee (f := 59) rfl ?_); refine goesL_ (some 27) rfl rfl Tryd.func59 (by kernel_rfl) rfl #[.string t168] rfl y2_ ?_; (with_reducible refine (labels_bare.calls k1 t168 t169 _ A16.out).mono ?_); rintro e w' ⟨rfl, ⟨nd, rfl⟩⟩; refine ⟨_, rfl, ?_⟩) | (go_at_call 60; (with_reducible refine (labels_starts.calls t169 61 true _ A18.out).mono ?_); rintro e w' ⟨rfl, ⟨nd, rfl⟩⟩) | ((with_reducible refine gate_callee (f := 59) rfl ?_); refine goesL_ (some 37) rfl rfl Tryd.func59 (by kernel_rfl) rfl #[.string (t169.extract 1 t169.size)] rfl y2_ ?_; (with_reducible refine (labels_bare.calls k1 (t169.extract 1 t169.size) t171 _ A21.out).mono ?_); rintro e w' ⟨rfl, ⟨nd, rfl⟩⟩; refine ⟨_, rfl, ?_⟩) | ((with_reducible refine gate_callee (f := 20) rfl ?_); refine goesL_ (some 40) rfl rfl Tryd.func20 (by kernel_rfl) rfl #[.string t171] rfl y2_ ?_; (with_reducible refine (labels_Unquote.calls k1 t171 t172 t173 t174 _ A22.out).mono ?_); rintro e w44 ⟨rfl, hb⟩; refine ⟨_, rfl, ?_⟩; have n0_ := Aside0.mk (Kd.R_below y27_ hb); have n1_ := Aside0.mk (below_step y1_ hb); clear HO_4; clear HB; have HO_4 := n0_; have HB := n1_; clear n0_ n1_; (try clear hb); (try clear hb2); (try clear hk); (try clear hi)) | ((with_reducible refine gate_builtin (b := .append) (xs := #[.tmp 46, .tmp 50]) rfl ?_); at_builtin; refine Kd.R_append k44 (w0 := w) w.heap.size rfl (.tmp 46) (.tmp 50) 29 44 (.agg #[(.string ⟨#[]⟩), (.string ⟨#[]⟩)]) 32 rfl Tryd.underlying29 info44 rfl (by decide) (by omega) u4 x4_1 (⟨t167, t172⟩ : S44) [.string t167, .string t172] (fun _ => True) (fun _ => False) rfl rfl ?aP (fun _ hk => hk.elim) ?aF ?aO ?aB ?aS ?aL ?_; (case aP => exact k44_mkM _ _ _ (⟨t167, t172⟩ : S44)); (case aB => exact y1_); (case aF => exact (fun _ _ => trivial)); (case aO => exact y27_); (case aS => exact (below_size y1_)); (case aL => have := LMc24.out; omega); intro v176 w45 ho hb hg hat; rw [← Ny175.out] at ho; have n0_ := Aside0.mk (hb); have n1_ := Aside0.mk (ho); clear HB; clear HO_4; have HB := n0_; have HO177 := n1_; clear n0_ n1_; clear ho hb hg hat) | ((with_reducible refine gate_callee (f := 59) rfl ?_); refine goesL_ (some 55) rfl rfl Tryd.func59 (by kernel_rfl) rfl #[.string (t171.extract (t173 : Int).toNat t171.size)] rfl y2_ ?_; (with_reducible refine (labels_bare.calls k1 (t171.extract (t173 : Int).toNat t171.size) t178 _ A27.out).mono ?_); rintro e w' ⟨rfl, ⟨nd, rfl⟩⟩; refine ⟨_, rfl, ?_⟩) | ((with_reducible refine gate_callee (f := 60) rfl ?_); refine goesL_ (some 58) rfl rfl Tryd.func60 (by kernel_rfl) rfl #[.string t178, .int .u8 44] rfl y2_ ?_; (with_reducible refine (labels_starts.calls t178 44 false _ A28.out).mono ?_); rintro e w' ⟨rfl, ⟨nd, rfl⟩⟩; refine ⟨_, rfl, ?_⟩) | ((with_reducible refine gate_callee (f := 60) rfl ?_); refine goesL_ (some 64) rfl rfl Tryd.func60 (by kernel_rfl) rfl #[.string t178, .int .u8 125] rfl y2_ ?_; (with_reducible refine (labels_starts.calls t178 125 true _ A34.out).mono ?_); rintro e w' ⟨rfl, ⟨nd, rfl⟩⟩; refine ⟨_, rfl, ?_⟩) | ((with_reducible refine gate_callee (f := 59) rfl ?_); refine goesL_ (some 67) rfl rfl Tryd.func59 (by kernel_rfl) rfl #[.string (t178.extract 1 t178.size)] rfl y2_ ?_; (with_reducible refine (labels_bare.calls k1 (t178.extract 1 t178.size) t182 _ A37.out).mono ?_); rintro e w' ⟨rfl, ⟨nd, rfl⟩⟩; refine ⟨_, rfl, ?_⟩))
                 (try rw [Exit.noGoto_ret])
                 go_ret2
                 exact ⟨_, y7_, y11_, y1_⟩
               ·rw [if_neg c36] at H
                exact absurd H (by simp)
              ·replace c35 := Bool.eq_false_iff.mpr c35
               subst c35
               have H1 : (some (([] : List (S44)), 8)) = some (r1, r2) := by rw [if_neg (show ¬ (false = true) by decide)] at H; exact H
               clear H
               have H := H1
               clear H1
               simp only [Option.some.injEq, Prod.mk.injEq] at H
               obtain ⟨rfl, rfl⟩ := H
               go_wp2_with (first | ((with_reducible refine gate_callee (f := 60) rfl ?_); refine goesL_ (some 19) rfl rfl Tryd.func60 (by kernel_rfl) rfl #[.string x0_1, .int .u8 125] rfl y2_ ?_; (with_reducible refine (labels_starts.calls x0_1 125 false _ A7.out).mono ?_); rintro e w' ⟨rfl, ⟨nd, rfl⟩⟩; refine ⟨_, rfl, ?_⟩) | ((with_reducible refine gate_callee (f := 61) rfl ?_); refine goesL_ (some 23) rfl rfl Tryd.func61 (by kernel_rfl) rfl #[.string x0_1] rfl y2_ ?_; (with_reducible refine (labels_word.calls k1 x0_1 t167 t168 _ A15.out).mono ?_); rintro e w' ⟨rfl, ⟨nd, rfl⟩⟩; refine ⟨_, rfl, ?_⟩) | ((with_reducible refine gate_callee (f := 59) rfl ?_); refine goesL_ (some 27) rfl rfl Tryd.func59 (by kernel_rfl) rfl #[.string t168] rfl y2_ ?_; (with_reducible refine (labels_bare.calls k1 t168 t169 _ A16.out).mono ?_); rintro e w' ⟨rfl, ⟨nd, rfl⟩⟩; refine ⟨_, rfl, ?_⟩) | (go_at_call 60; (with_reducible refine (labels_starts.calls t169 61 true _ A18.out).mono ?_); rintro e w' ⟨rfl, ⟨nd, rfl⟩⟩) | ((with_reducible refine gate_callee (f := 59) rfl ?_); refine goesL_ (some 37) rfl rfl Tryd.func59 (by kernel_rfl) rfl #[.string (t169.extract 1 t169.size)] rfl y2_ ?_; (with_reducible refine (labels_bare.calls k1 (t169.extract 1 t169.size) t171 _ A21.out).mono ?_); rintro e w' ⟨rfl, ⟨nd, rfl⟩⟩; refine ⟨_, rfl, ?_⟩) | ((with_reducible refine gate_callee (f := 20) rfl ?_); refine goesL_ (some 40) rfl rfl Tryd.func20 (by kernel_rfl) rfl #[.string t171] rfl y2_ ?_; (with_reducible refine (labels_Unquote.calls k1 t171 t172 t173 t174 _ A22.out).mono ?_); rintro e w46 ⟨rfl, hb⟩; refine ⟨_, rfl, ?_⟩; have n0_ := Aside0.mk (Kd.R_below y27_ hb); have n1_ := Aside0.mk (below_step y1_ hb); clear HO_4; clear HB; have HO_4 := n0_; have HB := n1_; clear n0_ n1_; (try clear hb); (try clear hb2); (try clear hk); (try clear hi)) | ((with_reducible refine gate_builtin (b := .append) (xs := #[.tmp 46, .tmp 50]) rfl ?_); at_builtin; refine Kd.R_append k44 (w0 := w) w.heap.size rfl (.tmp 46) (.tmp 50) 29 44 (.agg #[(.string ⟨#[]⟩), (.string ⟨#[]⟩)]) 32 rfl Tryd.underlying29 info44 rfl (by decide) (by omega) u4 x4_1 (⟨t167, t172⟩ : S44) [.string t167, .string t172] (fun _ => True) (fun _ => False) rfl rfl ?aP (fun _ hk => hk.elim) ?aF ?aO ?aB ?aS ?aL ?_; (case aP => exact k44_mkM _ _ _ (⟨t167, t172⟩ : S44)); (case aB => exact y1_); (case aF => exact (fun _ _ => trivial)); (case aO => exact y27_); (case aS => exact (below_size y1_)); (case aL => have := LMc24.out; omega); intro v176 w47 ho hb hg hat; rw [← Ny175.out] at ho; have n0_ := Aside0.mk (hb); have n1_ := Aside0.mk (ho); clear HB; clear HO_4; have HB := n0_; have HO177 := n1_; clear n0_ n1_; clear ho hb hg hat) | ((with_reducible refine gate_callee (f := 59) rfl ?_); refine goesL_ (some 55) rfl rfl Tryd.func59 (by kernel_rfl) rfl #[.string (t171.extract (t173 : Int).toNat t171.size)] rfl y2_ ?_; (with_reducible refine (labels_bare.calls k1 (t171.extract (t173 : Int).toNat t171.size) t178 _ A27.out).mono ?_); rintro e w' ⟨rfl, ⟨nd, rfl⟩⟩; refine ⟨_, rfl, ?_⟩) | ((with_reducible refine gate_callee (f := 60) rfl ?_); refine goesL_ (some 58) rfl rfl Tryd.func60 (by kernel_rfl) rfl #[.string t178, .int .u8 44] rfl y2_ ?_; (with_reducible refine (labels_starts.calls t178 44 false _ A28.out).mono ?_); rintro e w' ⟨rfl, ⟨nd, rfl⟩⟩; refine ⟨_, rfl, ?_⟩) | ((with_reducible refine gate_callee (f := 60) rfl ?_); refine goesL_ (some 64) rfl rfl Tryd.func60 (by kernel_rfl) rfl #[.string t178, .int .u8 125] rfl y2_ ?_; (with_reducible refine (labels_starts.calls t178 125 false _ A34.out).mono ?_); rintro e w' ⟨rfl, ⟨nd, rfl⟩⟩; refine ⟨_, rfl, ?_⟩))
               (try rw [Exit.noGoto_ret])
               go_ret2
               exact ⟨_, y7_, y11_, y1_⟩
            ·rw [if_neg c26] at H
             exact absurd H (by simp)
           ·rw [if_neg c25] at H
            exact absurd H (by simp)
          ·rw [if_neg c24] at H
           exact absurd H (by simp)
         ·rw [if_neg c23] at H
          have c23b0 : (t174 == 0) = false := beq_eq_false_iff_ne.mpr c23
          have c23b1 : (t174 != 0) = true := bne_iff_ne.mpr c23
          simp only [Option.some.injEq, Prod.mk.injEq] at H
          obtain ⟨rfl, rfl⟩ := H
          go_wp2_with (first | ((with_reducible refine gate_callee (f := 60) rfl ?_); refine goesL_ (some 19) rfl rfl Tryd.func60 (by kernel_rfl) rfl #[.string x0_1, .int .u8 125] rfl y2_ ?_; (with_reducible refine (labels_starts.calls x0_1 125 false _ A7.out).mono ?_); rintro e w' ⟨rfl, ⟨nd, rfl⟩⟩; refine ⟨_, rfl, ?_⟩) | ((with_reducible refine gate_callee (f := 61) rfl ?_); refine goesL_ (some 23) rfl rfl Tryd.func61 (by kernel_rfl) rfl #[.string x0_1] rfl y2_ ?_; (with_reducible refine (labels_word.calls k1 x0_1 t167 t168 _ A15.out).mono ?_); rintro e w' ⟨rfl, ⟨nd, rfl⟩⟩; refine ⟨_, rfl, ?_⟩) | ((with_reducible refine gate_callee (f := 59) rfl ?_); refine goesL_ (some 27) rfl rfl Tryd.func59 (by kernel_rfl) rfl #[.string t168] rfl y2_ ?_; (with_reducible refine (labels_bare.calls k1 t168 t169 _ A16.out).mono ?_); rintro e w' ⟨rfl, ⟨nd, rfl⟩⟩; refine ⟨_, rfl, ?_⟩) | (go_at_call 60; (with_reducible refine (labels_starts.calls t169 61 true _ A18.out).mono ?_); rintro e w' ⟨rfl, ⟨nd, rfl⟩⟩) | ((with_reducible refine gate_callee (f := 59) rfl ?_); refine goesL_ (some 37) rfl rfl Tryd.func59 (by kernel_rfl) rfl #[.string (t169.extract 1 t169.size)] rfl y2_ ?_; (with_reducible refine (labels_bare.calls k1 (t169.extract 1 t169.size) t171 _ A21.out).mono ?_); rintro e w' ⟨rfl, ⟨nd, rfl⟩⟩; refine ⟨_, rfl, ?_⟩) | ((with_reducible refine gate_callee (f := 20) rfl ?_); refine goesL_ (some 40) rfl rfl Tryd.func20 (by kernel_rfl) rfl #[.string t171] rfl y2_ ?_; (with_reducible refine (labels_Unquote.calls k1 t171 t172 t173 t174 _ A22.out).mono ?_); rintro e w48 ⟨rfl, hb⟩; refine ⟨_, rfl, ?_⟩; have n0_ := Aside0.mk (Kd.R_below y27_ hb); have n1_ := Aside0.mk (below_step y1_ hb); clear HO_4; clear HB; have HO_4 := n0_; have HB := n1_; clear n0_ n1_; (try clear hb); (try clear hb2); (try clear hk); (try clear hi)))
          (try rw [Exit.noGoto_ret])
          go_ret2
          exact ⟨_, y7_, y11_, y1_⟩
        ·rw [if_neg c20] at H
         exact absurd H (by simp)
       ·replace c19 := Bool.eq_false_iff.mpr c19
        subst c19
        have H1 : (some (([] : List (S44)), 8)) = some (r1, r2) := by rw [if_neg (show ¬ (false = true) by decide)] at H; exact H
        clear H
        have H := H1
        clear H1
        simp only [Option.some.injEq, Prod.mk.injEq] at H
        obtain ⟨rfl, rfl⟩ := H
        go_wp2_with (first | ((with_reducible refine gate_callee (f := 60) rfl ?_); refine goesL_ (some 19) rfl rfl Tryd.func60 (by kernel_rfl) rfl #[.string x0_1, .int .u8 125] rfl y2_ ?_; (with_reducible refine (labels_starts.calls x0_1 125 false _ A7.out).mono ?_); rintro e w' ⟨rfl, ⟨nd, rfl⟩⟩; refine ⟨_, rfl, ?_⟩) | ((with_reducible refine gate_callee (f := 61) rfl ?_); refine goesL_ (some 23) rfl rfl Tryd.func61 (by kernel_rfl) rfl #[.string x0_1] rfl y2_ ?_; (with_reducible refine (labels_word.calls k1 x0_1 t167 t168 _ A15.out).mono ?_); rintro e w' ⟨rfl, ⟨nd, rfl⟩⟩; refine ⟨_, rfl, ?_⟩) | ((with_reducible refine gate_callee (f := 59) rfl ?_); refine goesL_ (some 27) rfl rfl Tryd.func59 (by kernel_rfl) rfl #[.string t168] rfl y2_ ?_; (with_reducible refine (labels_bare.calls k1 t168 t169 _ A16.out).mono ?_); rintro e w' ⟨rfl, ⟨nd, rfl⟩⟩; refine ⟨_, rfl, ?_⟩) | (go_at_call 60; (with_reducible refine (labels_starts.calls t169 61 false _ A18.out).mono ?_); rintro e w' ⟨rfl, ⟨nd, rfl⟩⟩))
        (try rw [Exit.noGoto_ret])
        go_ret2
        exact ⟨_, y7_, y11_, y1_⟩
  ·rw [if_neg c5] at H
   exact absurd H (by simp)
 ·replace c4 := Bool.eq_false_iff.mpr c4
  subst c4
  have H1 : (some (([] : List (S44)), 8)) = some (r1, r2) := by rw [if_neg (show ¬ (false = true) by decide)] at H; exact H
  clear H
  have H := H1
  clear H1
  simp only [Option.some.injEq, Prod.mk.injEq] at H
  obtain ⟨rfl, rfl⟩ := H
  go_enter Tryd.func25, Tryd.ntmps25
  go_wp2
  go_step3
  go_wp2_with (first | ((with_reducible refine gate_callee (f := 59) rfl ?_); refine goesL_ (some 11) rfl rfl Tryd.func59 (by kernel_rfl) rfl #[.string a0] rfl y2_ ?_; (with_reducible refine (labels_bare.calls k a0 t158 _ A2.out).mono ?_); rintro e w' ⟨rfl, ⟨nd, rfl⟩⟩; refine ⟨_, rfl, ?_⟩) | ((with_reducible refine gate_callee (f := 60) rfl ?_); refine goesL_ (some 13) rfl rfl Tryd.func60 (by kernel_rfl) rfl #[.string t158, .int .u8 123] rfl y2_ ?_; (with_reducible refine (labels_starts.calls t158 123 false _ A3.out).mono ?_); rintro e w' ⟨rfl, ⟨nd, rfl⟩⟩; refine ⟨_, rfl, ?_⟩))
  (try rw [Exit.noGoto_ret])
  go_ret2
  exact ⟨_, y7_, y11_, y1_⟩
end Go.Proofs.YtdhmabofncbohaaDoor.PLC
